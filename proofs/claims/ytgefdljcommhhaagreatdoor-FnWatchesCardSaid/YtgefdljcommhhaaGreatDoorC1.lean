/- Typed data as abstract values: numbers, texts, lists; and what the law's opening gives of them. -/
import Derived.Test.YtgefdljcommhhaaGreatDoorL5
namespace Go.Av
set_option linter.unusedVariables false
set_option linter.unusedSimpArgs false

def encI (n : Int) : V := .int .i64 n
def encB (b : Bool) : V := .bool b
/-- A byte. -/
def encY (n : Int) : V := .int .u8 n
def decY : V → Int
  | .int _ n => n
  | _ => 0
@[simp] theorem decY_encY (n : Int) : decY (encY n) = n := rfl
def encS (s : ByteArray) : V := .str s
/-- A row of typed elements. -/
def gL {α : Type} [Inhabited α] (enc : α → V) (xs : List α) : Nat → V := fun i => enc (xs.getD i default)
def encL {α : Type} [Inhabited α] (enc : α → V) (t : Nat) (xs : List α) : V := .sl xs.length (gL enc xs) t

def decI : V → Int
  | .int _ n => n
  | _ => 0
def decB : V → Bool
  | .bool b => b
  | _ => false
def decS : V → ByteArray
  | .str s => s
  | _ => default
def decL {α : Type} (dec : V → α) : V → List α
  | .sl n g _ => (List.range n).map fun i => dec (g i)
  | _ => []

@[simp] theorem decI_encI (n : Int) : decI (encI n) = n := rfl
@[simp] theorem decI_int (k : IntKind) (n : Int) : decI (.int k n) = n := rfl
@[simp] theorem decB_encB (b : Bool) : decB (encB b) = b := rfl
@[simp] theorem decB_bool (b : Bool) : decB (.bool b) = b := rfl
@[simp] theorem decS_encS (s : ByteArray) : decS (encS s) = s := rfl
@[simp] theorem decS_str (s : ByteArray) : decS (.str s) = s := rfl
theorem decL_encL {α : Type} [Inhabited α] {enc : α → V} {dec : V → α} (h : ∀ x, dec (enc x) = x) (t : Nat) (xs : List α) : decL dec (encL enc t xs) = xs := by
  unfold encL decL
  refine List.ext_getElem (by simp) fun i h1 h2 => ?_
  simp [gL, h, h2]
theorem decL_sl {α : Type} [Inhabited α] {enc : α → V} {dec : V → α} (h : ∀ x, dec (enc x) = x) (t : Nat) (xs : List α) : decL dec (.sl xs.length (gL enc xs) t) = xs := decL_encL h t xs
@[simp] theorem decL_bytes (t : Nat) (xs : List Int) : decL decY (encL encY t xs) = xs := decL_encL decY_encY t xs
@[simp] theorem decL_nil {α : Type} (dec : V → α) : decL dec .nil = [] := rfl
/-- A piece of a row. -/
theorem decL_take {α : Type} [Inhabited α] {enc : α → V} {dec : V → α} (h : ∀ x, dec (enc x) = x) (t : Nat) (xs : List α) (n : Nat) (hn : n ≤ xs.length) : decL dec (.sl n (gL enc xs) t) = xs.take n := by
  unfold decL
  refine List.ext_getElem (by simp; omega) fun i h1 h2 => ?_
  have : i < xs.length := by simp at h1; omega
  simp [gL, h, this]
theorem decL_drop {α : Type} [Inhabited α] {enc : α → V} {dec : V → α} (h : ∀ x, dec (enc x) = x) (t : Nat) (xs : List α) (n l : Nat) (hn : l + n ≤ xs.length) : decL dec (.sl n (dropg (gL enc xs) l) t) = (xs.drop l).take n := by
  unfold decL
  refine List.ext_getElem (by simp; omega) fun i h1 h2 => ?_
  have : l + i < xs.length := by simp at h1; omega
  simp [gL, dropg, h, this]

/-- A whole number's variable. -/
def encPInt (t : Nat) (n : Int) : V := .ptr [.int .i64 n] 0 t
def decPInt : V → Int
  | .ptr (c :: _) _ _ => decI c
  | _ => 0
@[simp] theorem dec_encPInt (t : Nat) (n : Int) : decPInt (encPInt t n) = n := rfl

/-- What is owed at an operation behind a guard where it leans on another behind the same one. -/
def tq (x : Bool) : Prop := x = true → x = true → x = true
@[simp] theorem tq_iff (x : Bool) : tq x ↔ True := ⟨fun _ => trivial, fun _ => fun h _ => h⟩

/-- A list's variable. -/
def encPL {α : Type} [Inhabited α] (enc : α → V) (t : Nat) (xs : List α) : V := .ptr [encL enc t xs] 0 t
def decPL {α : Type} (dec : V → α) : V → List α
  | .ptr (c :: _) _ _ => decL dec c
  | _ => []
theorem dec_encPL {α : Type} [Inhabited α] {enc : α → V} {dec : V → α} (h : ∀ x, dec (enc x) = x) (t : Nat) (xs : List α) : decPL dec (encPL enc t xs) = xs := decL_encL h t xs

theorem gL_lt {α : Type} [Inhabited α] (enc : α → V) (xs : List α) (i : Nat) (h : i < xs.length) : gL enc xs i = enc xs[i] := by simp [gL, h]

theorem getD_set_ne {α : Type} (l : List α) (i k : Nat) (x : α) {d : α} (h : k ≠ i) : (l.set i x).getD k d = l.getD k d := by
  simp [List.getElem?_set_ne (Ne.symm h)]
theorem getD_set_eq {α : Type} (l : List α) (i : Nat) (x d : α) (h : i < l.length) : (l.set i x).getD i d = x := by
  simp [h]

/-! ### Values told anew -/
theorem vle_encL {α : Type} [Inhabited α] {enc : α → V} {n : Nat} {g : Nat → V} {t t' : Nat} {xs : List α} (hn : n = xs.length) (h : ∀ i (hi : i < xs.length), ELe (g i) (enc xs[i])) (ht : t' = t ∨ t' = 0) : VLe (.sl n g t) (encL enc t' xs) := by
  subst hn
  exact vle_sl (fun i hi => by rw [gL_lt _ _ _ hi]; exact h i hi) ht
theorem vle_encL_eq {α : Type} [Inhabited α] {enc : α → V} {n : Nat} {g : Nat → V} {t t' : Nat} {xs : List α} (hn : n = xs.length) (h : ∀ i (hi : i < xs.length), g i = enc xs[i]) (ht : t' = t ∨ t' = 0) : VLe (.sl n g t) (encL enc t' xs) :=
  vle_encL hn (fun i hi => ELe.of_eq (h i hi)) ht
/-- A number of 64 bits, by a short name. -/
def vi (n : Int) : V := .int .i64 n
theorem vle_nilL {α : Type} [Inhabited α] (enc : α → V) (t : Nat) : VLe .nil (encL enc t []) := vle_nil _ _
theorem vle_tag0 {α : Type} [Inhabited α] (enc : α → V) (t : Nat) (xs : List α) : VLe (encL enc t xs) (encL enc 0 xs) := vle_sl_eq (fun _ _ => rfl) (Or.inr rfl)
theorem vle_int {k : IntKind} {a b : Int} (h : a = b) : VLe (.int k a) (.int k b) := VLe.of_eq (by rw [h])
theorem vle_bool {a b : Bool} (h : a = b) : VLe (.bool a) (.bool b) := VLe.of_eq (by rw [h])
theorem vle_str {a b : ByteArray} (h : a = b) : VLe (.str a) (.str b) := VLe.of_eq (by rw [h])

def PLes : List V → List V → Prop
  | [], [] => True
  | v :: r, v' :: r' => PLe v v' ∧ PLes r r'
  | _, _ => False
theorem PLes.len : ∀ {a b : List V}, PLes a b → b.length = a.length
  | [], [], _ => rfl
  | _ :: _, _ :: _, h => by simp [h.2.len]
  | [], _ :: _, h => h.elim
  | _ :: _, [], h => h.elim
theorem PLes.at : ∀ {a b : List V}, PLes a b → ∀ j, j < a.length → PLe (a.getD j .undef) (b.getD j .undef)
  | [], [], _, _, hj => by simp at hj
  | _ :: _, _ :: _, h, 0, _ => by simpa using h.1
  | _ :: _, _ :: _, h, j + 1, hj => by simpa using h.2.at j (by simpa using hj)
  | [], _ :: _, h, _, _ => h.elim
  | _ :: _, [], h, _, _ => h.elim
theorem ele_of {v v' : V} (h : PLes v.cells v'.cells) : ELe v v' := ⟨h.len, h.at⟩
theorem ple_encL {α : Type} [Inhabited α] (enc : α → V) (t t' : Nat) (xs : List α) : PLe (encL enc t xs) (encL enc t' xs) := ple_sl_eq fun _ _ => rfl
theorem ele_encL {α : Type} [Inhabited α] (enc : α → V) (t t' : Nat) (xs : List α) : ELe (encL enc t xs) (encL enc t' xs) := ele_of ⟨ple_encL _ _ _ _, trivial⟩

@[simp] theorem vle_self (v : V) : VLe v v ↔ True := ⟨fun _ => trivial, fun _ => VLe.refl v⟩
def w0 : World := { heap := #[], tape := fun _ _ => 0, drawn := 0, output := #[], os := default }
theorem vle_atom {v v' : V} {x : Value} (h : VLe v v') (hv : TRep w0 (fun _ _ => False) (fun _ => none) v x) : TRep w0 (fun _ _ => False) (fun _ => none) v' x :=
  h.le _ _ _ _ (fun _ h => h) (fun _ _ h => h) hv
@[simp] theorem vle_bool_iff {a b : Bool} : VLe (.bool a) (.bool b) ↔ a = b := ⟨fun h => by
  have := inv_bool (vle_atom h (.atom rfl (.bool _)))
  cases this; rfl, vle_bool⟩
@[simp] theorem vle_int_iff {k : IntKind} {a b : Int} : VLe (.int k a) (.int k b) ↔ a = b := ⟨fun h => by
  have := inv_int (vle_atom h (.atom rfl (.int _ _)))
  cases this; rfl, vle_int⟩
@[simp] theorem vle_str_iff {a b : ByteArray} : VLe (.str a) (.str b) ↔ a = b := ⟨fun h => by
  have := inv_str (vle_atom h (.atom rfl (.str _)))
  cases this; rfl, vle_str⟩

/-! ### Blocks told anew -/
theorem ble_encL {α : Type} [Inhabited α] {enc : α → V} {sz n : Nat} {g : Nat → V} {te te' : Nat} {xs : List α} (hn : n = xs.length) (h : ∀ i (hi : i < xs.length), ELe (g i) (enc xs[i])) (ht : te' = te ∨ te' = 0 ∨ te = tagS ∨ n = 0) : BLe (.arr sz n g te) (.arr sz xs.length (gL enc xs) te') := by
  subst hn
  exact ble_arr (fun i hi => by rw [gL_lt _ _ _ hi]; exact h i hi) ht

/-! ### Cells -/
/-- One more element. -/
theorem ble_mp {z : V} {f f' : Int → V} {h h' : Int → Bool} (hf : ∀ k, f k = f' k) (hh : ∀ k, h k = h' k) : BLe (.mp z f h) (.mp z f' h') := by
  rw [funext hf, funext hh]
  exact BLe.refl _
theorem ble_push {α : Type} [Inhabited α] {enc : α → V} {sz n : Nat} {h : Nat → V} {te : Nat} {xs : List α} {x : α} (hn : xs.length = n) (hx : h 0 = enc x) :
    BLe (.arr sz (n + 1) (appg n (gL enc xs) h) te) (.arr sz (n + 1) (gL enc (xs ++ [x])) te) := by
  refine ble_arr (fun k hk => ELe.of_eq ?_) (Or.inl rfl)
  simp only [appg, gL]
  by_cases hk' : k < n
  · rw [if_pos hk']
    have : k < xs.length := by omega
    simp [List.getElem?_append_left this]
  · have hk0 : k = n := by omega
    subst hk0
    rw [if_neg (Nat.lt_irrefl _), Nat.sub_self, hx]
    subst hn
    simp

/-- A cell told anew, in frozen memory and in a slot. -/
def CLe (v v' : V) : Prop := PLe v v' ∧ VLe v v'
theorem CLe.refl (v : V) : CLe v v := ⟨PLe.refl v, VLe.refl v⟩
def CLes : List V → List V → Prop
  | [], [] => True
  | v :: r, v' :: r' => CLe v v' ∧ CLes r r'
  | _, _ => False
theorem CLes.append : ∀ {a a' b b' : List V}, CLes a a' → CLes b b' → CLes (a ++ b) (a' ++ b')
  | [], [], _, _, _, h => h
  | _ :: _, _ :: _, _, _, h, h' => ⟨h.1, h.2.append h'⟩
  | [], _ :: _, _, _, h, _ => h.elim
  | _ :: _, [], _, _, h, _ => h.elim
theorem CLes.vles : ∀ {a b : List V}, CLes a b → VLes a b
  | [], [], _ => trivial
  | _ :: _, _ :: _, h => ⟨h.1.2, h.2.vles⟩
  | [], _ :: _, h => h.elim
  | _ :: _, [], h => h.elim
theorem CLes.len : ∀ {a b : List V}, CLes a b → b.length = a.length
  | [], [], _ => rfl
  | _ :: _, _ :: _, h => by simp [h.2.len]
  | [], _ :: _, h => h.elim
  | _ :: _, [], h => h.elim
theorem CLes.at : ∀ {a b : List V}, CLes a b → ∀ j, j < a.length → PLe (a.getD j .undef) (b.getD j .undef)
  | [], [], _, _, hj => by simp at hj
  | _ :: _, _ :: _, h, 0, _ => by simpa using h.1.1
  | _ :: _, _ :: _, h, j + 1, hj => by simpa using h.2.at j (by simpa using hj)
  | [], _ :: _, h, _, _ => h.elim
  | _ :: _, [], h, _, _ => h.elim
theorem CLes.ele {v v' : V} (h : CLes v.cells v'.cells) : ELe v v' := ⟨h.len, h.at⟩

/-! ### What the law's opening gives -/
structure Tyd {α : Type} (P : Program) (n t : Nat) (agg : Bool) (enc : α → V) (bd : α → Prop) : Prop where
  ag : aggT P t = agg
  form : agg = false → ∀ x l, enc x ≠ .agg l
  form' : agg = true → ∀ x, ∃ l, enc x = .agg l
  tyd : ∀ {H : Type} {en : TypeId × Value → H} {w : World} {base : Nat} {sp : Nat → Bool} {held : Bool} {fuel : Nat} {cs : List Value} {d : DataW H} {ps : List MemPlace},
    DataW.trod en P w base sp held fuel t cs = some (d, ps) → ∃ x, bd x ∧ CLes (cellsD P n t d) (enc x).cells

theorem tyd_int {P : Program} {n t : Nat} {k : IntKind} (hu : P.underlying t = some (.int k)) : Tyd P (n + 1) t false (fun x : Int => .int k x) (fun x => (Lit.int k x).wf = true) where
  ag := by simp [aggT, hu, isAggD]
  form := fun _ x l h => by cases h
  form' := fun h => by cases h
  tyd := fun {H en w base sp held fuel cs d ps} h => by
    cases fuel with
    | zero => simp [DataW.trod] at h
    | succ fuel =>
      obtain ⟨m, rfl, hd⟩ := trod_int hu h
      simp only at hd
      subst hd
      unfold DataW.trod at h
      simp only [hu] at h
      split at h
      · rename_i hw
        refine ⟨m, hw.2, ?_⟩
        simp only [cellsD, hu]
        exact ⟨CLe.refl _, trivial⟩
      · simp at h

theorem tyd_bool {P : Program} {n t : Nat} (hu : P.underlying t = some .bool) : Tyd P (n + 1) t false encB (fun _ => True) where
  ag := by simp [aggT, hu, isAggD]
  form := fun _ x l h => by cases h
  form' := fun h => by cases h
  tyd := fun {H en w base sp held fuel cs d ps} h => by
    cases fuel with
    | zero => simp [DataW.trod] at h
    | succ fuel =>
      obtain ⟨m, rfl, hd⟩ := trod_bool hu h
      simp only at hd
      subst hd
      refine ⟨m, trivial, ?_⟩
      simp only [cellsD, hu]
      exact ⟨CLe.refl _, trivial⟩

theorem tyd_str {P : Program} {n t : Nat} (hu : P.underlying t = some .string) : Tyd P (n + 1) t false encS (fun s => s.size ≤ maxLen) where
  ag := by simp [aggT, hu, isAggD]
  form := fun _ x l h => by cases h
  form' := fun h => by cases h
  tyd := fun {H en w base sp held fuel cs d ps} h => by
    cases fuel with
    | zero => simp [DataW.trod] at h
    | succ fuel =>
      obtain ⟨m, rfl, hd⟩ := trod_string hu h
      simp only at hd
      subst hd
      have hm : m.size ≤ maxLen := by
        unfold DataW.trod at h
        simp only [hu] at h
        split at h
        · assumption
        · simp at h
      refine ⟨m, hm, ?_⟩
      simp only [cellsD, hu]
      exact ⟨CLe.refl _, trivial⟩

theorem choose_list {α : Type} [Inhabited α] {p : Nat → α → Prop} : ∀ (n : Nat), (∀ i, i < n → ∃ x, p i x) → ∃ xs : List α, xs.length = n ∧ ∀ i (hi : i < xs.length), p i xs[i]
  | 0, _ => ⟨[], rfl, fun i hi => by simp at hi⟩
  | n + 1, h => by
    obtain ⟨xs, hl, hx⟩ := choose_list n fun i hi => h i (by omega)
    obtain ⟨x, hp⟩ := h n (by omega)
    refine ⟨xs ++ [x], by simp [hl], fun i hi => ?_⟩
    rcases Nat.lt_or_ge i xs.length with h1 | h1
    · rw [List.getElem_append_left h1]; exact hx i h1
    · have : i = n := by simp at hi; omega
      subst this
      subst hl
      simpa using hp

theorem tyd_slice {α : Type} [Inhabited α] {P : Program} {n t e : Nat} {agg : Bool} {enc : α → V} {bd : α → Prop} (hu : P.underlying t = some (.slice e)) (hp : plainT P n e = true) (h : Tyd P n e agg enc bd) :
    Tyd P (n + 1) t false (encL enc 1) (fun xs => xs.length ≤ maxLen ∧ ∀ x ∈ xs, bd x) where
  ag := by simp [aggT, hu, isAggD]
  form := fun _ x l h => by cases h
  form' := fun h => by cases h
  tyd := fun {H en w base sp held fuel cs d ps} ht => by
    cases fuel with
    | zero => simp [DataW.trod] at ht
    | succ fuel =>
      rcases Go.Deep.open_slice hu ht with ⟨rfl, hx⟩ | ⟨a, len, cap, m, n', D, Pl, rfl, hb, hlc, hcm, hm, hx, hi⟩
      · cases hx
        refine ⟨[], ⟨by simp, fun x hx => by simp at hx⟩, ?_⟩
        simp only [cellsD, hu]
        exact ⟨⟨ple_nil _ _, vle_nil _ _⟩, trivial⟩
      · cases hx
        have hle : len ≤ m := by rw [hm]; split <;> omega
        have key : ∀ i, i < len → ∃ x, bd x ∧ ELe (elemV (aggT P e) (cellsD P n e (D i))) (enc x) := by
          intro i hi'
          obtain ⟨cs', _, htr⟩ := hi i (by omega)
          obtain ⟨x, hbx, hc⟩ := h.tyd htr
          refine ⟨x, hbx, CLes.ele ?_⟩
          rw [elemV_cells fun ha => cellsD_single hp ha htr]
          exact hc
        obtain ⟨xs, hl, hxs⟩ := choose_list len key
        refine ⟨xs, ⟨by omega, fun x hx => ?_⟩, ?_⟩
        · obtain ⟨i, hi', rfl⟩ := List.getElem_of_mem hx
          exact (hxs i hi').1
        · simp only [cellsD, hu, List.length_map, List.length_range, encL, V.cells]
          have hel : ∀ i, i < len → ELe (elemV (aggT P e) (cellsD P n e (((List.range len).map D).getD i .nil))) (gL enc xs i) := by
            intro i hi'
            have e1 : ((List.range len).map D).getD i .nil = D i := by simp [List.getD, hi']
            rw [e1, gL_lt _ _ _ (by omega)]
            exact (hxs i (by omega)).2
          rw [hl]
          exact ⟨⟨ple_sl hel, vle_sl hel (Or.inl rfl)⟩, trivial⟩

/-- The same for the fields of a struct. -/
structure TydF {β : Type} (P : Program) (n : Nat) (fs : List Field) (cells : β → List V) (bd : β → Prop) : Prop where
  tyd : ∀ {H : Type} {en : TypeId × Value → H} {w : World} {base : Nat} {sp : Nat → Bool} {held : Bool} {fuel : Nat} {cs : List Value} {xs : List (DataW H × List MemPlace)},
    (fs.mapM fun f => DataW.trod en P w base sp held fuel f.type ((cs.drop f.offset).take (P.cellsOf f.type))) = some xs → ∃ x, bd x ∧ CLes ((fs.zip (xs.map (·.1))).flatMap fun p => cellsD P n p.1.type p.2) (cells x)

theorem tydF_nil {P : Program} {n : Nat} : TydF (β := Unit) P n [] (fun _ => []) (fun _ => True) where
  tyd := fun h => by
    simp at h
    subst h
    exact ⟨(), trivial, trivial⟩

theorem tydF_cons {α β : Type} {P : Program} {n : Nat} {f : Field} {fs : List Field} {agg : Bool} {enc : α → V} {bd : α → Prop} {cells : β → List V} {bd' : β → Prop} (h : Tyd P n f.type agg enc bd) (h' : TydF P n fs cells bd') :
    TydF P n (f :: fs) (fun x : α × β => (enc x.1).cells ++ cells x.2) (fun x => bd x.1 ∧ bd' x.2) where
  tyd := fun {H en w base sp held fuel cs xs} hm => by
    rw [List.mapM_cons] at hm
    cases ha : DataW.trod en P w base sp held fuel f.type ((cs.drop f.offset).take (P.cellsOf f.type)) with
    | none => rw [ha] at hm; simp at hm
    | some y =>
      cases hr : (fs.mapM fun f => DataW.trod en P w base sp held fuel f.type ((cs.drop f.offset).take (P.cellsOf f.type))) with
      | none => rw [ha, hr] at hm; simp at hm
      | some ys =>
        rw [ha, hr] at hm
        simp at hm
        subst hm
        obtain ⟨x, hx, hc⟩ := h.tyd ha
        obtain ⟨x', hx', hc'⟩ := h'.tyd hr
        refine ⟨(x, x'), ⟨hx, hx'⟩, ?_⟩
        simp only [List.map_cons, List.zip_cons_cons, List.flatMap_cons]
        exact hc.append hc'

theorem tyd_struct {α β : Type} {P : Program} {n t : Nat} {fs : Array Field} {enc : α → V} {bd : α → Prop} {cells : β → List V} {bd' : β → Prop} (hu : P.underlying t = some (.struct fs)) (h : TydF P n fs.toList cells bd') (mk : β → α)
    (he : ∀ y, enc (mk y) = .agg (cells y)) (hb : ∀ y, bd' y → bd (mk y)) (hf : ∀ x, ∃ l, enc x = .agg l) : Tyd P (n + 1) t true enc bd where
  ag := by simp [aggT, hu, isAggD]
  form := fun h => by cases h
  form' := fun _ => hf
  tyd := fun {H en w base sp held fuel cs d ps} ht => by
    cases fuel with
    | zero => simp [DataW.trod] at ht
    | succ fuel =>
      obtain ⟨hl, xs, hd, hm⟩ := trod_struct hu ht
      simp only at hd
      subst hd
      obtain ⟨y, hy, hc⟩ := h.tyd hm
      refine ⟨mk y, hb y hy, ?_⟩
      simp only [cellsD, hu, he]
      exact hc

/-- An argument of the law is a typed one. -/
theorem Tyd.arg {α : Type} {P : Program} {n t : Nat} {agg : Bool} {enc : α → V} {bd : α → Prop} (h : Tyd P n t agg enc bd) (hp : plainT P n t = true) {H : Type} {en : TypeId × Value → H} {w : World} {base : Nat} {sp : Nat → Bool} {held : Bool} {v : Value} {d : DataW H} {ps : List MemPlace}
    (ht : DataW.Trod en P w base sp held t v d ps) : ∃ x, bd x ∧ VLe (argD P n t d) (enc x) := by
  obtain ⟨fuel, ht⟩ := ht
  obtain ⟨x, hx, hc⟩ := h.tyd ht
  refine ⟨x, hx, ?_⟩
  unfold argD
  cases agg with
  | true =>
    obtain ⟨l, hl⟩ := h.form' rfl x
    rw [hl] at hc ⊢
    rw [h.ag]
    exact vle_agg hc.vles
  | false =>
    rw [h.ag]
    obtain ⟨c, hcc, _⟩ := cellsD_single hp h.ag ht
    have : (enc x).cells = [enc x] := by
      cases he : enc x <;> first | rfl | exact absurd he (h.form rfl x _)
    rw [hcc, this] at hc
    rw [hcc]
    exact hc.1.2

/-- The form of an argument. -/
theorem okWide_form {P : Program} {w : World} {r : Reach} {base t : Nat} {v : Value} (h : Value.okWide P w r base t v) : (aggT P t = true → ∃ cs, v = .agg cs) ∧ (aggT P t = false → ∀ cs, v ≠ .agg cs) := by
  unfold Value.okWide at h
  unfold aggT
  cases hu : P.underlying t with
  | none =>
    rw [hu] at h
    refine ⟨fun h' => by simp at h', fun _ cs hv => ?_⟩
    subst hv
    simp [Cell.okWide, Cell.ok, hu] at h
  | some d =>
    rw [hu] at h
    cases d with
    | struct fs =>
      obtain ⟨cs, rfl, _⟩ := h
      exact ⟨fun _ => ⟨cs, rfl⟩, fun h' => by simp [isAggD] at h'⟩
    | array n e =>
      obtain ⟨cs, rfl, _⟩ := h
      exact ⟨fun _ => ⟨cs, rfl⟩, fun h' => by simp [isAggD] at h'⟩
    | _ =>
      refine ⟨fun h' => by simp [isAggD] at h', fun _ cs hv => ?_⟩
      subst hv
      simp [Cell.okWide, Cell.ok, hu] at h

/-- A law's argument, as the walk takes it. -/
theorem law_arg {H : Type} {enc : TypeId × Value → H} {P : Program} {w : World} {base base' : Nat} {sp : Nat → Bool} {held : Bool} {t : Nat} (hp : plainT P 9 t = true) {r : Reach} {v : Value} {d : DataW H} {ps : List MemPlace}
    (hw : Value.okWide P w r base' t v) (h : DataW.Trod enc P w base sp held t v d ps) : TRep w (allFr w) (fun _ => none) (argD P 9 t d) v :=
  arg_rep hp h (okWide_form hw).1 (okWide_form hw).2

/-! ### What is told of a law's function, of callees -/
/-- A function that tells 'true' wherever its arguments are so. -/
def lawD (Q : List V → Prop) : FSpec := fun args bin => match bin with
  | [] => some (Q args, .bool true, [])
  | _ :: _ => none

theorem soundAll_nil {P : Program} : SoundAll P (lk ([] : List (Nat × (Bool × FSpec)))) := fun f b S h => by simp [lk] at h
theorem soundAll_cons {P : Program} {f : Nat} {b : Bool} {S : FSpec} {l : List (Nat × (Bool × FSpec))} (h : Sound P f S) (hl : SoundAll P (lk l)) : SoundAll P (lk ((f, (b, S)) :: l)) := fun f' b' S' h' => by
  simp only [lk] at h'
  split at h'
  · rename_i hk
    have := natBeq.1 hk
    subst this
    cases h'
    exact h
  · exact hl f' b' S' h'

end Go.Av
