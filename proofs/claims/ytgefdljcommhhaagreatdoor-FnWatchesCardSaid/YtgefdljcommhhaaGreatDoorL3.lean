/- Calls; one operation of a region. -/
import Derived.Test.YtgefdljcommhhaaGreatDoorL2
/- What a callee owes, and that a call by it is what the abstract effect says. -/
namespace Go.Av
set_option linter.unusedVariables false
set_option linter.unusedSimpArgs false

/-- What a call finds: the arguments' blocks, and what may be read. -/
structure Ent (w : World) (X0 io : Nat → Prop) (bin : List Blk) (ι : Iota) (Fr : Nat → Nat → Prop) : Prop where
  own : ∀ id blk b sz m, bin[id]? = some blk → ι id = some (b, sz, m) → OwnB w Fr ι b sz m blk ∧ io b
  nob : ∀ id blk, bin[id]? = some blk → ι id = none → ∃ sz h te, blk = .arr sz 0 h te
  inj : ∀ id id' blk blk' r r', bin[id]? = some blk → bin[id']? = some blk' → ι id = some r → ι id' = some r' → r.1 = r'.1 → id = id'
  fr : ∀ t b, Fr t b → b < w.heap.size ∧ ¬ X0 b ∧ ∀ id blk r, bin[id]? = some blk → ι id = some r → r.1 ≠ b
  frS : ∀ b, ¬ Fr tagS b
  fr0 : ∀ t b, Fr t b → Fr 0 b
  fr2 : ∀ t b, 2 ≤ t → ¬ Fr t b
  x0 : ∀ b, X0 b → b < w.heap.size ∧ ¬ io b
  io0 : ∀ b, io b → b < w.heap.size
  few : bin.length < 64

/-- What a call leaves. -/
structure Ext (w w' : World) (X0 io : Nat → Prop) (ι : Iota) (m : Nat) (bout : List Blk) (ι' : Iota) (Fr : Nat → Nat → Prop) : Prop where
  own : ∀ id blk b sz k, bout[id]? = some blk → ι' id = some (b, sz, k) → OwnB w' Fr ι' b sz k blk ∧ (w.heap.size ≤ b ∨ (io b ∧ id < m))
  nob : ∀ id blk, bout[id]? = some blk → ι' id = none → ∃ sz h te, blk = .arr sz 0 h te
  inj : ∀ id id' blk blk' r r', bout[id]? = some blk → bout[id']? = some blk' → ι' id = some r → ι' id' = some r' → r.1 = r'.1 → id = id'
  fr : ∀ t b, Fr t b → b < w'.heap.size ∧ ¬ X0 b ∧ ∀ id blk r, bout[id]? = some blk → ι' id = some r → r.1 ≠ b
  frS : ∀ b, ¬ Fr tagS b
  fr0 : ∀ t b, Fr t b → Fr 0 b
  fr2 : ∀ t b, 2 ≤ t → Fr t b → w.heap.size ≤ b
  cl : ∀ t b, 2 ≤ t → Fr t b → ∃ arr e, w'.heap[b]? = some (.cells arr e (0, 0))
  same : ∀ id, id < m → ι' id = ι id
  os : w'.os = w.os
  tape : w'.tape = w.tape
  output : w'.output = w.output
  hsize : w.heap.size ≤ w'.heap.size
  frame : ∀ b, b < w.heap.size → ¬ io b → w'.heap[b]? = w.heap[b]?
  shape : ∀ b e, w.shape? b = some e → w'.shape? b = some e

/-- What becomes of a call: of a function with a body, or of one that the machine answers itself. -/
def CallsX (P : Program) (f : Nat) (vals : Array Value) (w : World) (R : Ending → World → Prop) : Prop :=
  ((callFunc f vals).run P w = .ok (.enter f vals) w ∧ Calls P f vals w R) ∨
  ∃ v, (callFunc f vals).run P w = .ok (.value v) w ∧ R (.returned v) w

theorem CallsX.body {P : Program} {f : Nat} {vals : Array Value} {w : World} {R : Ending → World → Prop} (h : CallsX P f vals w R) (he : (callFunc f vals).run P w = .ok (.enter f vals) w) : Calls P f vals w R := by
  rcases h with h | ⟨v, hv, _⟩
  · exact h.2
  · rw [he] at hv; cases hv

/-- A function does what is told of it. -/
structure Sound (P : Program) (f : Nat) (D : FSpec) : Prop where
  does : ∀ args bin ob r bout, D args bin = some (ob, r, bout) → ob → ∀ (vals : Array Value) (w : World) (X0 io : Nat → Prop) (ι : Iota) (Fr : Nat → Nat → Prop),
    Ent w X0 io bin ι Fr → vals.size = args.length → (∀ j, j < args.length → TRep w Fr ι (args.getD j .undef) (vals.getD j Go.undef)) →
    CallsX P f vals w fun e w' => ∃ v ι' Fr', e = .returned v ∧ TRep w' Fr' ι' r v ∧ Ext w w' X0 io ι bin.length bout ι' Fr'

def SoundAll (P : Program) (D : Nat → Option (Bool × FSpec)) : Prop := ∀ f b S, D f = some (b, S) → Sound P f S

/-! ### Renamed and tagged anew -/
theorem renL_getD (f : Nat → Nat) : ∀ (cs : List V) (j : Nat), j < cs.length → (V.renL f cs).getD j .undef = V.ren f (cs.getD j .undef)
  | [], _, h => by simp at h
  | _ :: _, 0, _ => by simp [V.renL]
  | _ :: cs, j + 1, h => by simpa [V.renL] using renL_getD f cs j (by simpa using h)

theorem renL_length (f : Nat → Nat) : ∀ cs : List V, (V.renL f cs).length = cs.length
  | [] => rfl
  | _ :: cs => by simp [V.renL, renL_length f cs]

theorem idsL_getD : ∀ {cs : List V} {j : Nat}, j < cs.length → ∀ id ∈ (cs.getD j .undef).ids, id ∈ V.idsL cs
  | [], _, h, _, _ => by simp at h
  | c :: cs, 0, _, id, hid => by simp only [V.idsL, List.mem_append]; left; simpa using hid
  | c :: cs, j + 1, h, id, hid => by simp only [V.idsL, List.mem_append]; right; exact idsL_getD (cs := cs) (j := j) (by simpa using h) id (by simpa using hid)

theorem TRep.renTag {w w' : World} {Fr Fr' : Nat → Nat → Prop} {ι ι' : Iota} {f h : Nat → Nat} {v : V} {x : Value} (hr : TRep w Fr ι v x)
    (hι : ∀ id ∈ v.ids, ι' (f id) = ι id) (hF : ∀ t b, Fr t b → Fr' (h t) b ∧ w'.heap[b]? = w.heap[b]?) (hS : ∀ b, ¬ Fr tagS b) (hsh : ∀ b e, w.shape? b = some e → w'.shape? b = some e) :
    TRep w' Fr' ι' ((v.ren f).tag h) x := by
  induction hr with
  | atom hv hp =>
    rename_i v x
    cases hp with
    | int => exact .atom rfl (.int _ _)
    | bool => exact .atom rfl (.bool _)
    | str => exact .atom rfl (.str _)
    | nil => exact .atom rfl (.nil _)
    | sl0 => exact .atom rfl (.sl0 _ _ _ _)
    | sl cv hA hcap hsz hc hr =>
      exact .atom rfl ((PRep.sl cv hA hcap hsz hc hr).mono fun b hb => hF _ b hb)
    | ptr cv hA hc hr => exact .atom rfl ((PRep.ptr cv hA hc hr).mono fun b hb => hF _ b hb)
    | agg => simp [isP] at hv
    | tup => simp [isP] at hv
    | fn => simp [isP] at hv
    | undef => exact .atom rfl (.undef _)
  | osl hi hn hc hs hcs =>
    exact .osl (by rw [hι _ (by simp [V.ids])]; exact hi) hn hc (hsh _ _ hs) hcs
  | osl0 a hi => exact .osl0 a (by rw [hι _ (by simp [V.ids])]; exact hi)
  | oref hi him => exact .oref (by rw [hι _ (by simp [V.ids])]; exact hi) him
  | omap hi => exact .omap (by rw [hι _ (by simp [V.ids])]; exact hi)
  | agg arr hs _ ih =>
    refine .agg arr (by rw [tagL_length, renL_length]; exact hs) fun j hj => ?_
    rw [tagL_length, renL_length] at hj
    rw [tagL_getD _ _ _ (by rw [renL_length]; exact hj), renL_getD _ _ _ hj]
    exact ih j hj fun id hid => hι id (idsL_getD hj id hid)
  | tup arr hs _ ih =>
    refine .tup arr (by rw [tagL_length, renL_length]; exact hs) fun j hj => ?_
    rw [tagL_length, renL_length] at hj
    rw [tagL_getD _ _ _ (by rw [renL_length]; exact hj), renL_getD _ _ _ hj]
    exact ih j hj fun id hid => hι id (idsL_getD hj id hid)
  | fn arr hs _ ih =>
    refine .fn arr (by rw [tagL_length, renL_length]; exact hs) fun j hj => ?_
    rw [tagL_length, renL_length] at hj
    rw [tagL_getD _ _ _ (by rw [renL_length]; exact hj), renL_getD _ _ _ hj]
    exact ih j hj fun id hid => hι id (idsL_getD hj id hid)
  | cnd _ hf ih => exact .cnd (fun hc => ih hc hι) hf

/-! ### Lent values -/
theorem lendA_rep {g : G} {s : AS} {a : Act} {w : World} {ι : Iota} {Fr : Nat → Nat → Prop} (h : Rel g s a w ι Fr) {A : Nat → Prop} (hA : ∀ t b, Fr t b → A b)
    (hO : ∀ id blk r, lk s.S id = some blk → ι id = some r → A r.1) {c : V} {x : Value} (hc : TRep w Fr ι c x) : PRep w A (lendA s.S c) x := by
  cases hc with
  | atom hv hp =>
    cases hp with
    | int => exact .int _ _
    | bool => exact .bool _
    | str => exact .str _
    | nil => exact .nil _
    | sl0 => exact .sl0 _ _ _ _
    | sl cv hA' hcap hsz hc hr => exact (PRep.sl cv hA' hcap hsz hc hr).weaken (hA _)
    | ptr cv hA' hc hr => exact (PRep.ptr cv hA' hc hr).weaken (hA _)
    | agg => simp [isP] at hv
    | tup => simp [isP] at hv
    | fn => simp [isP] at hv
    | undef => exact .undef _
  | osl hi hn hc hs hcs =>
    rename_i id n b sz m cap cz e
    simp only [lendA]
    split
    · rename_i sz' m' f te hl
      obtain ⟨rfl, rfl, cells, e', hh, hsz, hlen, hr⟩ := (h.own id _ b sz m hl hi).1
      refine .sl (sz := sz') (off := 0) (fun i j => cells.getD (i * sz' + j) Go.undef) (hO id _ _ hl hi) hc (fun i hin => hlen i (by omega)) (fun i j hin hj => ?_) (fun i j hin hj => (hr i j (by omega) hj).weaken (hA _))
      have e1 : i * sz' + sz' = (i + 1) * sz' := by rw [Nat.add_mul, Nat.one_mul]
      have e2 : (i + 1) * sz' ≤ m' * sz' := Nat.mul_le_mul_right _ (by omega)
      rw [Nat.zero_add]; exact cell_of hh (by omega)
    · exact .undef _
  | osl0 a0 hi =>
    simp only [lendA]
    split
    · exact .sl0 _ _ _ _
    · exact .undef _
  | oref hi hin =>
    rename_i id i off b sz m
    simp only [lendA]
    split
    · rename_i sz' m' f te hl
      obtain ⟨rfl, rfl, cells, e', hh, hsz, hlen, hr⟩ := (h.own id _ b sz m hl hi).1
      refine .ptr (base := i * sz') (fun j => cells.getD (i * sz' + j) Go.undef) (hO id _ _ hl hi) (fun j hj => ?_) (fun j hj => (hr i j hin (by rw [← hlen i hin]; exact hj)).weaken (hA _))
      have e1 : i * sz' + sz' = (i + 1) * sz' := by rw [Nat.add_mul, Nat.one_mul]
      have e2 : (i + 1) * sz' ≤ m' * sz' := Nat.mul_le_mul_right _ (by omega)
      rw [hlen i hin] at hj
      exact cell_of hh (by omega)
    · exact .undef _
  | omap => exact .undef _
  | agg => exact .undef _
  | tup => exact .undef _
  | fn => exact .undef _
  | cnd => exact .undef _

end Go.Av

/- Behind a call: what the caller knows. -/
namespace Go.Av

theorem applyUpd_append : ∀ (a b : List (Nat × Option Blk)) (S : List (Nat × Blk)), applyUpd S (a ++ b) = applyUpd (applyUpd S a) b
  | [], _, _ => rfl
  | (id, some x) :: r, b, S => by simp only [List.cons_append, applyUpd]; exact applyUpd_append r b _
  | (id, none) :: r, b, S => by simp only [List.cons_append, applyUpd]; exact applyUpd_append r b _

theorem lk_newUpd (d : Nat) : ∀ (bs : List Blk) (k : Nat) (S : List (Nat × Blk)) (id : Nat),
    lk (applyUpd S (newUpd d k bs)) id = if site0 d + k ≤ id ∧ id < site0 d + k + bs.length then bs[id - (site0 d + k)]? else lk S id
  | [], k, S, id => by
    have : ¬ (site0 d + k ≤ id ∧ id < site0 d + k + ([] : List Blk).length) := by simp
    rw [if_neg this]; rfl
  | b :: r, k, S, id => by
    rw [newUpd, applyUpd, lk_newUpd d r (k + 1), lk_put]
    simp only [List.length_cons]
    by_cases h1 : id = site0 d + k
    · subst h1
      rw [if_neg (by omega), if_pos rfl, if_pos (by omega)]
      simp
    · by_cases h2 : site0 d + (k + 1) ≤ id ∧ id < site0 d + (k + 1) + r.length
      · rw [if_pos h2, if_pos (by omega)]
        have : id - (site0 d + k) = (id - (site0 d + (k + 1))) + 1 := by omega
        rw [this]; simp
      · rw [if_neg h2, if_neg h1, if_neg (by omega)]

theorem lk_backUpd (f : Nat → Nat) (d : Nat) : ∀ (ids : List Nat) (bs : List Blk) (S : List (Nat × Blk)), ids.Nodup → ids.length ≤ bs.length →
    (∀ j b, j < ids.length → bs[j]? = some b → lk (applyUpd S (backUpd f d ids bs)) (ids.getD j 0) = some ((b.ren f).retag d)) ∧ ∀ id, id ∉ ids → lk (applyUpd S (backUpd f d ids bs)) id = lk S id
  | [], bs, S, _, _ => ⟨fun j b h => by simp at h, fun id _ => by cases bs <;> rfl⟩
  | k :: r, b :: q, S, hn, hl => by
    rw [List.nodup_cons] at hn
    obtain ⟨ih1, ih2⟩ := lk_backUpd f d r q (put S k ((b.ren f).retag d)) hn.2 (by simpa using hl)
    rw [backUpd, applyUpd]
    refine ⟨fun j c hj hc => ?_, fun id hid => ?_⟩
    · cases j with
      | zero =>
        simp only [List.getElem?_cons_zero, Option.some.injEq] at hc
        subst hc
        rw [List.getD_cons_zero, ih2 k hn.1, lk_put, if_pos rfl]
      | succ j =>
        rw [List.getD_cons_succ]
        exact ih1 j c (by simpa using hj) (by simpa using hc)
    · simp only [List.mem_cons, not_or] at hid
      rw [ih2 id hid.2, lk_put, if_neg hid.1]
  | _ :: _, [], _, _, h => by simp at h

theorem idxOf_getD : ∀ {ids : List Nat} {j : Nat}, ids.Nodup → j < ids.length → idxOf (ids.getD j 0) ids = j
  | [], _, _, h => by simp at h
  | k :: r, 0, _, _ => by simp [idxOf]
  | k :: r, j + 1, hn, hj => by
    rw [List.nodup_cons] at hn
    have hj' : j < r.length := by simpa using hj
    have hmem : r.getD j 0 ∈ r := by
      have : r.getD j 0 = r[j] := by simp [List.getD, hj']
      rw [this]; exact List.getElem_mem hj'
    have hne : ¬ k = r.getD j 0 := fun e => hn.1 (e ▸ hmem)
    rw [List.getD_cons_succ, idxOf, natBeqF.2 hne]
    simp only
    rw [idxOf_getD hn.2 hj']

theorem nodup_iff : ∀ {l : List Nat}, nodupB l = true → l.Nodup
  | [], _ => List.nodup_nil
  | k :: r, h => by
    simp only [nodupB, Bool.and_eq_true, Bool.not_eq_true'] at h
    exact List.nodup_cons.2 ⟨mem_false.1 h.1, nodup_iff h.2⟩

theorem undup_nodup : ∀ (l : List Nat), (undup l).Nodup ∧ ∀ k, k ∈ undup l ↔ k ∈ l
  | [] => ⟨List.nodup_nil, fun _ => Iff.rfl⟩
  | k :: r => by
    obtain ⟨h1, h2⟩ := undup_nodup r
    rw [undup]
    split
    · rename_i hm
      refine ⟨h1, fun j => ?_⟩
      rw [h2, List.mem_cons]
      constructor
      · exact .inr
      · rintro (rfl | h)
        · exact mem_iff.1 hm
        · exact h
    · rename_i hm
      refine ⟨List.nodup_cons.2 ⟨fun hk => mem_false.1 hm ((h2 k).1 hk), h1⟩, fun j => ?_⟩
      rw [List.mem_cons, List.mem_cons, h2]

theorem mem_getD {ids : List Nat} {id : Nat} (h : id ∈ ids) : ∃ j, j < ids.length ∧ ids.getD j 0 = id := by
  obtain ⟨j, hj, rfl⟩ := List.mem_iff_getElem.1 h
  exact ⟨j, hj, by simp [List.getD, hj]⟩

theorem retag_ge {d t : Nat} (h : 2 ≤ t) (hS : t ≠ tagS) : retag d t = d + 200 := by
  unfold retag
  split
  · omega
  · omega
  · rw [natBeqF.2 hS]

theorem retag_S (d : Nat) : retag d tagS = tagS := rfl

mutual
theorem closed_tag {v : V} {w : World} {Fr Fr' : Nat → Nat → Prop} {ι : Iota} {x : Value} (hr : TRep w Fr ι v x) (hc : V.closed v = true) (h : ∀ t b, 2 ≤ t → Fr t b → Fr' t b) (hS : ∀ b, ¬ Fr tagS b) : TRep w Fr' ι v x := by
  cases hr with
  | atom hv hp =>
    cases hp with
    | int => exact .atom rfl (.int _ _)
    | bool => exact .atom rfl (.bool _)
    | str => exact .atom rfl (.str _)
    | nil => exact .atom rfl (.nil _)
    | sl0 => exact .atom rfl (.sl0 _ _ _ _)
    | sl cv hA hcap hsz hc' hr => exact .atom rfl ((PRep.sl cv hA hcap hsz hc' hr).weaken fun b hb => h _ b (Nat.le_of_ble_eq_true hc) hb)
    | ptr cv hA hc' hr => exact .atom rfl ((PRep.ptr cv hA hc' hr).weaken fun b hb => h _ b (Nat.le_of_ble_eq_true hc) hb)
    | agg => simp [isP] at hv
    | tup => simp [isP] at hv
    | fn => simp [isP] at hv
    | undef => exact .atom rfl (.undef _)
  | osl hi hn hc' hs hcs => exact .osl hi hn hc' hs hcs
  | osl0 a hi => exact .osl0 a hi
  | oref hi him => exact .oref hi him
  | omap hi => exact .omap hi
  | agg arr hs hr => exact .agg arr hs fun j hj => closedL_tag (hr j hj) hj hc h hS
  | tup arr hs hr => exact .tup arr hs fun j hj => closedL_tag (hr j hj) hj hc h hS
  | fn arr hs hr => exact .fn arr hs fun j hj => closedL_tag (hr j hj) hj hc h hS
  | cnd ht hf => exact .cnd (fun hq => closed_tag (ht hq) hc h hS) hf
theorem closedL_tag {cs : List V} {j : Nat} {w : World} {Fr Fr' : Nat → Nat → Prop} {ι : Iota} {x : Value} (hr : TRep w Fr ι (cs.getD j .undef) x) (hj : j < cs.length) (hc : V.closedL cs = true) (h : ∀ t b, 2 ≤ t → Fr t b → Fr' t b) (hS : ∀ b, ¬ Fr tagS b) : TRep w Fr' ι (cs.getD j .undef) x := by
  match cs, j, hr, hj, hc with
  | c :: cs, 0, hr, _, hc =>
    simp only [V.closedL, Bool.and_eq_true] at hc
    simp only [List.getD_cons_zero] at hr ⊢
    exact closed_tag hr hc.1 h hS
  | c :: cs, j + 1, hr, hj, hc =>
    simp only [V.closedL, Bool.and_eq_true] at hc
    simp only [List.getD_cons_succ] at hr ⊢
    exact closedL_tag hr (by simpa using hj) hc.2 h hS
end

theorem allLt_iff {m : Nat} : ∀ {l : List Nat}, allLt m l = true → ∀ k ∈ l, k < m
  | [], _, _, h => by cases h
  | j :: r, h, k, hk => by
    simp only [allLt, Bool.and_eq_true] at h
    rcases List.mem_cons.1 hk with rfl | hk
    · exact Nat.le_of_ble_eq_true h.1
    · exact allLt_iff h.2 k hk

/-- What the caller has behind a call: its own blocks that the call might write, with what the call left in them; the new ones; the rest as it was. -/
theorem after_call {g : G} {s : AS} {a : Act} {w w' : World} {ι ι' ιc : Iota} {Fr Fr' : Nat → Nat → Prop} (h : Rel g s a w ι Fr) {d : Nat} (hfresh : ∀ id, id / 64 = d + 1 → FreshId s id)
    {ids : List Nat} (hnd : ids.Nodup) (hlk : ∀ id ∈ ids, ∃ blk, lk s.S id = some blk) {X0c io : Nat → Prop} {bout : List Blk} (hE : Ext w w' X0c io ιc ids.length bout ι' Fr')
    (hιc : ∀ j, j < ids.length → ιc j = ι (ids.getD j 0)) (hio : ∀ b, io b ↔ ∃ id ∈ ids, ∃ r, ι id = some r ∧ r.1 = b) (hX : ∀ b, g.X0 b → X0c b)
    (hlen : ids.length ≤ bout.length) (hfew : bout.length < 63) {r : V} {v : Value} (hrv : TRep w' Fr' ι' r v) (hrl : ∀ k ∈ r.ids, k < bout.length) (hbl : ∀ b ∈ bout, ∀ k ∈ b.ids, k < bout.length)
    (hcl : (∀ id blk q, id ∉ ids → lk s.S id = some blk → ι id = some q → X0c q.1) ∨ (V.closed r = true ∧ ∀ b ∈ bout, Blk.closed b = true)) :
    ∃ ι2 Fr2, Rel g { s with S := applyUpd s.S (backUpd (nmI d ids) d ids bout ++ newUpd d 0 ((bout.drop ids.length).map fun b => (b.ren (nmI d ids)).retag d)) } a w' ι2 Fr2 ∧
      TRep w' Fr2 ι2 ((r.ren (nmI d ids)).tag (retag d)) v := by
  -- blocks of the caller's own that the call did not get
  let Old : Nat → Prop := fun b => ∃ id, id ∉ ids ∧ ∃ blk q, lk s.S id = some blk ∧ ι id = some q ∧ q.1 = b
  let ι2 : Iota := fun id => if id / 64 = d + 1 then ι' (id - site0 d + ids.length) else ι id
  let Fr2 : Nat → Nat → Prop := fun t b => Fr t b ∨ (t = 0 ∧ Fr' 0 b ∧ ¬ Old b) ∨ (t = d + 200 ∧ ∃ t', 2 ≤ t' ∧ Fr' t' b)
  have hnoOld : ∀ t b, 2 ≤ t → Fr' t b → ¬ Old b := by
    rintro t b h2 hf ⟨id, _, blk, q, hl, hi, rfl⟩
    obtain ⟨b, sz, m⟩ := q
    have := hE.fr2 t _ h2 hf
    have := (h.own id blk b sz m hl hi).1.lt
    simp only at *; omega
  have hsite : ∀ id blk, lk s.S id = some blk → ¬ id / 64 = d + 1 := by
    intro id blk hl hq
    have := (hfresh id hq).no
    rw [hl] at this; cases this
  have hsid : ∀ j, j < 64 → (site0 d + j) / 64 = d + 1 := by
    intro j hj
    unfold site0
    rw [Nat.mul_add_div (by omega), Nat.div_eq_of_lt hj]
  have hmt : ∀ t v, lk s.T t = some v → V.ment (fun k => decide (k / 64 = d + 1)) v = false := by
    intro t v hv
    cases hm : V.ment (fun k => decide (k / 64 = d + 1)) v with
    | false => rfl
    | true =>
      exfalso
      have key : ∀ (v : V), V.ment (fun k => decide (k / 64 = d + 1)) v = true → ∃ id, id / 64 = d + 1 ∧ V.ment (fun k => Nat.beq k id) v = true := by
        intro v
        refine V.rec (motive_1 := fun v => V.ment (fun k => decide (k / 64 = d + 1)) v = true → ∃ id, id / 64 = d + 1 ∧ V.ment (fun k => Nat.beq k id) v = true)
          (motive_2 := fun l => V.mentL (fun k => decide (k / 64 = d + 1)) l = true → ∃ id, id / 64 = d + 1 ∧ V.mentL (fun k => Nat.beq k id) l = true)
          ?_ ?_ ?_ ?_ ?_ ?_ ?_ ?_ ?_ ?_ ?_ ?_ ?_ ?_ ?_ ?_ v
        · intro k n hq; simp [V.ment] at hq
        · intro b hq; simp [V.ment] at hq
        · intro s hq; simp [V.ment] at hq
        · intro hq; simp [V.ment] at hq
        · intro n g t _ hq; simp [V.ment] at hq
        · intro cs off t _ hq; simp [V.ment] at hq
        · intro cs ih hq; exact ih hq
        · intro cs ih hq; exact ih hq
        · intro f cs ih hq; exact ih hq
        · intro id n hq; exact ⟨id, by simpa [V.ment] using hq, by simp [V.ment]⟩
        · intro id i off hq; exact ⟨id, by simpa [V.ment] using hq, by simp [V.ment]⟩
        · intro id hq; exact ⟨id, by simpa [V.ment] using hq, by simp [V.ment]⟩
        · intro c v ih hq; exact ih hq
        · intro hq; simp [V.ment] at hq
        · intro hq; simp [V.mentL] at hq
        · intro c l ih1 ih2 hq
          simp only [V.mentL, Bool.or_eq_true] at hq ⊢
          rcases hq with hq | hq
          · obtain ⟨id, h1, h2⟩ := ih1 hq; exact ⟨id, h1, .inl h2⟩
          · obtain ⟨id, h1, h2⟩ := ih2 hq; exact ⟨id, h1, .inr h2⟩
      obtain ⟨id, h1, h2⟩ := key v hm
      have := (hfresh id h1).T t v hv
      rw [h2] at this; cases this
  have hms : ∀ k blk, lk s.S k = some blk → blk.ment (fun k => decide (k / 64 = d + 1)) = false := by
    intro k blk hk
    cases blk with
    | mp => rfl
    | arr => rfl
    | box cs =>
      cases hm : V.mentL (fun k => decide (k / 64 = d + 1)) cs with
      | false => exact hm
      | true =>
        exfalso
        have key : ∀ (l : List V), V.mentL (fun k => decide (k / 64 = d + 1)) l = true → ∃ id, id / 64 = d + 1 ∧ V.mentL (fun k => Nat.beq k id) l = true := by
          intro l
          refine V.rec_1 (motive_1 := fun v => V.ment (fun k => decide (k / 64 = d + 1)) v = true → ∃ id, id / 64 = d + 1 ∧ V.ment (fun k => Nat.beq k id) v = true)
            (motive_2 := fun l => V.mentL (fun k => decide (k / 64 = d + 1)) l = true → ∃ id, id / 64 = d + 1 ∧ V.mentL (fun k => Nat.beq k id) l = true)
            ?_ ?_ ?_ ?_ ?_ ?_ ?_ ?_ ?_ ?_ ?_ ?_ ?_ ?_ ?_ ?_ l
          · intro k n hq; simp [V.ment] at hq
          · intro b hq; simp [V.ment] at hq
          · intro s hq; simp [V.ment] at hq
          · intro hq; simp [V.ment] at hq
          · intro n g t _ hq; simp [V.ment] at hq
          · intro cs off t _ hq; simp [V.ment] at hq
          · intro cs ih hq; exact ih hq
          · intro cs ih hq; exact ih hq
          · intro f cs ih hq; exact ih hq
          · intro id n hq; exact ⟨id, by simpa [V.ment] using hq, by simp [V.ment]⟩
          · intro id i off hq; exact ⟨id, by simpa [V.ment] using hq, by simp [V.ment]⟩
          · intro id hq; exact ⟨id, by simpa [V.ment] using hq, by simp [V.ment]⟩
          · intro c v ih hq; exact ih hq
          · intro hq; simp [V.ment] at hq
          · intro hq; simp [V.mentL] at hq
          · intro c l ih1 ih2 hq
            simp only [V.mentL, Bool.or_eq_true] at hq ⊢
            rcases hq with hq | hq
            · obtain ⟨id, h1, h2⟩ := ih1 hq; exact ⟨id, h1, .inl h2⟩
            · obtain ⟨id, h1, h2⟩ := ih2 hq; exact ⟨id, h1, .inr h2⟩
        obtain ⟨id, h1, h2⟩ := key cs hm
        have := (hfresh id h1).S k _ hk
        simp only [Blk.ment] at this
        rw [h2] at this; cases this
  have hι2 : ∀ id, decide (id / 64 = d + 1) = false → ι2 id = ι id := by
    intro id hid
    have : ¬ id / 64 = d + 1 := by simpa using hid
    show (if id / 64 = d + 1 then _ else _) = _
    rw [if_neg this]
  have hιid : ∀ id blk, lk s.S id = some blk → ι2 id = ι id := fun id blk hl => hι2 id (by simpa using hsite id blk hl)
  have hioOwn : ∀ b, io b → ∃ id blk r, lk s.S id = some blk ∧ ι id = some r ∧ r.1 = b := by
    intro b hb
    obtain ⟨id, hid, r, hr, rfl⟩ := (hio b).1 hb
    obtain ⟨blk, hl⟩ := hlk id hid
    exact ⟨id, blk, r, hl, hr, rfl⟩
  have hFold : ∀ t b, Fr t b → Fr2 t b ∧ w'.heap[b]? = w.heap[b]? := by
    intro t b hf
    refine ⟨.inl hf, hE.frame b (h.fr t b hf).1 fun hb => ?_⟩
    obtain ⟨id, blk, r, hl, hi, hr⟩ := hioOwn b hb
    exact (h.fr t b hf).2.2 id blk r hl hi hr
  -- names of what comes back
  have hnm : ∀ k, k < bout.length → ι2 (nmI d ids k) = ι' k := by
    intro k hk
    unfold nmI
    cases hb : Nat.blt k ids.length with
    | true =>
      have hk' : k < ids.length := Nat.le_of_ble_eq_true hb
      simp only
      have hmem : ids.getD k 0 ∈ ids := by
        have : ids.getD k 0 = ids[k] := by simp [List.getD, hk']
        rw [this]; exact List.getElem_mem hk'
      obtain ⟨blk, hl⟩ := hlk _ hmem
      rw [hιid _ blk hl, hE.same k hk', hιc k hk']
    | false =>
      have hk' : ¬ k < ids.length := by
        intro h'
        have : Nat.blt k ids.length = true := Nat.ble_eq_true_of_le h'
        rw [hb] at this; cases this
      simp only
      show (if (site0 d + (k - ids.length)) / 64 = d + 1 then _ else _) = _
      rw [if_pos (hsid _ (by omega))]
      congr 1; omega
  -- what the call told, in the caller's words
  have conv : ∀ (u : V) (x : Value), TRep w' Fr' ι' u x → (∀ k ∈ u.ids, k < bout.length) → ((∀ id blk q, id ∉ ids → lk s.S id = some blk → ι id = some q → X0c q.1) ∨ V.closed u = true) →
      TRep w' Fr2 ι2 ((u.ren (nmI d ids)).tag (retag d)) x := by
    intro u x hu hul hcase
    have main : ∀ (F : Nat → Nat → Prop), TRep w' F ι' u x → (∀ t b, F t b → Fr2 (retag d t) b) → (∀ b, ¬ F tagS b) → TRep w' Fr2 ι2 ((u.ren (nmI d ids)).tag (retag d)) x :=
      fun F hF h1 h2 => hF.renTag (fun id hid => hnm id (hul id hid)) (fun t b hb => ⟨h1 t b hb, rfl⟩) h2 (fun _ _ hs => hs)
    have big : ∀ t b, 2 ≤ t → Fr' t b → Fr2 (retag d t) b := by
      intro t b h2 hf
      have hS : t ≠ tagS := fun e => hE.frS b (e ▸ hf)
      rw [retag_ge h2 hS]
      exact .inr (.inr ⟨rfl, t, h2, hf⟩)
    rcases hcase with hx | hc
    · refine main Fr' hu (fun t b hf => ?_) hE.frS
      rcases Nat.lt_or_ge t 2 with h2 | h2
      · have e1 : retag d t = 0 := by
          match t, h2 with
          | 0, _ => rfl
          | 1, _ => rfl
        rw [e1]
        refine .inr (.inl ⟨rfl, hE.fr0 t b hf, ?_⟩)
        rintro ⟨id, hid, blk, q, hl, hi, rfl⟩
        exact (hE.fr t _ hf).2.1 (hx id blk q hid hl hi)
      · exact big t b h2 hf
    · exact main (fun t b => 2 ≤ t ∧ Fr' t b) (closed_tag hu hc (fun t b h2 hf => ⟨h2, hf⟩) hE.frS) (fun t b hf => big t b hf.1 hf.2) (fun b hf => hE.frS b hf.2)
  have convB : ∀ (id : Nat) (blk : Blk) (b sz m : Nat), bout[id]? = some blk → ι' id = some (b, sz, m) → OwnB w' Fr2 ι2 b sz m ((blk.ren (nmI d ids)).retag d) := by
    intro id blk b sz m hb hi
    have ho := (hE.own id blk b sz m hb hi).1
    have hmem : blk ∈ bout := List.mem_of_getElem? hb
    cases blk with
    | mp => exact ho
    | arr sz' n f te =>
      obtain ⟨q1, q2, cells, e, q3, q4, q5, q6⟩ := ho
      refine ⟨q1, q2, cells, e, q3, q4, q5, fun i j hi' hj => (q6 i j hi' hj).weaken fun k hk => ?_⟩
      rcases Nat.lt_or_ge te 2 with h2 | h2
      · have e1 : retag d te = 0 := by
          match te, h2 with
          | 0, _ => rfl
          | 1, _ => rfl
        rw [e1]
        refine .inr (.inl ⟨rfl, hE.fr0 te k hk, ?_⟩)
        rintro ⟨id', hid', blk', q, hl', hi2, rfl⟩
        rcases hcl with hx | ⟨_, hc⟩
        · exact (hE.fr te _ hk).2.1 (hx id' blk' q hid' hl' hi2)
        · have := hc _ hmem
          have : 2 ≤ te := Nat.le_of_ble_eq_true this
          omega
      · have hS : te ≠ tagS := fun e => hE.frS k (e ▸ hk)
        rw [retag_ge h2 hS]
        exact .inr (.inr ⟨rfl, te, h2, hk⟩)
    | box cs =>
      obtain ⟨cells, e, q3, q4, q6⟩ := ho
      refine ⟨cells, e, q3, by rw [tagL_length, renL_length]; exact q4, fun j hj => ?_⟩
      rw [tagL_length, renL_length] at hj
      rw [tagL_getD _ _ _ (by rw [renL_length]; exact hj), renL_getD _ _ _ hj]
      refine conv _ _ (q6 j hj) (fun k hk => hbl _ hmem k (idsL_getD hj k hk)) ?_
      rcases hcl with hx | ⟨_, hc⟩
      · exact .inl hx
      · right
        have := hc _ hmem
        simp only [Blk.closed] at this
        have key : ∀ (l : List V) (j : Nat), V.closedL l = true → j < l.length → V.closed (l.getD j .undef) = true := by
          intro l
          induction l with
          | nil => intro j _ h; simp at h
          | cons c l ih =>
            intro j hq hj
            simp only [V.closedL, Bool.and_eq_true] at hq
            cases j with
            | zero => simpa using hq.1
            | succ j => simpa using ih j hq.2 (by simpa using hj)
        exact key cs j this hj
  -- the lookups behind it
  have hback := lk_backUpd (nmI d ids) d ids bout s.S hnd hlen
  let S2 := applyUpd s.S (backUpd (nmI d ids) d ids bout ++ newUpd d 0 ((bout.drop ids.length).map fun b => (b.ren (nmI d ids)).retag d))
  have hS2 : ∀ id blk, lk S2 id = some blk → (∃ k c, k < bout.length ∧ bout[k]? = some c ∧ id = nmI d ids k ∧ blk = (c.ren (nmI d ids)).retag d) ∨ (id ∉ ids ∧ lk s.S id = some blk) := by
    intro id blk hq
    show _ ∨ _
    have hq' : lk (applyUpd (applyUpd s.S (backUpd (nmI d ids) d ids bout)) (newUpd d 0 ((bout.drop ids.length).map fun b => (b.ren (nmI d ids)).retag d))) id = some blk := by
      rw [← applyUpd_append]; exact hq
    rw [lk_newUpd] at hq'
    split at hq'
    · rename_i hr
      simp only [List.length_map, List.length_drop, Nat.add_zero] at hr hq'
      rw [List.getElem?_map, List.getElem?_drop] at hq'
      cases hc : bout[ids.length + (id - site0 d)]? with
      | none => rw [hc] at hq'; simp at hq'
      | some c =>
        rw [hc] at hq'
        simp only [Option.map_some, Option.some.injEq] at hq'
        have hk := (List.getElem?_eq_some_iff.1 hc).1
        refine .inl ⟨_, c, hk, hc, ?_, hq'.symm⟩
        unfold nmI
        have : Nat.blt (ids.length + (id - site0 d)) ids.length = false := by
          cases hb : Nat.blt (ids.length + (id - site0 d)) ids.length with
          | false => rfl
          | true => have : ids.length + (id - site0 d) + 1 ≤ ids.length := Nat.le_of_ble_eq_true hb; omega
        rw [this]
        simp only
        omega
    · by_cases hid : id ∈ ids
      · obtain ⟨j, hj, rfl⟩ := mem_getD hid
        have hjb : j < bout.length := by omega
        have hbj : bout[j]? = some bout[j] := List.getElem?_eq_getElem hjb
        rw [hback.1 j _ hj hbj] at hq'
        simp only [Option.some.injEq] at hq'
        refine .inl ⟨j, _, hjb, hbj, ?_, hq'.symm⟩
        unfold nmI
        have : Nat.blt j ids.length = true := Nat.ble_eq_true_of_le hj
        rw [this]
      · rw [hback.2 id hid] at hq'
        exact .inr ⟨hid, hq'⟩
  have hnmInj : ∀ k k', k < bout.length → k' < bout.length → nmI d ids k = nmI d ids k' → k = k' := by
    have split : ∀ k, k < bout.length → (k < ids.length ∧ nmI d ids k = ids.getD k 0 ∧ ¬ nmI d ids k / 64 = d + 1) ∨ (ids.length ≤ k ∧ nmI d ids k = site0 d + (k - ids.length) ∧ nmI d ids k / 64 = d + 1) := by
      intro k hk
      unfold nmI
      cases hb : Nat.blt k ids.length with
      | true =>
        have hk' : k < ids.length := Nat.le_of_ble_eq_true hb
        have hmem : ids.getD k 0 ∈ ids := by
          have : ids.getD k 0 = ids[k] := by simp [List.getD, hk']
          rw [this]; exact List.getElem_mem hk'
        obtain ⟨blk, hl⟩ := hlk _ hmem
        exact .inl ⟨hk', rfl, hsite _ blk hl⟩
      | false =>
        have hk' : ¬ k < ids.length := by
          intro h'
          have : Nat.blt k ids.length = true := Nat.ble_eq_true_of_le h'
          rw [hb] at this; cases this
        exact .inr ⟨by omega, rfl, hsid _ (by omega)⟩
    intro k k' hk hk' he
    rcases split k hk with ⟨h1, h2, h3⟩ | ⟨h1, h2, h3⟩ <;> rcases split k' hk' with ⟨h4, h5, h6⟩ | ⟨h4, h5, h6⟩
    · rw [h2, h5] at he
      have e1 := idxOf_getD hnd h1
      have e2 := idxOf_getD hnd h4
      rw [he, e2] at e1
      exact e1.symm
    · rw [he] at h3; exact absurd h6 h3
    · rw [he] at h3; exact absurd h3 h6
    · rw [h2, h5] at he; omega
  refine ⟨ι2, Fr2, ?_, conv r v hrv hrl (by rcases hcl with hx | ⟨hc, _⟩; exact .inl hx; exact .inr hc)⟩
  have hoa : ∀ id blk b sz m, id ∉ ids → lk s.S id = some blk → ι id = some (b, sz, m) → b < w.heap.size ∧ ¬ io b := by
    intro id blk b sz m hid hl hi
    refine ⟨(h.own id blk b sz m hl hi).1.lt, fun hb => ?_⟩
    obtain ⟨id', hid', r', hr', e1⟩ := (hio b).1 hb
    obtain ⟨blk', hl'⟩ := hlk id' hid'
    have := h.inj id id' blk blk' _ r' hl hl' hi hr' e1.symm
    exact hid (this ▸ hid')
  exact
    { h with
      tmp := fun t u hu => (h.tmp t u hu).mono (p := fun k => decide (k / 64 = d + 1)) hFold hι2 (hmt t u hu) (fun _ r e _ _ hs => hE.shape r.1 e hs)
      own := fun id blk b sz m hl hi => by
        rcases hS2 id blk hl with ⟨k, c, hk, hc, rfl, rfl⟩ | ⟨hid, hl'⟩
        · rw [hnm k hk] at hi
          refine ⟨convB k c b sz m hc hi, ?_⟩
          rcases (hE.own k c b sz m hc hi).2 with h1 | ⟨h1, h2⟩
          · exact .inl (Nat.le_trans h.hsize h1)
          · have hkm : ids.getD k 0 ∈ ids := by
              have : ids.getD k 0 = ids[k] := by simp [List.getD, h2]
              rw [this]; exact List.getElem_mem h2
            obtain ⟨blk', hl'⟩ := hlk _ hkm
            rw [hE.same k h2, hιc k h2] at hi
            have := (h.own _ blk' b sz m hl' hi).2
            have e1 : nmI d ids k = ids.getD k 0 := by
              unfold nmI
              have : Nat.blt k ids.length = true := Nat.ble_eq_true_of_le h2
              rw [this]
            rw [e1]; exact this
        · rw [hιid id blk hl'] at hi
          obtain ⟨h1, h2⟩ := h.own id blk b sz m hl' hi
          obtain ⟨h3, h4⟩ := hoa id blk b sz m hid hl' hi
          exact ⟨h1.mono (p := fun k => decide (k / 64 = d + 1)) (hE.frame b h3 h4) hFold hι2 (hms id blk hl') (fun _ r e _ _ hs => hE.shape r.1 e hs), h2⟩
      nob := fun id blk hl hi => by
        rcases hS2 id blk hl with ⟨k, c, hk, hc, rfl, rfl⟩ | ⟨hid, hl'⟩
        · rw [hnm k hk] at hi
          obtain ⟨sz, f, te, rfl⟩ := hE.nob k c hc hi
          exact ⟨sz, f, _, rfl⟩
        · rw [hιid id blk hl'] at hi
          exact h.nob id blk hl' hi
      inj := fun id id' blk blk' r1 r2 h1 h2 h3 h4 h5 => by
        rcases hS2 id blk h1 with ⟨k, c, hk, hc, rfl, rfl⟩ | ⟨hid, hl⟩ <;> rcases hS2 id' blk' h2 with ⟨k', c', hk', hc', rfl, rfl⟩ | ⟨hid', hl'⟩
        · rw [hnm k hk] at h3
          rw [hnm k' hk'] at h4
          rw [hE.inj k k' c c' r1 r2 hc hc' h3 h4 h5]
        · rw [hnm k hk] at h3
          rw [hιid _ _ hl'] at h4
          obtain ⟨b, sz, m⟩ := r1
          obtain ⟨b', sz', m'⟩ := r2
          simp only at h5
          subst h5
          obtain ⟨q1, q2⟩ := hoa _ _ _ _ _ hid' hl' h4
          rcases (hE.own k c b sz m hc h3).2 with q3 | ⟨q3, _⟩
          · omega
          · exact absurd q3 q2
        · rw [hnm k' hk'] at h4
          rw [hιid _ _ hl] at h3
          obtain ⟨b, sz, m⟩ := r1
          obtain ⟨b', sz', m'⟩ := r2
          simp only at h5
          subst h5
          obtain ⟨q1, q2⟩ := hoa _ _ _ _ _ hid hl h3
          rcases (hE.own k' c' b sz' m' hc' h4).2 with q3 | ⟨q3, _⟩
          · omega
          · exact absurd q3 q2
        · rw [hιid _ _ hl] at h3
          rw [hιid _ _ hl'] at h4
          exact h.inj id id' blk blk' r1 r2 hl hl' h3 h4 h5
      fr := fun t b hf => by
        have hnew : ∀ k c q, bout[k]? = some c → ι' k = some q → q.1 = b → w.heap.size ≤ b ∨ io b := by
          rintro k c ⟨b', sz, m⟩ hc hi rfl
          rcases (hE.own k c b' sz m hc hi).2 with q | ⟨q, _⟩
          · exact .inl q
          · exact .inr q
        rcases hf with hf | ⟨rfl, hf, hno⟩ | ⟨rfl, t', h2, hf⟩
        · refine ⟨Nat.lt_of_lt_of_le (h.fr t b hf).1 hE.hsize, (h.fr t b hf).2.1, fun id blk q hl hi e1 => ?_⟩
          rcases hS2 id blk hl with ⟨k, c, hk, hc, rfl, rfl⟩ | ⟨hid, hl'⟩
          · rw [hnm k hk] at hi
            rcases hnew k c q hc hi e1 with q1 | q1
            · have := (h.fr t b hf).1; omega
            · obtain ⟨id, blk, r, hl, hi, hr⟩ := hioOwn b q1
              exact (h.fr t b hf).2.2 id blk r hl hi hr
          · rw [hιid id blk hl'] at hi
            exact (h.fr t b hf).2.2 id blk q hl' hi e1
        · refine ⟨(hE.fr 0 b hf).1, fun hx => (hE.fr 0 b hf).2.1 (hX b hx), fun id blk q hl hi e1 => ?_⟩
          rcases hS2 id blk hl with ⟨k, c, hk, hc, rfl, rfl⟩ | ⟨hid, hl'⟩
          · rw [hnm k hk] at hi
            exact (hE.fr 0 b hf).2.2 k c q hc hi e1
          · rw [hιid id blk hl'] at hi
            exact hno ⟨id, hid, blk, q, hl', hi, e1⟩
        · refine ⟨(hE.fr t' b hf).1, fun hx => (hE.fr t' b hf).2.1 (hX b hx), fun id blk q hl hi e1 => ?_⟩
          rcases hS2 id blk hl with ⟨k, c, hk, hc, rfl, rfl⟩ | ⟨hid, hl'⟩
          · rw [hnm k hk] at hi
            exact (hE.fr t' b hf).2.2 k c q hc hi e1
          · rw [hιid id blk hl'] at hi
            exact hnoOld t' b h2 hf ⟨id, hid, blk, q, hl', hi, e1⟩
      frS := fun b hf => by
        rcases hf with hf | ⟨e1, _⟩ | ⟨e1, _⟩
        · exact h.frS b hf
        · exact absurd e1 (by decide)
        · have : tagS = 100 := rfl
          omega
      fr0 := fun t b hf => by
        rcases hf with hf | ⟨rfl, hf, hno⟩ | ⟨rfl, t', h2, hf⟩
        · exact .inl (h.fr0 t b hf)
        · exact .inr (.inl ⟨rfl, hf, hno⟩)
        · exact .inr (.inl ⟨rfl, hE.fr0 t' b hf, hnoOld t' b h2 hf⟩)
      fr2 := fun t b h2 hf => by
        rcases hf with hf | ⟨rfl, _⟩ | ⟨rfl, t', h2', hf⟩
        · exact h.fr2 t b h2 hf
        · omega
        · exact Nat.le_trans h.hsize (hE.fr2 t' b h2' hf)
      fr1 := fun b hf => by
        rcases hf with hf | ⟨e1, _⟩ | ⟨e1, _⟩
        · exact h.fr1 b hf
        · exact absurd e1 (by decide)
        · omega
      cl := fun t b h2 hf => by
        rcases hf with hf | ⟨e1, _⟩ | ⟨_, t', h2', hf⟩
        · rw [(hFold t b hf).2]; exact h.cl t b h2 hf
        · omega
        · exact hE.cl t' b h2' hf
      low := fun id hid => by
        rw [hι2 id (by
          have : ¬ id / 64 = d + 1 := by omega
          simpa using this)]
        exact h.low id hid
      os := hE.os.trans h.os
      tape := hE.tape.trans h.tape
      output := hE.output.trans h.output
      hsize := Nat.le_trans h.hsize hE.hsize
      frame := fun b hlt hno => by
        refine (hE.frame b (Nat.lt_of_lt_of_le hlt h.hsize) fun hb => ?_).trans (h.frame b hlt hno)
        obtain ⟨id, blk, ⟨b', sz, m⟩, hl, hi, rfl⟩ := hioOwn b hb
        rcases (h.own id blk b' sz m hl hi).2 with q | ⟨q, _⟩
        · simp only at hlt; omega
        · exact hno q
      shape := fun b e he => hE.shape b e (h.shape b e he) }

end Go.Av

/- A call of a Go function, by what its callee owes. -/
namespace Go.Av

theorem lendA_shape (S : List (Nat × Blk)) (c : V) : isP (lendA S c) = true ∧ (tagOfA (lendA S c) = none ∨ tagOfA (lendA S c) = some 1) := by
  cases c <;> simp only [lendA] <;> first | exact ⟨rfl, .inl rfl⟩ | exact ⟨rfl, .inr rfl⟩ | skip
  · split
    · exact ⟨rfl, .inr rfl⟩
    · exact ⟨rfl, .inl rfl⟩
  · split
    · exact ⟨rfl, .inr rfl⟩
    · exact ⟨rfl, .inl rfl⟩

theorem lendB_shape (S : List (Nat × Blk)) (c : V) : isP (lendB S c) = true ∧ (tagOfA (lendB S c) = none ∨ tagOfA (lendB S c) = some 1) := by
  by_cases hor : ∃ id i off, c = .oref id i off
  · obtain ⟨id, i, off, rfl⟩ := hor
    simp only [lendB]
    split
    · exact ⟨rfl, .inr rfl⟩
    · split
      · exact ⟨rfl, .inr rfl⟩
      · exact ⟨rfl, .inl rfl⟩
    · exact ⟨rfl, .inl rfl⟩
  · have : lendB S c = lendA S c := by
      cases c <;> first | rfl | exact absurd ⟨_, _, _, rfl⟩ hor
    rw [this]
    exact lendA_shape S c

theorem TRep.ofShape {w : World} {Fr : Nat → Nat → Prop} {ι : Iota} {v : V} {x : Value} (hp : PRep w (Fr 1) v x) (h : isP v = true ∧ (tagOfA v = none ∨ tagOfA v = some 1)) : TRep w Fr ι v x := by
  obtain ⟨h1, h2⟩ := h
  rcases h2 with h2 | h2
  · cases hp with
    | int => exact .atom rfl (.int _ _)
    | bool => exact .atom rfl (.bool _)
    | str => exact .atom rfl (.str _)
    | nil => exact .atom rfl (.nil _)
    | sl0 => exact .atom rfl (.sl0 _ _ _ _)
    | sl => simp [tagOfA] at h2
    | ptr => simp [tagOfA] at h2
    | agg => simp [isP] at h1
    | tup => simp [isP] at h1
    | fn => simp [isP] at h1
    | undef => exact .atom rfl (.undef _)
  · refine .atom h1 ?_
    unfold tagD
    rw [h2]
    exact hp

theorem lendC_rep {w : World} {ι : Iota} {Fr : Nat → Nat → Prop} {A : Nat → Prop} (hA : ∀ t b, Fr t b → A b) {c : V} {x : Value} (hc : TRep w Fr ι c x) : PRep w A (lendC c) x := by
  cases hc with
  | atom hv hp =>
    cases hp with
    | int => exact .int _ _
    | bool => exact .bool _
    | str => exact .str _
    | nil => exact .nil _
    | sl0 => exact .sl0 _ _ _ _
    | sl cv hA' hcap hsz hc hr => exact (PRep.sl cv hA' hcap hsz hc hr).weaken (hA _)
    | ptr cv hA' hc hr => exact (PRep.ptr cv hA' hc hr).weaken (hA _)
    | agg => simp [isP] at hv
    | tup => simp [isP] at hv
    | fn => simp [isP] at hv
    | undef => exact .undef _
  | osl => exact .undef _
  | osl0 => exact .undef _
  | oref => exact .undef _
  | omap => exact .undef _
  | agg => exact .undef _
  | tup => exact .undef _
  | fn => exact .undef _
  | cnd => exact .undef _

theorem lendX_rep {g : G} {s : AS} {a : Act} {w : World} {ι : Iota} {Fr : Nat → Nat → Prop} (h : Rel g s a w ι Fr) {A : Nat → Prop} (hA : ∀ t b, Fr t b → A b)
    (hO : ∀ id blk r, lk s.S id = some blk → ι id = some r → A r.1) {c : V} {x : Value} (hc : TRep w Fr ι c x) : PRep w A (lendX s.S c) x := by
  cases c with
  | fn f cs =>
    cases hc with
    | atom hv _ => simp [isP] at hv
    | fn arr hs hr =>
      refine .fn arr (by rw [List.length_map]; exact hs) fun j hj => ?_
      have hj' : j < cs.length := by simpa using hj
      rw [getD_map hj']
      exact lendC_rep hA (hr j hj')
  | _ => exact lendA_rep h hA hO hc

theorem lendB_rep {g : G} {s : AS} {a : Act} {w : World} {ι : Iota} {Fr : Nat → Nat → Prop} (h : Rel g s a w ι Fr) {A : Nat → Prop} (hA : ∀ t b, Fr t b → A b) {c : V} {x : Value}
    (hO : (∀ id blk r, lk s.S id = some blk → ι id = some r → A r.1) ∨ c.ids = []) (hc : TRep w Fr ι c x) : PRep w A (lendB s.S c) x := by
  rcases hO with hO | hno
  · by_cases hor : ∃ id i off, c = .oref id i off
    · obtain ⟨id, i, off, rfl⟩ := hor
      cases hl : lk s.S id with
      | none => simp only [lendB, hl]; exact .undef _
      | some blk =>
        cases blk with
        | mp => simp only [lendB, hl]; exact .undef _
        | arr sz n f te =>
          have := lendA_rep h hA hO hc
          simp only [lendA, hl] at this
          simp only [lendB, hl]
          exact this
        | box cs =>
          simp only [lendB, hl]
          cases i with
          | succ i => exact .undef _
          | zero =>
            cases hc with
            | atom hv _ => simp [isP] at hv
            | @oref _ _ _ b sz m hi him =>
              obtain ⟨cells, e, hh, hsz, hr⟩ := (h.own id _ b sz m hl hi).1
              have e1 : (⟨b, 0 * sz + off, none⟩ : Addr) = ⟨b, 0 + off, none⟩ := by simp
              rw [e1]
              refine .ptr (base := 0) (fun j => cells.getD j Go.undef) (hO id _ _ hl hi) (fun j hj => ?_) (fun j hj => ?_)
              · rw [Nat.zero_add]; exact cell_of hh (by simpa [hsz] using hj)
              · have hj' : j < cs.length := by simpa using hj
                rw [getD_map hj']
                exact lendX_rep h hA hO (hr j hj')
    · have : lendB s.S c = lendA s.S c := by
        cases c <;> first | rfl | exact absurd ⟨_, _, _, rfl⟩ hor
      rw [this]
      exact lendA_rep h hA hO hc
  · cases hc with
    | atom hv hp =>
      cases hp with
      | int => exact .int _ _
      | bool => exact .bool _
      | str => exact .str _
      | nil => exact .nil _
      | sl0 => exact .sl0 _ _ _ _
      | sl cv hA' hcap hsz hc hr => exact (PRep.sl cv hA' hcap hsz hc hr).weaken (hA _)
      | ptr cv hA' hc hr => exact (PRep.ptr cv hA' hc hr).weaken (hA _)
      | agg => simp [isP] at hv
      | tup => simp [isP] at hv
      | fn => simp [isP] at hv
      | undef => exact .undef _
    | osl => simp [V.ids] at hno
    | osl0 => simp [V.ids] at hno
    | oref => simp [V.ids] at hno
    | omap => exact .undef _
    | agg => exact .undef _
    | tup => exact .undef _
    | fn => exact .undef _
    | cnd => exact .undef _

theorem lend_rep {g : G} {s : AS} {a : Act} {w : World} {ι ι' : Iota} {Fr Fr' : Nat → Nat → Prop} (h : Rel g s a w ι Fr) (hA : ∀ t b, Fr t b → Fr' 1 b) {c : V} {x : Value}
    (hO : (∀ id blk r, lk s.S id = some blk → ι id = some r → Fr' 1 r.1) ∨ c.ids = []) (hc : TRep w Fr ι c x) : TRep w Fr' ι' (lend s.S c) x := by
  have list : ∀ (cs : List V) (arr : Array Value), ((∀ id blk r, lk s.S id = some blk → ι id = some r → Fr' 1 r.1) ∨ V.idsL cs = []) →
      (∀ j, j < cs.length → TRep w Fr ι (cs.getD j .undef) (arr.getD j Go.undef)) → ∀ j, j < (cs.map (lendB s.S)).length → TRep w Fr' ι' ((cs.map (lendB s.S)).getD j .undef) (arr.getD j Go.undef) := by
    intro cs arr hO hr j hj
    have hj' : j < cs.length := by simpa using hj
    rw [getD_map hj']
    refine .ofShape (lendB_rep h hA ?_ (hr j hj')) (lendB_shape _ _)
    rcases hO with hO | hO
    · exact .inl hO
    · right
      have := fun id hid => idsL_getD hj' id hid
      rw [hO] at this
      exact List.eq_nil_iff_forall_not_mem.2 fun id hid => by have := this id hid; cases this
  by_cases hag : ∃ cs, c = .agg cs
  · obtain ⟨cs, rfl⟩ := hag
    obtain ⟨arr, rfl, hs, hr⟩ := inv_agg hc
    exact .agg arr (by simpa using hs) (list cs arr hO hr)
  · by_cases hfn : ∃ f cs, c = .fn f cs
    · obtain ⟨f, cs, rfl⟩ := hfn
      cases hc with
      | atom hv _ => simp [isP] at hv
      | fn arr hs hr => exact .fn arr (by simpa using hs) (list cs arr hO hr)
    · have : lend s.S c = lendB s.S c := by
        cases c <;> first | rfl | exact absurd ⟨_, rfl⟩ hag | exact absurd ⟨_, _, rfl⟩ hfn
      rw [this]
      exact .ofShape (lendB_rep h hA hO hc) (lendB_shape _ _)

/-- The run of a call of a function value. -/
theorem call_exec {P : Program} {a : Act} {w : World} {o : Oper} {c : Call} {f : Operand} {n : Nat} {capsv : Array Value} (hop : o.op = .call c) (hcal : c.callee = .value f) (hf : a.eval f = .func (.func n) #[] capsv)
    (he : ∀ vals w, (callFunc n vals).run P w = .ok (.enter n vals) w) : (execOp a.eval o).run P w = .ok (.enter n (c.args.map a.eval ++ capsv)) w := by
  unfold execOp
  rw [hop]
  simp only [resolve, hcal, Deferred.ofValue, hf, Sem.run_bind, Sem.run_pure, Result.andThen_ok, invoke, Array.empty_append]
  exact he _ _

theorem callX_wp {P : Program} {a : Act} {w : World} {o : Oper} {c : Call} {f : Operand} {n : Nat} {capsv : Array Value} {R : Ending → World → Prop} {next : Act → World → Prop} {Q : Exit → Act → World → Prop}
    (hop : o.op = .call c) (hcal : c.callee = .value f) (hf : a.eval f = .func (.func n) #[] capsv)
    (h : CallsX P n (c.args.map a.eval ++ capsv) w R) (hR : ∀ e w', R e w' → ∃ v, e = .returned v ∧ next (a.put o.dst v) w') : o.wp P a w next Q := by
  have hx : (execOp a.eval o).run P w = (callFunc n (c.args.map a.eval ++ capsv)).run P w := by
    unfold execOp
    rw [hop]
    simp only [resolve, hcal, Deferred.ofValue, hf, Sem.run_bind, Sem.run_pure, Result.andThen_ok, invoke, Array.empty_append]
  unfold Oper.wp
  rw [hx]
  rcases h with ⟨he, hc⟩ | ⟨v, he, hr⟩
  · rw [he]
    simp only [Oper.upon]
    refine hc.mono ?_
    intro e w' h
    obtain ⟨v, rfl, hn⟩ := hR e w' h
    exact hn
  · rw [he]
    simp only [Oper.upon]
    obtain ⟨v', hv, hn⟩ := hR _ _ hr
    cases hv
    exact hn

theorem put_dst {g : G} {s : AS} {a : Act} {w : World} {ι : Iota} {Fr : Nat → Nat → Prop} {o : Oper} {e : Ef} {x : Value} (hd : dstOk g.nt o = true) (h : Rel g { s with S := applyUpd s.S e.upd } a w ι Fr) (hv : TRep w Fr ι e.v x) :
    Rel g (s.app o.dst e) (a.put o.dst x) w ι Fr := by
  unfold AS.app
  cases hdst : o.dst with
  | none => exact h
  | some d =>
    have hlt : d < g.nt := by
      unfold dstOk at hd
      rw [hdst] at hd
      exact Nat.le_of_ble_eq_true hd
    exact h.put hlt hv

theorem blks_iff {S : List (Nat × Blk)} : ∀ {ids : List Nat} {bs : List Blk}, blks S ids = some bs → bs.length = ids.length ∧ ∀ j, j < ids.length → lk S (ids.getD j 0) = bs[j]?
  | [], bs, h => by simp only [blks, Option.some.injEq] at h; subst h; simp
  | id :: r, bs, h => by
    simp only [blks] at h
    split at h
    · rename_i b l hb hl
      simp only [Option.some.injEq] at h
      subst h
      obtain ⟨h1, h2⟩ := blks_iff hl
      refine ⟨by simp [h1], fun j hj => ?_⟩
      cases j with
      | zero => simpa using hb
      | succ j => simpa using h2 j (by simpa using hj)
    · simp at h

theorem does_call {P : Program} {cx : Cx} (hD : SoundAll P cx.D) {g : G} {s : AS} {a : Act} {w : World} {ι : Iota} {Fr : Nat → Nat → Prop} (h : Rel g s a w ι Fr) {o : Oper} {c : Call} {f : Operand} {n d : Nat} {caps : List V}
    (hop : o.op = .call c) (hcal : c.callee = .value f) (hfv : strip (aval s f) = .fn n caps) (hf : TRep w Fr ι (strip (aval s f)) (a.eval f)) (hx : ∀ x ∈ c.args.toList, TRep w Fr ι (strip (aval s x)) (a.eval x))
    (hd : dstOk g.nt o = true) (hfresh : ∀ id, id / 64 = d + 1 → FreshId s id) {e : Ef} (he : callV cx s.S d n (c.args.toList.map (fun x => strip (aval s x)) ++ caps) = some e) (ho : ∀ p ∈ e.ob, p) :
    Does P g (s.app o.dst e) a w o := by
  rw [hfv] at hf
  obtain ⟨capsv, hcv, hcs, hcr⟩ : ∃ capsv : Array Value, a.eval f = .func (.func n) #[] capsv ∧ capsv.size = caps.length ∧ ∀ j, j < caps.length → TRep w Fr ι (caps.getD j .undef) (capsv.getD j Go.undef) := by
    cases hfe : a.eval f with
    | func fn first cap =>
      rw [hfe] at hf
      cases hf with
      | atom hv _ => simp [isP] at hv
      | fn _ hs hr => exact ⟨cap, rfl, hs, hr⟩
    | _ => rw [hfe] at hf; cases hf with | atom hv _ => simp [isP] at hv
  generalize havs : c.args.toList.map (fun x => strip (aval s x)) ++ caps = avs at he
  have hvr : (c.args.map a.eval ++ capsv).size = avs.length ∧ ∀ j, j < avs.length → TRep w Fr ι (avs.getD j .undef) ((c.args.map a.eval ++ capsv).getD j Go.undef) := by
    refine ⟨by rw [← havs]; simp [hcs], fun j hj => ?_⟩
    rw [← havs] at hj ⊢
    by_cases h1 : j < c.args.size
    · have hmem : c.args[j] ∈ c.args.toList := by simp
      have e1 : (c.args.toList.map (fun x => strip (aval s x)) ++ caps).getD j .undef = strip (aval s c.args[j]) := by
        simp [List.getD, List.getElem?_append, h1]
      have e2 : (c.args.map a.eval ++ capsv).getD j Go.undef = a.eval c.args[j] := by
        simp [Array.getElem?_append, h1]
      rw [e1, e2]; exact hx _ hmem
    · have hj' : j - c.args.size < caps.length := by simp at hj; omega
      have e1 : (c.args.toList.map (fun x => strip (aval s x)) ++ caps).getD j .undef = caps.getD (j - c.args.size) .undef := by
        simp [List.getD, List.getElem?_append, h1]
      have e2 : (c.args.map a.eval ++ capsv).getD j Go.undef = capsv.getD (j - c.args.size) Go.undef := by
        simp [Array.getElem?_append, h1]
      rw [e1, e2]; exact hcr _ hj'
  have hids : ∀ j, j < avs.length → ∀ id ∈ (avs.getD j .undef).ids, id ∈ V.idsL avs := fun j hj id hid => idsL_getD hj id hid
  unfold callV at he
  split at he
  · -- what the caller has of its own is lent
    rename_i D hDf
    have hS := hD n false D hDf
    split at he
    case h_2 => simp at he
    case h_1 ob r bs hDe =>
      split at he
      case h_2 => simp at he
      case h_1 hc1 hc2 hc3 =>
        simp only [Option.some.injEq] at he
        subst he
        have hob := ho ob (List.mem_singleton.2 rfl)
        simp only [Bool.and_eq_true, Bool.or_eq_true, List.isEmpty_iff, List.all_eq_true] at hc1 hc2
        have hfew : bs.length < 63 := Nat.le_of_ble_eq_true hc3
        let lent : Prop := V.idsL avs ≠ []
        let X0c : Nat → Prop := fun b => g.X0 b ∨ (¬ lent ∧ ∃ id blk q, lk s.S id = some blk ∧ ι id = some q ∧ q.1 = b)
        let FrIn : Nat → Nat → Prop := fun t b => (t = 0 ∨ t = 1) ∧ b < w.heap.size ∧ ¬ X0c b
        have hownlt : ∀ id blk q, lk s.S id = some blk → ι id = some q → q.1 < w.heap.size := fun id blk q hl hi => (h.own id blk q.1 q.2.1 q.2.2 hl hi).1.lt
        have hEnt : Ent w X0c (fun _ => False) [] (fun _ => none) FrIn :=
          { own := fun id blk b sz m hb => by simp at hb
            nob := fun id blk hb => by simp at hb
            inj := fun id id' blk blk' r r' hb => by simp at hb
            fr := fun t b hf => ⟨hf.2.1, hf.2.2, fun id blk r hb => by simp at hb⟩
            frS := fun b hf => by rcases hf.1 with e | e <;> exact absurd e (by decide)
            fr0 := fun t b hf => ⟨.inl rfl, hf.2⟩
            fr2 := fun t b h2 hf => by rcases hf.1 with e | e <;> omega
            x0 := fun b hx => ⟨by
              rcases hx with hx | ⟨_, id, blk, q, hl, hi, rfl⟩
              · exact Nat.lt_of_lt_of_le (h.x0 b hx).1 h.hsize
              · exact hownlt id blk q hl hi, id⟩
            io0 := fun b hb => hb.elim
            few := by simp }
        have hargs := hS.does _ _ ob r bs hDe hob (c.args.map a.eval ++ capsv) w X0c (fun _ => False) (fun _ => none) FrIn hEnt (by simpa using hvr.1) (fun j hj => by
          have hj' : j < avs.length := by simpa using hj
          rw [getD_map hj']
          refine lend_rep h (fun t b hf => ⟨.inr rfl, (h.fr t b hf).1, ?_⟩) ?_ (hvr.2 j hj')
          rotate_left
          · rintro (hx | ⟨_, id, blk, q, hl, hi, e1⟩)
            · exact (h.fr t b hf).2.1 hx
            · exact (h.fr t b hf).2.2 id blk q hl hi e1
          · by_cases hlent : lent
            · left
              intro id blk q hl hi
              refine ⟨.inr rfl, hownlt id blk q hl hi, ?_⟩
              rintro (hx | ⟨hn, _⟩)
              · obtain ⟨q1, q2⟩ := h.x0 _ hx
                rcases (h.own id blk q.1 q.2.1 q.2.2 hl hi).2 with q3 | ⟨q3, _⟩
                · omega
                · exact q2 q3
              · exact hn hlent
            · right
              have hnil : V.idsL avs = [] := by simpa [lent] using hlent
              have := hids j hj'
              rw [hnil] at this
              exact List.eq_nil_iff_forall_not_mem.2 fun id hid => by have := this id hid; cases this)
        intro next Q hn
        refine callX_wp hop hcal hcv hargs ?_
        rintro e' w' ⟨v, ι', Fr', rfl, hrv, hE⟩
        refine ⟨v, rfl, ?_⟩
        have hmain := after_call h hfresh (ids := []) List.nodup_nil (fun id hid => by cases hid) hE (fun j hj => by simp at hj) (fun b => ⟨fun hb => hb.elim, fun ⟨id, hid, _⟩ => by cases hid⟩) (fun b hx => .inl hx) (by simp) hfew hrv
          (fun k hk => allLt_iff hc2.1 k hk) (fun b hb k hk => allLt_iff (hc2.2 b hb) k hk) (by
            by_cases hlent : lent
            · right
              rcases hc1 with hc1 | hc1
              · exact absurd hc1 hlent
              · exact ⟨hc1.1, hc1.2⟩
            · left
              exact fun id blk q _ hl hi => .inr ⟨hlent, id, blk, q, hl, hi, rfl⟩)
        obtain ⟨ι2, Fr2, hR, hV⟩ := hmain
        exact hn _ _ ι2 Fr2 (put_dst hd hR hV)
  · -- the callee may write it
    rename_i D hDf
    have hS := hD n true D hDf
    simp only at he
    generalize hidsE : undup (V.idsL avs) = ids at he
    obtain ⟨hnd, hmem⟩ := undup_nodup (V.idsL avs)
    rw [hidsE] at hnd hmem
    split at he
    case h_2 => simp at he
    case h_1 bin hbin =>
      obtain ⟨hbl, hbj⟩ := blks_iff hbin
      split at he
      case h_2 => simp at he
      case h_1 ob r bs hDe =>
        split at he
        case h_2 => simp at he
        case h_1 hc1 hc2 hc3 =>
          simp only [Option.some.injEq] at he
          subst he
          have hob := ho ob (List.mem_cons_self ..)
          simp only [Bool.and_eq_true, List.all_eq_true] at hc1 hc2 hc3
          have hfew : bs.length < 63 := Nat.le_of_ble_eq_true hc1.2
          have hshl : ∀ (l l' : List Blk), shapesB l l' = true → l.length = l'.length := by
            intro l
            induction l with
            | nil => intro l' hq; cases l' <;> simp [shapesB] at hq ⊢
            | cons b l ih =>
              intro l' hq
              cases l' with
              | nil => cases b <;> simp [shapesB] at hq
              | cons b' l' =>
                cases b <;> cases b' <;> simp only [shapesB, Bool.and_eq_true, Bool.false_eq_true] at hq
                · simp [ih l' hq.2]
                · simp [ih l' hq.2]
          have hlen : ids.length ≤ bs.length := by
            have := hshl _ _ hc1.1
            rw [hbl, List.length_take] at this
            omega
          have hlk : ∀ id ∈ ids, ∃ blk, lk s.S id = some blk := by
            intro id hid
            obtain ⟨j, hj, rfl⟩ := mem_getD hid
            have := hbj j hj
            rw [List.getElem?_eq_getElem (by omega)] at this
            exact ⟨_, this⟩
          let io : Nat → Prop := fun b => ∃ id ∈ ids, ∃ r, ι id = some r ∧ r.1 = b
          let X0c : Nat → Prop := fun b => g.X0 b ∨ ∃ id blk q, id ∉ ids ∧ lk s.S id = some blk ∧ ι id = some q ∧ q.1 = b
          let ιc : Iota := fun k => ι (ids.getD k 0)
          let FrIn : Nat → Nat → Prop := fun t b => (t = 0 ∨ t = 1) ∧ b < w.heap.size ∧ ¬ X0c b ∧ ¬ io b
          have hownlt : ∀ id blk q, lk s.S id = some blk → ι id = some q → q.1 < w.heap.size := fun id blk q hl hi => (h.own id blk q.1 q.2.1 q.2.2 hl hi).1.lt
          have hFin : ∀ t b, Fr t b → (¬ X0c b ∧ ¬ io b) := by
            intro t b hf
            constructor
            · rintro (hx | ⟨id, blk, q, _, hl, hi, e1⟩)
              · exact (h.fr t b hf).2.1 hx
              · exact (h.fr t b hf).2.2 id blk q hl hi e1
            · rintro ⟨id, hid, r, hr, e1⟩
              obtain ⟨blk, hl⟩ := hlk id hid
              exact (h.fr t b hf).2.2 id blk r hl hr e1
          have hF1 : ∀ t b, Fr t b → FrIn 1 b := fun t b hf => ⟨.inr rfl, (h.fr t b hf).1, hFin t b hf⟩
          have hinn : ∀ id ∈ ids, ιc (idxOf id ids) = ι id := by
            intro id hid
            obtain ⟨j, hj, rfl⟩ := mem_getD hid
            rw [idxOf_getD hnd hj]
          have hconv : ∀ (u : V) (x : Value), (∀ id ∈ u.ids, id ∈ ids) → TRep w Fr ι u x → TRep w FrIn ιc ((u.ren fun id => idxOf id ids).tag fun _ => 1) x := by
            intro u x hu hr
            have h1 : TRep w (fun t b => t ≠ tagS ∧ Fr t b) ι u x := hr.world (fun t b hf => ⟨⟨fun e => h.frS b (e ▸ hf), hf⟩, rfl⟩) (fun _ _ hs => hs)
            exact h1.renTag (fun id hid => hinn id (hu id hid)) (fun t b hf => ⟨hF1 t b hf.2, rfl⟩) (fun b hf => hf.1 rfl) (fun _ _ hs => hs)
          have hbk : ∀ k blk, (bin.map fun b => (b.ren fun id => idxOf id ids).down)[k]? = some blk → ∃ c, bin[k]? = some c ∧ k < ids.length ∧ lk s.S (ids.getD k 0) = some c ∧ blk = (c.ren fun id => idxOf id ids).down := by
            intro k blk hb
            rw [List.getElem?_map] at hb
            cases hc : bin[k]? with
            | none => rw [hc] at hb; simp at hb
            | some c =>
              rw [hc] at hb
              simp only [Option.map_some, Option.some.injEq] at hb
              have hk : k < ids.length := by rw [← hbl]; exact (List.getElem?_eq_some_iff.1 hc).1
              exact ⟨c, rfl, hk, by rw [hbj k hk, hc], hb.symm⟩
          have hkm : ∀ k, k < ids.length → ids.getD k 0 ∈ ids := by
            intro k hk
            have : ids.getD k 0 = ids[k] := by simp [List.getD, hk]
            rw [this]; exact List.getElem_mem hk
          have hEnt : Ent w X0c io (bin.map fun b => (b.ren fun id => idxOf id ids).down) ιc FrIn :=
            { own := fun k blk b sz m hb hi => by
                obtain ⟨c, hc, hk, hl, rfl⟩ := hbk k blk hb
                obtain ⟨q1, _⟩ := h.own _ c b sz m hl hi
                refine ⟨?_, _, hkm k hk, _, hi, rfl⟩
                cases c with
                | mp => exact q1
                | arr sz' n f te =>
                  obtain ⟨e1, e2, cells, el, e3, e4, e5, e6⟩ := q1
                  refine ⟨e1, e2, cells, el, e3, e4, e5, fun i j hi' hj => (e6 i j hi' hj).weaken fun b' hb' => ?_⟩
                  have hS2 : te ≠ tagS := fun e => h.frS b' (e ▸ hb')
                  unfold downtag
                  rw [natBeqF.2 hS2]
                  exact hF1 te b' hb'
                | box cs =>
                  obtain ⟨cells, el, e3, e4, e6⟩ := q1
                  refine ⟨cells, el, e3, by rw [tagL_length, renL_length]; exact e4, fun j hj => ?_⟩
                  rw [tagL_length, renL_length] at hj
                  rw [tagL_getD _ _ _ (by rw [renL_length]; exact hj), renL_getD _ _ _ hj]
                  refine hconv _ _ (fun id hid => ?_) (e6 j hj)
                  have hq := hc3 _ (List.mem_of_getElem? hc) id (idsL_getD hj id hid)
                  exact mem_iff.1 hq
              nob := fun k blk hb hi => by
                obtain ⟨c, hc, hk, hl, rfl⟩ := hbk k blk hb
                obtain ⟨sz, f, te, rfl⟩ := h.nob _ c hl hi
                exact ⟨sz, f, _, rfl⟩
              inj := fun k k' blk blk' r r' hb hb' hi hi' e1 => by
                obtain ⟨c, hc, hk, hl, rfl⟩ := hbk k blk hb
                obtain ⟨c', hc', hk', hl', rfl⟩ := hbk k' blk' hb'
                have := h.inj _ _ c c' r r' hl hl' hi hi' e1
                have e2 := idxOf_getD hnd hk
                rw [this, idxOf_getD hnd hk'] at e2
                exact e2.symm
              fr := fun t b hf => ⟨hf.2.1, hf.2.2.1, fun k blk r hb hi e1 => by
                obtain ⟨c, hc, hk, hl, rfl⟩ := hbk k blk hb
                exact hf.2.2.2 ⟨_, hkm k hk, r, hi, e1⟩⟩
              frS := fun b hf => by rcases hf.1 with e | e <;> exact absurd e (by decide)
              fr0 := fun t b hf => ⟨.inl rfl, hf.2⟩
              fr2 := fun t b h2 hf => by rcases hf.1 with e | e <;> omega
              x0 := fun b hx => by
                rcases hx with hx | ⟨id, blk, q, hid, hl, hi, rfl⟩
                · refine ⟨Nat.lt_of_lt_of_le (h.x0 b hx).1 h.hsize, ?_⟩
                  rintro ⟨id, hid, r, hr, rfl⟩
                  obtain ⟨blk, hl⟩ := hlk id hid
                  obtain ⟨q1, q2⟩ := h.x0 _ hx
                  rcases (h.own id blk r.1 r.2.1 r.2.2 hl hr).2 with q3 | ⟨q3, _⟩
                  · omega
                  · exact q2 q3
                · refine ⟨hownlt id blk q hl hi, ?_⟩
                  rintro ⟨id', hid', r', hr', e1⟩
                  obtain ⟨blk', hl'⟩ := hlk id' hid'
                  have := h.inj id' id blk' blk r' q hl' hl hr' hi e1
                  exact hid (this ▸ hid')
              io0 := fun b hb => by
                obtain ⟨id, hid, r, hr, rfl⟩ := hb
                obtain ⟨blk, hl⟩ := hlk id hid
                exact hownlt id blk r hl hr
              few := by simp; omega }
          have hargs := hS.does _ _ ob r bs hDe hob (c.args.map a.eval ++ capsv) w X0c io ιc FrIn hEnt (by simpa using hvr.1) (fun j hj => by
            have hj' : j < avs.length := by simpa using hj
            rw [getD_map (by simpa using hj'), getD_map hj']
            exact hconv _ _ (fun id hid => (hmem id).2 (hids j hj' id hid)) (hvr.2 j hj'))
          intro next Q hn
          refine callX_wp hop hcal hcv hargs ?_
          rintro e' w' ⟨v, ι', Fr', rfl, hrv, hE⟩
          refine ⟨v, rfl, ?_⟩
          rw [List.length_map, hbl] at hE
          have hmain := after_call h hfresh (ids := ids) hnd hlk hE (fun j hj => rfl) (fun b => Iff.rfl) (fun b hx => .inl hx) hlen hfew hrv
            (fun k hk => allLt_iff hc2.1 k hk) (fun b hb k hk => allLt_iff (hc2.2 b hb) k hk) (.inl fun id blk q hid hl hi => .inr ⟨id, blk, q, hid, hl, hi, rfl⟩)
          obtain ⟨ι2, Fr2, hR, hV⟩ := hmain
          exact hn _ _ ι2 Fr2 (put_dst hd hR hV)
  · simp at he

end Go.Av

/- One operation: whatever its kind, the machine does what the abstract effect says. -/
namespace Go.Av

section
variable {P : Program} {cx : Cx} (hT : TabOk P cx.tt) (hD : SoundAll P cx.D)

theorem does_pure {g : G} {s : AS} {a : Act} {w : World} {ι : Iota} {Fr : Nat → Nat → Prop} {o : Oper} {e : Ef} (h : Rel g s a w ι Fr) (hd : dstOk g.nt o = true) (he : e.upd = [])
    (hr : ∃ x, (execOp a.eval o).run P w = .ok (.value x) w ∧ TRep w Fr ι e.v x) : Does P g (s.app o.dst e) a w o := by
  obtain ⟨x, hx, hv⟩ := hr
  have : e = ⟨e.v, [], e.rd, e.ob⟩ := by rw [← he]
  rw [this]
  exact does_value h hd hx hv

theorem run_index_str {tt : TT} (hT : TabOk P tt) {t : Nat} (ht : isStrT tt t = true) {w : World} {s : ByteArray} {k : IntKind} {n : Int} (h0 : 0 ≤ n) (h1 : n < (s.size : Int)) :
    (Instr.index t (.string s) (.int k n)).run P w = .ok (.int .u8 (byteAt s n)) w := by
  have hu := run_strT hT ht w
  have hlt : n.toNat < s.size := by omega
  have hlt' : n.toNat < s.data.size := hlt
  have hg : s[n.toNat]? = some s.data[n.toNat] := by
    show (if h : n.toNat < s.size then some s[n.toNat] else none) = _
    rw [dif_pos hlt]; rfl
  unfold Instr.index asIntOf
  simp only [Sem.run_bind, Sem.run_pure, Result.andThen_ok, hu, h0, if_true, hg, byteAt]
  have e2 : s.data.getD n.toNat 0 = s.data[n.toNat] := by
    unfold Array.getD; rw [dif_pos hlt']; rfl
  rw [e2]

theorem convX_run {tt : TT} (hT : TabOk P tt) {g : G} {s : AS} {a : Act} {w : World} {ι : Iota} {Fr : Nat → Nat → Prop} (h : Rel g s a w ι Fr) {src dst : Nat} {x : V} {vx : Value} {e : Ef} (he : convX tt s.S src dst x = some e) (ho : ∀ p ∈ e.ob, p)
    (hx : TRep w Fr ι x vx) : e.upd = [] ∧ ∃ z, (convert src dst vx).run P w = .ok z w ∧ TRep w Fr ι e.v z := by
  unfold convX at he
  split at he
  · rename_i id n
    split at he
    · rename_i sz m f te hb hl
      split at he
      · rename_i hsz
        have hsz1 := natBeq.1 hsz
        subst hsz1
        simp only [Option.some.injEq] at he
        subst he
        have hg : ∀ i, i < n → isU8V (f i) = true := ho _ (List.mem_singleton.2 rfl)
        rw [Bool.and_eq_true] at hb
        obtain ⟨hu, hst⟩ := hb
        obtain ⟨et, q1, q2, q3, q4, q5, r1, r2, r3, r4, r5, hs1, hs2⟩ : ∃ et q1 q2 q3 q4 q5 r1 r2 r3 r4 r5, lk tt src = some ⟨.slice et, q1, q2, q3, q4, q5⟩ ∧ lk tt et = some ⟨.int .u8, r1, r2, r3, r4, r5⟩ := by
          unfold isU8E elemTI at hu
          split at hu
          · rename_i heq
            split at heq
            · rename_i h1
              exact ⟨_, _, _, _, _, _, _, _, _, _, _, h1, heq⟩
            · cases heq
          · cases hu
        obtain ⟨t1, t2, t3, t4, t5, hd1⟩ : ∃ t1 t2 t3 t4 t5, lk tt dst = some ⟨.string, t1, t2, t3, t4, t5⟩ := by
          unfold isStrT at hst
          split at hst
          · rename_i h1
            exact ⟨_, _, _, _, _, h1⟩
          · cases hst
        have us := hT.und _ _ hs1
        have ue := hT.und _ _ hs2
        have ud := hT.und _ _ hd1
        refine ⟨rfl, .string (bytesV n f), ?_, .atom rfl (.str _)⟩
        cases hx with
        | atom hp _ => simp [isP] at hp
        | osl hi hle hcap hsh hcs =>
          rename_i b sz m2 cap c e'
          obtain ⟨⟨rfl, rfl, cells, e2, hh, hcsz, hlen, hr⟩, _⟩ := h.own id _ b sz m2 hl hi
          refine run_convert_bytes_arg w src et us ue b 0 n cap _ (by simp) (fun i hi' => ?_) dst ud
          have h1 := hr i 0 (by omega) (by decide)
          have h2 := hg i hi'
          obtain ⟨z, hz⟩ : ∃ z, f i = .int .u8 z := by
            cases hf : f i with
            | int k z => rw [hf] at h2; cases k <;> first | exact ⟨z, rfl⟩ | cases h2
            | _ => rw [hf] at h2; cases h2
          rw [hz] at h1
          simp only [V.cells, List.getD_cons_zero, Nat.mul_one, Nat.add_zero] at h1
          have h3 : cells.getD i Go.undef = Value.int .u8 z := by
            cases hq : cells.getD i Go.undef with
            | int k z' => rw [hq] at h1; cases h1; rfl
            | _ => rw [hq] at h1; cases h1
          rw [Nat.zero_add, cell_of hh (by omega), h3]
          simp [hi', hz, intA]
        | osl0 ad hi =>
          have e0 : bytesV 0 f = ByteArray.empty := rfl
          rw [e0]
          cases ad with
          | none => exact run_convert_bytes_nil w src et us ue _ _ dst ud
          | some ad =>
            rw [run_convert_bytes_string w src dst et _ _ _ us ue ud, run_bytesToString w ad 0 _ [] (by simp [loadCells, loadCellsFrom])]
            rfl
      · cases he
    · cases he
  · exact convV_run hT he ho hx

include hT hD in
theorem core_sim {g : G} {s : AS} {a : Act} {w : World} {ι : Iota} {Fr : Nat → Nat → Prop} (h : Rel g s a w ι Fr) {o : Oper} {d : Nat} (hx : ∀ x ∈ opnds o.op, TRep w Fr ι (strip (aval s x)) (a.eval x))
    (hd : dstOk g.nt o = true) (hfresh : ∀ id, id / 64 = d + 1 → FreshId s id) {e : Ef} (he : coreOp cx s.S d (fun x => strip (aval s x)) o.op = some e) (ho : ∀ p ∈ e.ob, p) : Does P g (s.app o.dst e) a w o := by
  have hf0 : FreshId s (site0 d) := hfresh _ (by unfold site0; omega)
  cases hop : o.op with
  | move x =>
    rw [hop] at hx he
    simp only [coreOp, ok, Option.some.injEq] at he
    subst he
    exact does_pure h hd rfl ⟨_, run_move' x (.inl hop), hx x (by simp [opnds])⟩
  | assign x =>
    rw [hop] at hx he
    simp only [coreOp, ok, Option.some.injEq] at he
    subst he
    exact does_pure h hd rfl ⟨_, run_move' x (.inr hop), hx x (by simp [opnds])⟩
  | alloc el =>
    rw [hop] at he
    simp only [coreOp] at he
    split at he
    · rename_i ti hl
      simp only [box1, Option.some.injEq] at he
      subst he
      exact does_alloc hT h hop hl hf0 hd
    · simp at he
  | box el x =>
    rw [hop] at hx he
    simp only [coreOp] at he
    split at he
    · rename_i hs
      simp only [box1, Option.some.injEq] at he
      subst he
      exact does_box h hop (hx x (by simp [opnds])) hs hf0 hd
    · simp at he
  | build t ps =>
    rw [hop] at hx he
    exact does_build hT h hop (fun p hp => hx p.2 (by simp only [opnds]; exact List.mem_map.2 ⟨p, hp, rfl⟩)) hd he
  | buildSlice t len ps =>
    rw [hop] at hx he
    exact does_buildSlice hT h hop (fun p hp => hx p.2 (by simp only [opnds]; exact List.mem_map.2 ⟨p, hp, rfl⟩)) hd hf0 he
  | load t x =>
    rw [hop] at hx he
    simp only [coreOp] at he
    split at he
    · rename_i ti hl
      obtain ⟨h1, y, hy, hv⟩ := load_sim (P := P) hT h hl he ho (hx x (by simp [opnds]))
      refine does_pure h hd h1 ⟨y, ?_, hv⟩
      unfold execOp; rw [hop]; exact run_v hy
    · simp at he
  | store t p x =>
    rw [hop] at hx he
    simp only [coreOp] at he
    split at he
    · rename_i ti hl
      exact does_store hT h hop hl (hx p (by simp [opnds])) (hx x (by simp [opnds])) hd he ho
    · simp at he
  | nilCheck x =>
    rw [hop] at hx he
    have hxr := hx x (by simp [opnds])
    simp only [coreOp] at he
    split at he
    · rename_i cs off t hv
      simp only [ok, Option.some.injEq] at he
      subst he
      rw [hv] at hxr
      refine does_pure h hd rfl ⟨a.eval x, ?_, hxr⟩
      have : ∃ ad, a.eval x = .pointer (some ad) := by
        generalize a.eval x = vx at hxr
        cases hxr with
        | atom _ hp => cases hp; exact ⟨_, rfl⟩
      obtain ⟨ad, had⟩ := this
      unfold execOp; rw [hop]; simp [had]
    · rename_i id i off hv
      simp only [ok, Option.some.injEq] at he
      subst he
      rw [hv] at hxr
      refine does_pure h hd rfl ⟨a.eval x, ?_, hxr⟩
      have : ∃ ad, a.eval x = .pointer (some ad) := by
        generalize a.eval x = vx at hxr
        cases hxr with
        | atom hv _ => simp [isP] at hv
        | oref => exact ⟨_, rfl⟩
      obtain ⟨ad, had⟩ := this
      unfold execOp; rw [hop]; simp [had]
    · simp at he
  | binOp op t x y yt =>
    rw [hop] at hx he
    obtain ⟨h1, z, hz, hv⟩ := binV_run (P := P) hT (ox := x) (oy := y) he ho (hx x (by simp [opnds])) (hx y (by simp [opnds]))
    refine does_pure h hd h1 ⟨z, ?_, hv⟩
    unfold execOp; rw [hop]; exact run_v hz
  | unOp op t x =>
    rw [hop] at hx he
    have hxr := hx x (by simp [opnds])
    simp only [coreOp] at he
    split at he
    · rename_i b hv
      simp only [ok, Option.some.injEq] at he
      subst he
      rw [hv] at hxr
      have := inv_bool hxr
      refine does_pure h hd rfl ⟨.bool (!b), ?_, .atom rfl (.bool _)⟩
      unfold execOp; rw [hop]; refine run_v ?_; rw [this]; rfl
    · rename_i k n hv
      simp only [okO, Option.some.injEq] at he
      subst he
      rw [hv] at hxr
      have := inv_int hxr
      have hk : k.wrap (0 - n) = 0 - n := ho (inK k (0 - n)) (List.mem_singleton.2 rfl)
      refine does_pure h hd rfl ⟨.int k (0 - n), ?_, .atom rfl (.int _ _)⟩
      unfold execOp; rw [hop]; refine run_v ?_; rw [this]; simp only [Op.unary, Op.intArith, hk]; rfl
    · simp at he
  | convert src dst x =>
    rw [hop] at hx he
    obtain ⟨h1, z, hz, hv⟩ := convX_run (P := P) hT h he ho (hx x (by simp [opnds]))
    refine does_pure h hd h1 ⟨z, ?_, hv⟩
    unfold execOp; rw [hop]; exact run_v hz
  | makeFunc fn first caps =>
    rw [hop] at hx he
    cases fn with
    | func f =>
      simp only [coreOp] at he
      split at he
      · rename_i hfirst
        simp only [ok, Option.some.injEq] at he
        subst he
        refine does_pure h hd rfl ⟨.func (.func f) (first.map a.eval) (caps.map a.eval), ?_, ?_⟩
        · unfold execOp; rw [hop]; exact run_v rfl
        · have : first = #[] := by rw [← Array.toList_inj]; simpa using hfirst
          subst this
          simp only [List.map_toArray, List.map_nil]
          refine .fn (caps.map a.eval) (by simp) fun j hj => ?_
          have hj' : j < caps.size := by simpa using hj
          have hm : caps[j] ∈ caps.toList := by simp
          have e1 : (caps.toList.map fun x => strip (aval s x)).getD j .undef = strip (aval s caps[j]) := by simp [List.getD, hj']
          have e2 : (caps.map a.eval).getD j Go.undef = a.eval caps[j] := by simp [hj']
          rw [e1, e2]
          exact hx _ (by simp only [opnds]; exact List.mem_append.2 (.inr hm))
      · simp at he
    | _ => simp [coreOp] at he
  | makeSlice t l c =>
    rw [hop] at hx he
    exact does_make hT h hop (hx l (by simp [opnds])) (hx c (by simp [opnds])) hd hf0 he ho
  | slice t x lo hi mx =>
    rw [hop] at hx he
    obtain ⟨h1, z, hz, hv⟩ := sliceV_run (P := P) hT h he ho (hx x (by simp [opnds])) (brep (ev := a.eval) fun o ho => hx o (by subst ho; simp [opnds, opndsO])) (brep (ev := a.eval) fun o ho => hx o (by subst ho; simp [opnds, opndsO]))
      (brep (ev := a.eval) fun o ho => hx o (by subst ho; simp [opnds, opndsO])) (by cases mx <;> simp)
    refine does_pure h hd h1 ⟨z, ?_, hv⟩
    unfold execOp; rw [hop]; exact run_v hz
  | fieldAddr st x f =>
    rw [hop] at hx he
    obtain ⟨h1, z, hz, hv⟩ := fieldAddr_sim (P := P) hT he (hx x (by simp [opnds]))
    refine does_pure h hd h1 ⟨z, ?_, hv⟩
    unfold execOp; rw [hop]; exact run_v hz
  | field st x f =>
    rw [hop] at hx he
    obtain ⟨h1, z, hz, hv⟩ := field_sim (P := P) hT he (hx x (by simp [opnds]))
    refine does_pure h hd h1 ⟨z, ?_, hv⟩
    unfold execOp; rw [hop]; exact run_v hz
  | indexAddr t x i =>
    rw [hop] at hx he
    obtain ⟨h1, z, hz, hv⟩ := indexAddr_sim (P := P) hT h he ho (hx x (by simp [opnds])) (hx i (by simp [opnds]))
    refine does_pure h hd h1 ⟨z, ?_, hv⟩
    unfold execOp; rw [hop]; exact run_v hz
  | index t x i =>
    rw [hop] at hx he
    have h1 := hx x (by simp [opnds])
    have h2 := hx i (by simp [opnds])
    simp only [coreOp] at he
    split at he
    · rename_i sv k n hv1 hv2 hst
      simp only [okO, Option.some.injEq] at he
      subst he
      rw [hv1] at h1
      rw [hv2] at h2
      have e1 := inv_str h1
      have e2 := inv_int h2
      have hob := ho _ (List.mem_singleton.2 rfl)
      refine does_pure h hd rfl ⟨_, ?_, .atom rfl (.int _ _)⟩
      unfold execOp; rw [hop]; refine run_v ?_; rw [e1, e2]; exact run_index_str hT hst hob.1 hob.2
    · simp at he
  | makeMap t r =>
    rw [hop] at he
    cases r with
    | none => exact does_makeMap h hop hd hf0 he
    | some r => simp [coreOp] at he
  | lookup t x i c =>
    rw [hop] at hx he
    obtain ⟨h1, z, hz, hv⟩ := lookup_sim (P := P) hT h (hx x (by simp [opnds])) (hx i (by simp [opnds])) he
    refine does_pure h hd h1 ⟨z, ?_, hv⟩
    unfold execOp; rw [hop]; exact run_v hz
  | mapUpdate t x i v =>
    rw [hop] at hx he
    exact does_mapUpdate hT h hop hd (hx x (by simp [opnds])) (hx i (by simp [opnds])) (hx v (by simp [opnds])) he
  | extract x i =>
    rw [hop] at hx he
    have h1 := hx x (by simp [opnds])
    simp only [coreOp] at he
    split at he
    · rename_i vs hv
      split at he
      · rename_i v hvi
        simp only [ok, Option.some.injEq] at he
        subst he
        rw [hv] at h1
        generalize hvx : a.eval x = vx at h1
        cases h1 with
        | atom hv _ => simp [isP] at hv
        | tup arr hs hr =>
          have hi : i < vs.length := (List.getElem?_eq_some_iff.1 hvi).1
          have e1 : vs.getD i .undef = v := by simp [List.getD, hvi]
          refine does_pure h hd rfl ⟨arr.getD i Go.undef, ?_, by have := hr i hi; rw [e1] at this; exact this⟩
          unfold execOp; rw [hop]; refine run_v ?_; rw [hvx]
          have hi' : i < arr.size := by omega
          simp [Instr.extract, hi']
      · simp at he
    · simp at he
  | call c =>
    rw [hop] at hx he
    simp only [coreOp] at he
    split at he
    · -- len
      rename_i hcal
      split at he
      · rename_i x t rest hargs hty
        obtain ⟨h1, z, hz, hv⟩ := lenV_run (P := P) hT (rt := o.type) rest he (hx x (by simp only [opnds]; exact List.mem_append.2 (.inr (by rw [hargs]; simp))))
        refine does_pure h hd h1 ⟨z, ?_, hv⟩
        have ha : c.args = #[x] := by rw [← Array.toList_inj]; simpa using hargs
        have ht : c.argTypes = (t :: rest).toArray := by rw [← hty]
        unfold execOp; rw [hop]
        simp only [resolve, hcal, ha, ht, invoke, builtin, Sem.run_bind, Sem.run_pure, Result.andThen_ok, List.map_toArray, List.map_cons, List.map_nil, hz]
      · simp at he
    · -- append
      rename_i hcal
      split at he
      · rename_i x y t u rest hargs hty
        split at he
        · rename_i tiu htiu
          have ha : c.args = #[x, y] := by rw [← Array.toList_inj]; simpa using hargs
          exact does_append hT h hop hcal ha hty ⟨_, htiu⟩ (hx x (by simp only [opnds]; exact List.mem_append.2 (.inr (by rw [hargs]; simp)))) (hx y (by simp only [opnds]; exact List.mem_append.2 (.inr (by rw [hargs]; simp)))) hd hf0 he ho
        · simp at he
      · simp at he
    · -- max
      rename_i hcal
      split at he
      · rename_i x r hargs
        unfold okV at he
        split at he
        · rename_i v hv
          simp only [ok, Option.some.injEq] at he
          subst he
          have hall : ∀ y ∈ x :: r, TRep w Fr ι (strip (aval s y)) (a.eval y) := fun y hy => hx y (by simp only [opnds]; exact List.mem_append.2 (.inr (by rw [hargs]; exact hy)))
          obtain ⟨u, hu, hur⟩ := fold_run (P := P) (fun x y z vx vy h1 h2 h3 => maxV_run (P := P) h1 h2 h3) (r.map fun y => strip (aval s y)) (r.map a.eval) _ v _ hv (hall x (List.mem_cons_self ..)) (by simp) (fun j hj => by
            have hj' : j < r.length := by simpa using hj
            have e1 : (r.map fun y => strip (aval s y)).getD j .undef = strip (aval s r[j]) := by simp [List.getD, hj']
            have e2 : (r.map a.eval).getD j Go.undef = a.eval r[j] := by simp [List.getD, hj']
            rw [e1, e2]; exact hall _ (List.mem_cons_of_mem _ (List.getElem_mem hj')))
          refine does_pure h hd rfl ⟨u, ?_, hur⟩
          have ha : c.args = (x :: r).toArray := by rw [← Array.toList_inj]; simpa using hargs
          unfold execOp; rw [hop]
          simp only [resolve, hcal, ha, invoke, builtin, Sem.run_bind, Sem.run_pure, Result.andThen_ok, Builtin.max_, List.map_toArray, List.map_cons, hu]
        · simp at he
      · simp at he
    · -- min
      rename_i hcal
      split at he
      · rename_i x r hargs
        unfold okV at he
        split at he
        · rename_i v hv
          simp only [ok, Option.some.injEq] at he
          subst he
          have hall : ∀ y ∈ x :: r, TRep w Fr ι (strip (aval s y)) (a.eval y) := fun y hy => hx y (by simp only [opnds]; exact List.mem_append.2 (.inr (by rw [hargs]; exact hy)))
          obtain ⟨u, hu, hur⟩ := fold_run (P := P) (fun x y z vx vy h1 h2 h3 => minV_run (P := P) h1 h2 h3) (r.map fun y => strip (aval s y)) (r.map a.eval) _ v _ hv (hall x (List.mem_cons_self ..)) (by simp) (fun j hj => by
            have hj' : j < r.length := by simpa using hj
            have e1 : (r.map fun y => strip (aval s y)).getD j .undef = strip (aval s r[j]) := by simp [List.getD, hj']
            have e2 : (r.map a.eval).getD j Go.undef = a.eval r[j] := by simp [List.getD, hj']
            rw [e1, e2]; exact hall _ (List.mem_cons_of_mem _ (List.getElem_mem hj')))
          refine does_pure h hd rfl ⟨u, ?_, hur⟩
          have ha : c.args = (x :: r).toArray := by rw [← Array.toList_inj]; simpa using hargs
          unfold execOp; rw [hop]
          simp only [resolve, hcal, ha, invoke, builtin, Sem.run_bind, Sem.run_pure, Result.andThen_ok, Builtin.min_, List.map_toArray, List.map_cons, hu]
        · simp at he
      · simp at he
    · -- a Go function
      rename_i f hcal
      split at he
      · rename_i n caps hv
        have hmf : f ∈ opnds (.call c) := by simp only [opnds, hcal, calleeO]; exact List.mem_append.2 (.inl (by simp))
        exact does_call hD h hop hcal hv (hx f hmf) (fun x hxm => hx x (by simp only [opnds]; exact List.mem_append.2 (.inr hxm))) hd hfresh he ho
      · simp at he
    · simp at he
  | _ => rw [hop] at he; simp [coreOp] at he

end
end Go.Av

/- An operation with its guard, and a region in the text's order. -/
namespace Go.Av

section
variable {P : Program} {cx : Cx} (hT : TabOk P cx.tt) (hD : SoundAll P cx.D)

theorem strip_repG {w : World} {Fr : Nat → Nat → Prop} {ι : Iota} {v : V} {x : Value} (h : TRep w Fr ι v x) {gd : Bool} (hg : gd = true) (ho : ∀ p ∈ stripO gd v, p) : TRep w Fr ι (strip v) x := by
  cases v with
  | cnd c u =>
    have hc : c = true := ho _ (List.mem_singleton.2 rfl) hg
    cases h with
    | atom hv _ => simp [isP] at hv
    | cnd ht hf => exact ht hc
  | _ => exact h

theorem withO_some {l : List Prop} {x : Option Ef} {e : Ef} (h : withO l x = some e) : ∃ e', x = some e' ∧ e = { e' with ob := l ++ e'.ob } := by
  cases x with
  | none => simp [withO] at h
  | some e' => exact ⟨e', rfl, (Option.some.inj h).symm⟩

theorem pickV_rep {w : World} {Fr : Nat → Nat → Prop} {ι : Iota} {gd cb : Bool} {va vb : V} {x y : Value} {e : Ef} (he : pickV gd cb va vb = some e) (hg : gd = true) (ho : ∀ p ∈ e.ob, p)
    (h1 : TRep w Fr ι va x) (h2 : TRep w Fr ι vb y) : e.upd = [] ∧ TRep w Fr ι e.v (if cb then x else y) := by
  unfold pickV at he
  split at he
  · rename_i p q
    simp only [ok, Option.some.injEq] at he
    subst he
    refine ⟨rfl, ?_⟩
    cases cb
    · exact h2
    · exact h1
  · rename_i c p q
    simp only [okO, Option.some.injEq] at he
    subst he
    refine ⟨rfl, ?_⟩
    cases cb
    · exact h2
    · have hc : c = true := ho _ (List.mem_singleton.2 rfl) hg rfl
      cases h1 with
      | atom hv _ => simp [isP] at hv
      | cnd ht hf => exact ht hc
  · rename_i p c q
    simp only [okO, Option.some.injEq] at he
    subst he
    refine ⟨rfl, ?_⟩
    cases cb
    · have hc : c = true := ho _ (List.mem_singleton.2 rfl) hg rfl
      cases h2 with
      | atom hv _ => simp [isP] at hv
      | cnd ht hf => exact ht hc
    · exact h1
  · simp at he

include hT hD in
theorem opE_sim {g : G} {s : AS} {a : Act} {w : World} {ι : Iota} {Fr : Nat → Nat → Prop} (h : Rel g s a w ι Fr) {o : Oper} {d : Nat} {gd : Bool} (hg : gd = true)
    (hd : dstOk g.nt o = true) (hfresh : ∀ id, id / 64 = d + 1 → FreshId s id) {e : Ef} (he : opE cx s gd d o.op = some e) (ho : ∀ p ∈ e.ob, p) : Does P g (s.app o.dst e) a w o := by
  have key : (∃ c x y, o.op = .pick c x y) ∨ opE cx s gd d o.op = withO ((opnds o.op).flatMap fun x => stripO gd (aval s x)) (coreOp cx s.S d (fun x => strip (aval s x)) o.op) := by
    cases o.op <;> first | exact .inl ⟨_, _, _, rfl⟩ | exact .inr rfl
  rcases key with ⟨c, x, y, hop⟩ | key
  · rw [hop] at he
    simp only [opE] at he
    split at he
    · rename_i cb hcb
      obtain ⟨e', he', rfl⟩ := withO_some he
      obtain ⟨h1, h2⟩ := pickV_rep (w := w) (Fr := Fr) (ι := ι) (x := a.eval x) (y := a.eval y) he' hg (fun p hp => ho p (List.mem_append.2 (.inr hp))) (aval_rep h x) (aval_rep h y)
      have hc := strip_repG (aval_rep h c) hg (fun p hp => ho p (List.mem_append.2 (.inl hp)))
      rw [hcb] at hc
      have hcv := inv_bool hc
      refine does_pure h hd h1 ⟨_, ?_, h2⟩
      unfold execOp; rw [hop]
      simp only [hcv, asBool, Sem.run_bind, Sem.run_pure, Result.andThen_ok]
    · simp at he
  · rw [key] at he
    obtain ⟨e', he', rfl⟩ := withO_some he
    exact core_sim (e := e') hT hD h (fun x hx => strip_repG (aval_rep h x) hg fun p hp => ho p (List.mem_append.2 (.inl (List.mem_flatMap.2 ⟨x, hx, hp⟩)))) hd hfresh he' (fun p (hp : p ∈ e'.ob) => ho p (List.mem_append.2 (.inr hp)))

/-- What is there may be told with a condition that holds. -/
theorem Rel.cond {g : G} {a : Act} {w : World} {ι : Iota} {Fr : Nat → Nat → Prop} {d : Nat} {v : V} {T : List (Nat × V)} {S : List (Nat × Blk)} {gd : Bool} (hg : gd = true) (h : Rel g ⟨Go.Av.put T d v, S⟩ a w ι Fr) :
    Rel g ⟨Go.Av.put T d (V.cnd gd v), S⟩ a w ι Fr :=
  { h with
    tmp := fun t u ht => by
      simp only [lk_put] at ht
      by_cases e : t = d
      · simp only [e, if_true, Option.some.injEq] at ht
        subst ht
        refine .cnd (fun _ => h.tmp t v (by simp [lk_put, e])) (fun hf => by rw [hg] at hf; simp at hf)
      · simp only [e, if_false] at ht
        exact h.tmp t u (by simp [lk_put, e, ht]) }

theorem mergeCs_len {gd : Bool} : ∀ {old new m : List V} {ps : List Prop}, mergeCs gd old new = some (m, ps) → m.length = new.length ∧ m.length = old.length
  | [], [], m, ps, h => by simp only [mergeCs, Option.some.injEq, Prod.mk.injEq] at h; simp [← h.1]
  | a :: r, b :: r', m, ps, h => by
    simp only [mergeCs] at h
    split at h
    · rename_i c p cs ps' h1 h2
      simp only [Option.some.injEq, Prod.mk.injEq] at h
      obtain ⟨e1, e2⟩ := mergeCs_len h2
      rw [← h.1]
      simp [e1, e2]
      omega
    · simp at h
  | [], _ :: _, _, _, h => by simp [mergeCs] at h
  | _ :: _, [], _, _, h => by simp [mergeCs] at h

theorem mergeC_rep {gd : Bool} {a b c : V} {ps : List Prop} (h : mergeC gd a b = some (c, ps)) (ho : ∀ p ∈ ps, p) {w : World} {Fr : Nat → Nat → Prop} {ι : Iota} {x : Value} (h0 : ∀ t b, Fr t b → Fr 0 b)
    (hx : TRep w Fr ι (if gd = true then b else a) x) : TRep w Fr ι c x := by
  have tg : ∀ {n : Nat} {f : Nat → V} {t t' : Nat}, (t' = t ∨ t' = 0) → TRep w Fr ι (.sl n f t) x → TRep w Fr ι (.sl n f t') x := by
    intro n f t t' ht hx
    rcases ht with rfl | rfl
    · exact hx
    · cases hx with
      | atom hp hr =>
        have hr' := hr.weaken (A' := Fr 0) fun b hb => h0 _ b hb
        refine .atom rfl ?_
        cases hr' with
        | sl0 => exact .sl0 _ _ _ _
        | sl cv hA hcap hsz hc hr2 => exact .sl cv hA hcap hsz hc hr2
  unfold mergeC at h
  split at h
  · split at h
    · rename_i k a' k' b' _ hk
      have hk' : k = k' := of_decide_eq_true hk
      subst hk'
      simp only [Option.some.injEq, Prod.mk.injEq] at h
      rw [← h.1]
      cases gd with
      | true => simpa using hx
      | false => simpa using hx
    · simp at h
  · rename_i n f t n' f' t'
    simp only [Option.some.injEq, Prod.mk.injEq] at h
    obtain ⟨rfl, rfl⟩ := h
    have htt : (match Nat.beq t t' with | true => t' | false => 0) = t' ∨ (match Nat.beq t t' with | true => t' | false => 0) = 0 := by
      cases Nat.beq t t' <;> simp
    have htt2 : (match Nat.beq t t' with | true => t' | false => 0) = t ∨ (match Nat.beq t t' with | true => t' | false => 0) = 0 := by
      cases hb : Nat.beq t t' with
      | true => exact .inl (natBeq.1 hb).symm
      | false => exact .inr rfl
    cases gd with
    | true =>
      simp only [if_true] at hx
      exact tg htt hx
    | false =>
      have e := ho _ (List.mem_singleton.2 rfl) rfl
      simp only [V.sl.injEq, and_true] at e
      obtain ⟨rfl, rfl⟩ := e
      simp only [Bool.false_eq_true, if_false] at hx
      exact tg htt2 hx
  · simp at h

theorem mergeCs_rep {gd : Bool} {w : World} {Fr : Nat → Nat → Prop} {ι : Iota} (h0 : ∀ t b, Fr t b → Fr 0 b) : ∀ {old new m : List V} {ps : List Prop}, mergeCs gd old new = some (m, ps) → (∀ p ∈ ps, p) → ∀ {x : Value} {j : Nat},
    TRep w Fr ι ((if gd = true then new else old).getD j .undef) x → j < m.length → TRep w Fr ι (m.getD j .undef) x
  | [], [], m, ps, h, _, x, j, _, hj => by simp only [mergeCs, Option.some.injEq, Prod.mk.injEq] at h; rw [← h.1] at hj; simp at hj
  | a :: r, b :: r', m, ps, h, ho, x, j, hx, hj => by
    simp only [mergeCs] at h
    split at h
    · rename_i c p cs ps' h1 h2
      simp only [Option.some.injEq, Prod.mk.injEq] at h
      obtain ⟨rfl, rfl⟩ := h
      cases j with
      | zero =>
        refine mergeC_rep h1 (fun q hq => ho q (List.mem_append.2 (.inl hq))) h0 ?_
        cases gd <;> simpa using hx
      | succ j =>
        refine mergeCs_rep h0 h2 (fun q hq => ho q (List.mem_append.2 (.inr hq))) (j := j) ?_ (by simpa using hj)
        cases gd <;> simpa using hx
    · simp at h
  | [], _ :: _, _, _, h, _, _, _, _, _ => by simp [mergeCs] at h
  | _ :: _, [], _, _, h, _, _, _, _, _ => by simp [mergeCs] at h

/-- A box may be told of by less. -/
theorem Rel.rebox {g : G} {a : Act} {w : World} {ι : Iota} {Fr : Nat → Nat → Prop} {T : List (Nat × V)} {S : List (Nat × Blk)} {id : Nat} {cs m : List V} (h : Rel g ⟨T, S⟩ a w ι Fr) (hl : lk S id = some (.box cs))
    (hlen : m.length = cs.length) (hm : ∀ j, j < m.length → ∀ x, TRep w Fr ι (cs.getD j .undef) x → TRep w Fr ι (m.getD j .undef) x) : Rel g ⟨T, Go.Av.put S id (.box m)⟩ a w ι Fr := by
  have key : ∀ k blk, lk (Go.Av.put S id (.box m)) k = some blk → (k = id ∧ blk = .box m) ∨ (k ≠ id ∧ lk S k = some blk) := by
    intro k blk hk
    rw [lk_put] at hk
    by_cases e : k = id
    · rw [if_pos e] at hk; exact .inl ⟨e, (Option.some.inj hk).symm⟩
    · rw [if_neg e] at hk; exact .inr ⟨e, hk⟩
  have was : ∀ k blk, lk (Go.Av.put S id (.box m)) k = some blk → ∃ blk', lk S k = some blk' := by
    intro k blk hk
    rcases key k blk hk with ⟨rfl, _⟩ | ⟨_, h⟩
    · exact ⟨_, hl⟩
    · exact ⟨_, h⟩
  exact { h with
    own := fun k blk b sz n hk hi => by
      rcases key k blk hk with ⟨rfl, rfl⟩ | ⟨_, h1⟩
      · obtain ⟨⟨cells, e, hh, hsz, hr⟩, h3⟩ := h.own k _ b sz n hl hi
        exact ⟨⟨cells, e, hh, by omega, fun j hj => hm j hj _ (hr j (by omega))⟩, h3⟩
      · exact h.own k blk b sz n h1 hi
    nob := fun k blk hk hi => by
      rcases key k blk hk with ⟨rfl, rfl⟩ | ⟨_, h1⟩
      · obtain ⟨_, _, _, e⟩ := h.nob k _ hl hi
        simp at e
      · exact h.nob k blk h1 hi
    inj := fun k k' blk blk' r r' h1 h2 h3 h4 h5 => by
      obtain ⟨b1, g1⟩ := was k blk h1
      obtain ⟨b2, g2⟩ := was k' blk' h2
      exact h.inj k k' b1 b2 r r' g1 g2 h3 h4 h5
    fr := fun t b hb => ⟨(h.fr t b hb).1, (h.fr t b hb).2.1, fun k blk r hk hi => by
      obtain ⟨b1, g1⟩ := was k blk hk
      exact (h.fr t b hb).2.2 k b1 r g1 hi⟩ }

theorem yielded_of {g : G} {s : AS} {a : Act} {w : World} {ι : Iota} {Fr : Nat → Nat → Prop} (h : Rel g s a w ι Fr) {ops : List Oper} {j t : Nat} {oj : Oper} {v : V} (hj : ops[j]? = some oj) (ht : oj.dst = some t) (hl : lk s.T t = some v) :
    (∀ b, v = .bool b → yielded ops.toArray a.tmps j = some b) ∧ (∀ c b, v = .cnd c (.bool b) → yielded ops.toArray a.tmps j = if c then some b else none) := by
  have hr := h.tmp t v hl
  have hy : ∀ b, a.tmps.getD t Go.undef = .bool b → yielded ops.toArray a.tmps j = some b := by
    intro b hb
    unfold yielded
    have : a.tmps[t]? = some (.bool b) := by
      cases hq : a.tmps[t]? with
      | none => simp [Array.getD_eq_getD_getElem?, hq, Go.undef] at hb
      | some u => simp [Array.getD_eq_getD_getElem?, hq] at hb; rw [hb]
    simp [hj, ht, this]
  constructor
  · rintro b rfl
    exact hy b (inv_bool hr)
  · rintro c b rfl
    cases hr with
    | atom hv _ => simp [isP] at hv
    | cnd hct hcf =>
      cases c with
      | true => exact hy b (inv_bool (hct rfl))
      | false =>
        have hu := hcf rfl
        unfold yielded
        cases hq : a.tmps[t]? with
        | none => simp [hj, ht, hq]
        | some u =>
          simp [Array.getD_eq_getD_getElem?, hq] at hu
          subst hu
          simp [hj, ht, hq, Go.undef]

theorem guard_of {g : G} {s : AS} {a : Act} {w : World} {ι : Iota} {Fr : Nat → Nat → Prop} (h : Rel g s a w ι Fr) {ops : List Oper} {o : Oper} :
    (guardOf ops s o = some none → Region.wanted o (yielded ops.toArray a.tmps) = true) ∧
    (∀ b, guardOf ops s o = some (some b) → Region.wanted o (yielded ops.toArray a.tmps) = b) := by
  unfold guardOf Region.wanted
  cases hgd : o.guard with
  | none => exact ⟨fun _ => rfl, fun b hb => by simp at hb⟩
  | some jw =>
    obtain ⟨j, want⟩ := jw
    simp only []
    cases hj : ops[j]? with
    | none => exact ⟨fun hb => by simp at hb, fun b hb => by simp at hb⟩
    | some oj =>
      cases ht : oj.dst with
      | none => exact ⟨fun hb => by simp [ht] at hb, fun b hb => by simp [ht] at hb⟩
      | some t =>
        cases hl : lk s.T t with
        | none => exact ⟨fun hb => by simp [ht, hl] at hb, fun b hb => by simp [ht, hl] at hb⟩
        | some v =>
          have hy := yielded_of h hj ht hl
          simp only [ht, hl]
          constructor
          · intro hb
            split at hb <;> first | (cases want <;> simp at hb; done) | simp at hb
          · intro b hb
            split at hb
            · rename_i b' hv
              rw [hy.1 b' (Option.some.inj hv)]
              cases want <;> cases b' <;> simp at hb ⊢ <;> exact hb
            · rename_i c b' hv
              rw [hy.2 c b' (Option.some.inj hv)]
              cases want <;> cases b' <;> cases c <;> simp at hb ⊢ <;> exact hb
            · simp at hb

include hT hD in
/-- One operation of a region. -/
theorem oper_sim {g : G} {s : AS} {a : Act} {w : World} {ι : Iota} {Fr : Nat → Nat → Prop} (h : Rel g s a w ι Fr) {ops : List Oper} {o : Oper} (hnt : cx.nt = g.nt)
    (hfresh : ∀ id, id / 64 = dstN cx.nt o + 1 → FreshId s id) {e : Ef} (he : operE cx ops s o = some e) (ho : ∀ p ∈ e.ob, p) {next : Act → World → Prop} {Q : Exit → Act → World → Prop}
    (hn : ∀ a' w' ι' Fr', Rel g (s.app o.dst e) a' w' ι' Fr' → next a' w') :
    if Region.wanted o (yielded ops.toArray a.tmps) then o.wp P a w next Q else next (a.put o.dst undef) w := by
  have hgd := guard_of h (ops := ops) (o := o)
  unfold operE at he
  split at he
  · rename_i hg hd
    rw [hnt] at hd
    rw [hgd.1 hg, if_pos rfl]
    exact opE_sim hT hD h rfl hd hfresh he ho next Q hn
  · rename_i gd hg hd
    rw [hnt] at hd
    rw [hgd.2 gd hg]
    split at he
    · rename_i v rd ob hop
      simp only [Option.some.injEq] at he
      subst he
      cases gd with
      | true =>
        rw [if_pos rfl]
        have hob : ∀ p ∈ ob, p := fun p hp => ho (true = true → p) (List.mem_map.2 ⟨p, hp, rfl⟩) rfl
        refine opE_sim hT hD h rfl hd hfresh hop hob next Q fun a' w' ι' Fr' hr => hn a' w' ι' Fr' ?_
        cases hdst : o.dst with
        | none => rw [hdst] at hr; exact hr
        | some d =>
          rw [hdst] at hr
          exact Rel.cond (gd := true) rfl hr
      | false =>
        simp only [Bool.false_eq_true, if_false]
        cases hdst : o.dst with
        | none =>
          refine hn _ _ ι Fr ?_
          rw [hdst]; exact h
        | some d =>
          have hlt : d < g.nt := by
            unfold dstOk at hd
            rw [hdst] at hd
            exact Nat.le_of_ble_eq_true hd
          refine hn _ _ ι Fr ?_
          rw [hdst]
          exact h.put hlt (.cnd (fun hc => by simp at hc) fun _ => rfl)
    · rename_i v id new rd ob hop
      split at he
      · rename_i old hold
        split at he
        · rename_i m ps hmerge
          simp only [Option.some.injEq] at he
          subst he
          have hps : ∀ p ∈ ps, p := fun p hp => ho p (List.mem_append.2 (.inr hp))
          obtain ⟨l1, l2⟩ := mergeCs_len hmerge
          have hcond : ∀ {a' : Act} {w' : World} {ι' : Iota} {Fr' : Nat → Nat → Prop} {S' : List (Nat × Blk)} {d : Option Tmp}, gd = true → Rel g ⟨(match d with | some d => Go.Av.put s.T d v | none => s.T), S'⟩ a' w' ι' Fr' → Rel g ⟨(match d with | some d => Go.Av.put s.T d (.cnd gd v) | none => s.T), S'⟩ a' w' ι' Fr' := by
            intro a' w' ι' Fr' S' d hgd hr
            cases d with
            | none => exact hr
            | some d => exact Rel.cond hgd hr
          cases gd with
          | true =>
            rw [if_pos rfl]
            have hob : ∀ p ∈ ob, p := fun p hp => ho (true = true → p) (List.mem_append.2 (.inl (List.mem_map.2 ⟨p, hp, rfl⟩))) rfl
            refine opE_sim hT hD h rfl hd hfresh hop hob next Q fun a' w' ι' Fr' hr => hn a' w' ι' Fr' ?_
            have hr2 := Rel.rebox (id := id) (cs := new) (m := m) hr (by show lk (Go.Av.put s.S id (.box new)) id = _; rw [lk_put, if_pos rfl]) l1 fun j hj x hx => mergeCs_rep hr.fr0 hmerge hps (j := j) (by simpa using hx) hj
            refine hcond rfl (hr2.congr (fun t => rfl) fun k => ?_)
            show lk (Go.Av.put s.S id (.box m)) k = lk (put (Go.Av.put s.S id (.box new)) id (.box m)) k
            rw [lk_put, lk_put, lk_put]
            split <;> rfl
          | false =>
            simp only [Bool.false_eq_true, if_false]
            have hr2 := Rel.rebox (id := id) (cs := old) (m := m) h hold l2 fun j hj x hx => mergeCs_rep h.fr0 hmerge hps (j := j) (by simpa using hx) hj
            cases hdst : o.dst with
            | none =>
              refine hn _ _ ι Fr ?_
              rw [hdst]; exact hr2
            | some d =>
              have hlt : d < g.nt := by
                unfold dstOk at hd
                rw [hdst] at hd
                exact Nat.le_of_ble_eq_true hd
              refine hn _ _ ι Fr ?_
              rw [hdst]
              exact hr2.put hlt (.cnd (fun hc => by simp at hc) fun _ => rfl)
        · simp at he
      · simp at he
    · simp at he
  · simp at he

/-! ### What is fresh stays fresh -/
mutual
theorem ment_of_ids {p : Nat → Bool} : ∀ {v : V}, (∀ id ∈ v.ids, p id = false) → V.ment p v = false
  | .osl id _, h => h id (by simp [V.ids])
  | .oref id _ _, h => h id (by simp [V.ids])
  | .omap id, h => h id (by simp [V.ids])
  | .agg _, h => mentL_of_ids h
  | .tup _, h => mentL_of_ids h
  | .fn _ _, h => mentL_of_ids h
  | .cnd _ v, h => ment_of_ids (v := v) h
  | .int _ _, _ => rfl
  | .bool _, _ => rfl
  | .str _, _ => rfl
  | .nil, _ => rfl
  | .sl _ _ _, _ => rfl
  | .ptr _ _ _, _ => rfl
  | .undef, _ => rfl
theorem mentL_of_ids {p : Nat → Bool} : ∀ {l : List V}, (∀ id ∈ V.idsL l, p id = false) → V.mentL p l = false
  | [], _ => rfl
  | v :: r, h => by
    simp only [V.mentL, Bool.or_eq_false_iff]
    exact ⟨ment_of_ids (v := v) fun id hid => h id (by simp [V.idsL, hid]), mentL_of_ids (l := r) fun id hid => h id (by simp [V.idsL, hid])⟩
end

theorem blk_ment_of_ids {p : Nat → Bool} {b : Blk} (h : ∀ id ∈ b.ids, p id = false) : b.ment p = false := by
  cases b with
  | mp => rfl
  | arr => rfl
  | box cs => exact mentL_of_ids h

theorem lk_applyUpd_not {upd : List (Nat × Option Blk)} : ∀ {S : List (Nat × Blk)} {id : Nat}, (∀ p ∈ upd, p.1 ≠ id) → lk (applyUpd S upd) id = lk S id := by
  induction upd with
  | nil => intros; rfl
  | cons p r ih =>
    intro S id h
    obtain ⟨k, b⟩ := p
    have hk : id ≠ k := fun e => h (k, b) (List.mem_cons_self ..) e.symm
    have hr := fun S => ih (S := S) (id := id) fun p hp => h p (List.mem_cons_of_mem _ hp)
    cases b with
    | none => simp only [applyUpd]; rw [hr, lk_del]; simp [hk]
    | some b => simp only [applyUpd]; rw [hr, lk_put]; simp [hk]

theorem lk_applyUpd_from {upd : List (Nat × Option Blk)} : ∀ {S : List (Nat × Blk)} {id : Nat} {b : Blk}, lk (applyUpd S upd) id = some b → lk S id = some b ∨ (id, some b) ∈ upd := by
  induction upd with
  | nil => intro S id b h; exact .inl h
  | cons p r ih =>
    intro S id b h
    obtain ⟨k, bk⟩ := p
    cases bk with
    | none =>
      simp only [applyUpd] at h
      rcases ih h with h | h
      · rw [lk_del] at h
        split at h
        · simp at h
        · exact .inl h
      · exact .inr (List.mem_cons_of_mem _ h)
    | some bk =>
      simp only [applyUpd] at h
      rcases ih h with h | h
      · rw [lk_put] at h
        split at h
        · rename_i e
          have h2 : bk = b := Option.some.inj h
          rw [e, h2]
          exact .inr (List.mem_cons_self ..)
        · exact .inl h
      · exact .inr (List.mem_cons_of_mem _ h)

theorem FreshId.app {s : AS} {id : Nat} (h : FreshId s id) {dst : Option Tmp} {e : Ef} (hn : id ∉ e.names) : FreshId (s.app dst e) id := by
  have hv : id ∉ e.v.ids := fun hm => hn (by unfold Ef.names; simp [hm])
  have hu : ∀ p ∈ e.upd, p.1 ≠ id ∧ ∀ b, p.2 = some b → id ∉ b.ids := by
    intro p hp
    constructor
    · intro he
      exact hn (by unfold Ef.names; refine List.mem_append.2 (.inr (List.mem_flatMap.2 ⟨p, hp, ?_⟩)); simp [he])
    · intro b hb hm
      exact hn (by unfold Ef.names; refine List.mem_append.2 (.inr (List.mem_flatMap.2 ⟨p, hp, ?_⟩)); simp [hb, hm])
  have hne : ∀ {l : List Nat}, id ∉ l → ∀ k ∈ l, Nat.beq k id = false := fun hl k hk => natBeqF.2 fun e => hl (e ▸ hk)
  constructor
  · exact h.ge
  · show lk (applyUpd s.S e.upd) id = none
    rw [lk_applyUpd_not fun p hp => (hu p hp).1]
    exact h.no
  · intro t v ht
    cases dst with
    | none => exact h.T t v ht
    | some d =>
      have ht' : lk (put s.T d e.v) t = some v := ht
      rw [lk_put] at ht'
      split at ht'
      · simp only [Option.some.injEq] at ht'
        subst ht'
        exact ment_of_ids (hne hv)
      · exact h.T t v ht'
  · intro k blk hk
    rcases lk_applyUpd_from (show lk (applyUpd s.S e.upd) k = some blk from hk) with h' | h'
    · exact h.S k blk h'
    · exact blk_ment_of_ids (hne ((hu _ h').2 blk rfl))

theorem lk_purgeT {p : Nat → Bool} {s : AS} {t : Nat} {v : V} (h : lk (purge p s).T t = some v) : v = .undef ∨ (lk s.T t = some v ∧ V.ment p v = false) := by
  unfold purge at h
  simp only [] at h
  rw [lk_map (offIf p)] at h
  cases hl : lk s.T t with
  | none => rw [hl] at h; simp at h
  | some u =>
    rw [hl] at h
    simp only [Option.map_some, Option.some.injEq, offIf] at h
    cases hm : V.ment p u with
    | true => rw [hm] at h; exact .inl h.symm
    | false => rw [hm] at h; subst h; exact .inr ⟨rfl, hm⟩

theorem lk_purgeS {p : Nat → Bool} {s : AS} {id : Nat} {b : Blk} (h : lk (purge p s).S id = some b) : p id = false ∧ ∃ b', lk s.S id = some b' ∧ b = clearBlk p b' := by
  unfold purge at h
  simp only [] at h
  rw [lk_map (clearBlk p), lk_filter (fun k => !(p k))] at h
  cases hp : p id with
  | true => rw [hp] at h; simp at h
  | false =>
    rw [hp] at h
    simp only [Bool.not_false, if_true] at h
    cases hl : lk s.S id with
    | none => rw [hl] at h; simp at h
    | some u => rw [hl] at h; simp at h; exact ⟨rfl, u, rfl, h.symm⟩

theorem clear_ment {p : Nat → Bool} : ∀ cs : List V, V.mentL p (cs.map (offIf p)) = false
  | [] => rfl
  | c :: r => by
    simp only [List.map, V.mentL, clear_ment r, Bool.or_false, offIf]
    cases h : V.ment p c with
    | true => rfl
    | false => exact h

theorem purge_fresh {p : Nat → Bool} {s : AS} {id : Nat} (hp : p id = true) (hge : 64 ≤ id) : FreshId (purge p s) id := by
  have himp : ∀ k, p k = false → Nat.beq k id = false := fun k hk => natBeqF.2 fun e => by subst e; rw [hp] at hk; simp at hk
  have him : ∀ v, V.ment p v = false → V.ment (fun k => Nat.beq k id) v = false := by
    intro v hv
    refine ment_of_ids fun k hk => ?_
    cases hpk : p k with
    | true => rw [ids_ment v k hk p hpk] at hv; simp at hv
    | false => exact himp k hpk
  constructor
  · exact hge
  · cases h : lk (purge p s).S id with
    | none => rfl
    | some b => have := (lk_purgeS h).1; rw [hp] at this; simp at this
  · intro t v ht
    rcases lk_purgeT ht with rfl | ⟨_, hm⟩
    · rfl
    · exact him v hm
  · intro k b hk
    obtain ⟨_, b', _, rfl⟩ := lk_purgeS hk
    cases b' with
    | mp => rfl
    | arr => rfl
    | box cs => exact him (.agg _) (clear_ment cs)

theorem OwnB.clear {w : World} {Fr : Nat → Nat → Prop} {ι : Iota} {b sz m : Nat} {blk : Blk} (h : OwnB w Fr ι b sz m blk) (p : Nat → Bool) : OwnB w Fr ι b sz m (clearBlk p blk) := by
  cases blk with
  | mp => exact h
  | arr => exact h
  | box cs =>
    obtain ⟨cells, e, hh, hsz, hr⟩ := h
    refine ⟨cells, e, hh, by simpa using hsz, fun j hj => ?_⟩
    have hj' : j < cs.length := by simpa using hj
    have := hr j hj'
    have e1 : (cs.map (offIf p)).getD j .undef = offIf p (cs.getD j .undef) := by
      simp [List.getD, hj']
    rw [e1]
    unfold offIf
    cases V.ment p (cs.getD j .undef) with
    | true => exact .atom rfl (.undef _)
    | false => exact this

theorem Rel.purge {g : G} {s : AS} {a : Act} {w : World} {ι : Iota} {Fr : Nat → Nat → Prop} (h : Rel g s a w ι Fr) (p : Nat → Bool) : Rel g (Go.Av.purge p s) a w ι Fr :=
  { h with
    tmp := fun t v ht => by
      rcases lk_purgeT ht with rfl | ⟨ht', _⟩
      · exact .atom rfl (.undef _)
      · exact h.tmp t v ht'
    own := fun id blk b sz m hl hi => by
      obtain ⟨_, b', hb', rfl⟩ := lk_purgeS hl
      have := h.own id b' b sz m hb' hi
      exact ⟨this.1.clear p, this.2⟩
    nob := fun id blk hl hi => by
      obtain ⟨_, b', hb', rfl⟩ := lk_purgeS hl
      obtain ⟨sz, hh, te, rfl⟩ := h.nob id b' hb' hi
      exact ⟨sz, hh, te, rfl⟩
    inj := fun id id' blk blk' r r' h1 h2 => by
      obtain ⟨_, b1, hb1, _⟩ := lk_purgeS h1
      obtain ⟨_, b2, hb2, _⟩ := lk_purgeS h2
      exact h.inj id id' b1 b2 r r' hb1 hb2
    fr := fun t b hb => ⟨(h.fr t b hb).1, (h.fr t b hb).2.1, fun id blk r hl => by
      obtain ⟨_, b', hb', _⟩ := lk_purgeS hl
      exact (h.fr t b hb).2.2 id b' r hb'⟩ }

theorem Rel.only {g : G} {s : AS} {a : Act} {w : World} {ι : Iota} {Fr : Nat → Nat → Prop} (h : Rel g s a w ι Fr) (keep : List Nat) : Rel g (s.only keep) a w ι Fr :=
  h.less (fun t v ht => by
    have ht' : lk (s.T.filter fun e => mem e.1 keep) t = some v := ht
    rw [lk_filter (fun k => mem k keep)] at ht'
    split at ht'
    · exact ht'
    · simp at ht') fun _ _ hl => hl

theorem obs_all {K : Prop} : ∀ {l : List Prop}, obs l K → (∀ p ∈ l, p) ∧ K
  | [], h => ⟨fun _ hp => by simp at hp, h⟩
  | p :: r, h => by
    obtain ⟨h1, h2⟩ := h
    obtain ⟨h3, h4⟩ := obs_all (l := r) h2
    exact ⟨fun q hq => by
      rcases List.mem_cons.1 hq with rfl | hq
      · exact h1
      · exact h3 q hq, h4⟩

/-! ### A region in the text's order -/
theorem wpOps_range {Q : Exit → Act → World → Prop} {ops : Array Oper} (i n : Nat) (a : Act) (w : World) :
    wpOps P ops Q (List.range' i (n + 1)) a w = match ops[i]? with
      | none => wpOps P ops Q (List.range' (i + 1) n) a w
      | some o => if Region.wanted o (yielded ops a.tmps) then o.wp P a w (wpOps P ops Q (List.range' (i + 1) n)) Q ∨ (o.asks P a w ∧ LetsOut Q)
        else wpOps P ops Q (List.range' (i + 1) n) (a.put o.dst undef) w := by
  rw [List.range'_succ]
  rfl

include hT hD in
theorem region_text {g : G} (hnt : cx.nt = g.nt) {ops : List Oper} {K : AS → List Ef → Prop} {Q : Exit → Act → World → Prop} (hK : ∀ s' es' a w ι Fr, K s' es' → Rel g s' a w ι Fr → Q .normal a w) :
    ∀ (r pre : List Oper), ops = pre ++ r → ∀ (s : AS) (es : List Ef) (a : Act) (w : World) (ι : Iota) (Fr : Nat → Nat → Prop), Rel g s a w ι Fr → (∀ id, atSites (dstsOf cx.nt r) id = true → FreshId s id) →
      runOps cx ops r s es K → wpOps P ops.toArray Q (List.range' pre.length r.length) a w
  | [], pre, _, s, es, a, w, ι, Fr, h, _, hr => hK _ _ _ _ _ _ hr h
  | o :: r, pre, hops, s, es, a, w, ι, Fr, h, hf, hr => by
    have ho : ops.toArray[pre.length]? = some o := by subst hops; simp
    rw [List.length_cons, wpOps_range, ho]
    simp only [runOps] at hr
    split at hr
    · rename_i e he
      split at hr
      · rename_i hoff
        obtain ⟨hob, hr⟩ := obs_all hr
        replace hr := nameB_at hr
        have hnames : ∀ id, atSites (dstsOf cx.nt r) id = true → id ∉ e.names := by
          intro id hid hm
          have := (List.all_eq_true.1 hoff) id hm
          rw [hid] at this; simp at this
        have hfr : ∀ id, id / 64 = dstN cx.nt o + 1 → FreshId s id := fun id hid => hf id (by unfold atSites dstsOf mem; simp [hid])
        have hnext : ∀ a' w' ι' Fr', Rel g (s.app o.dst e) a' w' ι' Fr' → wpOps P ops.toArray Q (List.range' (pre.length + 1) r.length) a' w' := by
          intro a' w' ι' Fr' h'
          have := region_text hnt hK r (pre ++ [o]) (by simp [hops]) (s.app o.dst e) (e :: es) a' w' ι' Fr' h' (fun id hid => (hf id (by
            unfold atSites dstsOf mem
            have : mem (id / 64) (dstsOf cx.nt r) = true := hid
            simp [this])).app (hnames id hid)) hr
          simpa using this
        have := oper_sim hT hD h (ops := ops) hnt hfr he hob (next := wpOps P ops.toArray Q (List.range' (pre.length + 1) r.length)) (Q := Q) hnext
        simp only []
        split
        · rename_i hw
          rw [hw, if_pos rfl] at this
          exact .inl this
        · rename_i hw
          rw [if_neg hw] at this
          exact this
      · exact hr.elim
    · exact hr.elim

end
end Go.Av
