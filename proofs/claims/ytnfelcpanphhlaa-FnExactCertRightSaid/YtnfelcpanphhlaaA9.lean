/- Values, blocks, states told anew. -/
import Derived.Test.YtnfelcpanphhlaaA8
namespace Go.Av

/-- Frozen cells that tell no more, wherever they lie. -/
structure PLe (v v' : V) : Prop where
  le : ∀ (w : World) (A : Nat → Prop) (x : Value), PRep w A v x → PRep w A v' x

theorem PLe.refl (v : V) : PLe v v := ⟨fun _ _ _ h => h⟩
theorem PLe.of_eq {v v' : V} (h : v = v') : PLe v v' := h ▸ PLe.refl v
theorem ple_undef (v : V) : PLe v .undef := ⟨fun _ _ _ _ => .undef _⟩
theorem ple_nil (g : Nat → V) (t : Nat) : PLe .nil (.sl 0 g t) := ⟨fun w A x h => by cases h; exact .sl0 _ _ _ _⟩

/-- Elements cell by cell. -/
structure ELe (v v' : V) : Prop where
  len : v'.cells.length = v.cells.length
  cell : ∀ j, j < v.cells.length → PLe (v.cells.getD j .undef) (v'.cells.getD j .undef)

theorem ELe.refl (v : V) : ELe v v := ⟨rfl, fun _ _ => PLe.refl _⟩
theorem ELe.of_eq {v v' : V} (h : v = v') : ELe v v' := h ▸ ELe.refl v

theorem ple_sl {n : Nat} {g g' : Nat → V} {t t' : Nat} (h : ∀ i, i < n → ELe (g i) (g' i)) : PLe (.sl n g t) (.sl n g' t') := ⟨fun w A x hx => by
  cases hx with
  | sl0 => exact .sl0 _ _ _ _
  | sl cv hA hcap hsz hc hr =>
    refine .sl cv hA hcap (fun i hi => by rw [(h i hi).len]; exact hsz i hi) hc fun i j hi hj => ((h i hi).cell j (by rw [hsz i hi]; exact hj)).le _ _ _ (hr i j hi hj)⟩

theorem ple_sl_eq {n : Nat} {g g' : Nat → V} {t t' : Nat} (h : ∀ i, i < n → g i = g' i) : PLe (.sl n g t) (.sl n g' t') := ple_sl fun i hi => ELe.of_eq (h i hi)

theorem ple_ptr {cs cs' : List V} {off t t' : Nat} (hl : cs'.length = cs.length) (h : ∀ j, j < cs.length → PLe (cs.getD j .undef) (cs'.getD j .undef)) : PLe (.ptr cs off t) (.ptr cs' off t') := ⟨fun w A x hx => by
  cases hx with
  | ptr cv hA hc hr => exact .ptr cv hA (fun j hj => hc j (by omega)) fun j hj => (h j (by omega)).le _ _ _ (hr j (by omega))⟩

/-! ### Values -/
theorem VLe.of_eq {v v' : V} (h : v = v') : VLe v v' := h ▸ VLe.refl v
theorem vle_undef (v : V) : VLe v .undef := ⟨fun _ _ _ _ _ _ _ => .atom rfl (.undef _)⟩
theorem vle_nil (g : Nat → V) (t : Nat) : VLe .nil (.sl 0 g t) := ⟨fun w Fr ι x _ _ h => by
  obtain ⟨a, rfl⟩ := nil_inv h
  exact .atom rfl (.sl0 _ _ _ _)⟩

theorem vle_of_ple {v v' : V} (h : PLe v v') (hp : isP v = true) (hp' : isP v' = true) (ht : tagD v' = tagD v ∨ tagD v' = 0) : VLe v v' := ⟨fun w Fr ι x _ h0 hx => by
  cases hx with
  | atom _ hr =>
    refine .atom hp' (h.le _ _ _ ?_)
    rcases ht with ht | ht
    · rw [ht]; exact hr
    · rw [ht]; exact hr.weaken fun b hb => h0 _ b hb
  | osl => simp [isP] at hp
  | osl0 => simp [isP] at hp
  | oref => simp [isP] at hp
  | agg => simp [isP] at hp
  | tup => simp [isP] at hp
  | fn => simp [isP] at hp
  | cnd => simp [isP] at hp⟩

theorem vle_sl {n : Nat} {g g' : Nat → V} {t t' : Nat} (h : ∀ i, i < n → ELe (g i) (g' i)) (ht : t' = t ∨ t' = 0) : VLe (.sl n g t) (.sl n g' t') :=
  vle_of_ple (ple_sl h) rfl rfl (by simpa [tagD, tagOfA] using ht)

theorem vle_sl_eq {n : Nat} {g g' : Nat → V} {t t' : Nat} (h : ∀ i, i < n → g i = g' i) (ht : t' = t ∨ t' = 0) : VLe (.sl n g t) (.sl n g' t') := vle_sl (fun i hi => ELe.of_eq (h i hi)) ht

theorem vle_ptr {cs cs' : List V} {off t t' : Nat} (hl : cs'.length = cs.length) (h : ∀ j, j < cs.length → PLe (cs.getD j .undef) (cs'.getD j .undef)) (ht : t' = t ∨ t' = 0) : VLe (.ptr cs off t) (.ptr cs' off t') :=
  vle_of_ple (ple_ptr hl h) rfl rfl (by simpa [tagD, tagOfA] using ht)

/-- Lists cell by cell. -/
def VLes : List V → List V → Prop
  | [], [] => True
  | v :: r, v' :: r' => VLe v v' ∧ VLes r r'
  | _, _ => False

theorem vles_len : ∀ {l l' : List V}, VLes l l' → l'.length = l.length
  | [], [], _ => rfl
  | _ :: _, _ :: _, h => by simp [vles_len h.2]
  | [], _ :: _, h => h.elim
  | _ :: _, [], h => h.elim

theorem vles_at : ∀ {l l' : List V}, VLes l l' → ∀ j, j < l.length → VLe (l.getD j .undef) (l'.getD j .undef)
  | [], [], _, _, hj => by simp at hj
  | _ :: _, _ :: _, h, 0, _ => by simpa using h.1
  | _ :: r, _ :: r', h, j + 1, hj => by simpa using vles_at h.2 j (by simpa using hj)
  | [], _ :: _, h, _, _ => h.elim
  | _ :: _, [], h, _, _ => h.elim

theorem vles_refl : ∀ l : List V, VLes l l
  | [] => trivial
  | v :: r => ⟨VLe.refl v, vles_refl r⟩

theorem vle_agg {cs cs' : List V} (h : VLes cs cs') : VLe (.agg cs) (.agg cs') := ⟨fun w Fr ι x hS h0 hx => by
  cases hx with
  | atom hp _ => simp [isP] at hp
  | agg arr hs hr =>
    have hl := vles_len h
    exact .agg arr (by omega) fun j hj => (vles_at h j (by omega)).le _ _ _ _ hS h0 (hr j (by omega))⟩

theorem vle_tup {cs cs' : List V} (h : VLes cs cs') : VLe (.tup cs) (.tup cs') := ⟨fun w Fr ι x hS h0 hx => by
  cases hx with
  | atom hp _ => simp [isP] at hp
  | tup arr hs hr =>
    have hl := vles_len h
    exact .tup arr (by omega) fun j hj => (vles_at h j (by omega)).le _ _ _ _ hS h0 (hr j (by omega))⟩

theorem vle_fn {f : Nat} {cs cs' : List V} (h : VLes cs cs') : VLe (.fn f cs) (.fn f cs') := ⟨fun w Fr ι x hS h0 hx => by
  cases hx with
  | atom hp _ => simp [isP] at hp
  | fn arr hs hr =>
    have hl := vles_len h
    exact .fn arr (by omega) fun j hj => (vles_at h j (by omega)).le _ _ _ _ hS h0 (hr j (by omega))⟩

theorem args_of_vles {l l' : List V} (h : VLes l l') : ArgsLe l l' := ⟨vles_len h, vles_at h⟩

/-! ### Blocks of one's own -/
structure BLe (b b' : Blk) : Prop where
  le : ∀ (w : World) (Fr : Nat → Nat → Prop) (ι : Iota) (bb sz m : Nat), (∀ b, ¬ Fr tagS b) → (∀ t b, Fr t b → Fr 0 b) → OwnB w Fr ι bb sz m b → OwnB w Fr ι bb sz m b'
  nob : (∃ sz h te, b = .arr sz 0 h te) → ∃ sz h te, b' = .arr sz 0 h te

theorem BLe.refl (b : Blk) : BLe b b := ⟨fun _ _ _ _ _ _ _ _ h => h, fun h => h⟩

theorem ble_arr {sz n : Nat} {g g' : Nat → V} {te te' : Nat} (h : ∀ i, i < n → ELe (g i) (g' i)) (ht : te' = te ∨ te' = 0 ∨ te = tagS ∨ n = 0) : BLe (.arr sz n g te) (.arr sz n g' te') := by
  constructor
  · rintro w Fr ι bb sz' m hS h0 ⟨h1, h2, cells, e, hh, hsz, hlen, hr⟩
    refine ⟨h1, h2, cells, e, hh, hsz, fun i hi => by rw [(h i hi).len]; exact hlen i hi, fun i j hi hj => ?_⟩
    refine ((h i hi).cell j (by rw [hlen i hi]; exact hj)).le _ _ _ ?_
    have := hr i j hi hj
    rcases ht with ht | ht | ht | ht
    · rw [ht]; exact this
    · rw [ht]; exact this.weaken fun b hb => h0 _ b hb
    · rw [ht] at this; exact this.weaken fun b hb => absurd hb (hS b)
    · omega
  · rintro ⟨sz', h', te', he⟩
    injection he with _ hn
    subst hn
    exact ⟨_, _, _, rfl⟩

theorem ble_box {cs cs' : List V} (h : VLes cs cs') : BLe (.box cs) (.box cs') := by
  constructor
  · rintro w Fr ι bb sz m hS h0 ⟨cells, e, hh, hsz, hr⟩
    have hl := vles_len h
    exact ⟨cells, e, hh, by omega, fun j hj => (vles_at h j (by omega)).le _ _ _ _ hS h0 (hr j (by omega))⟩
  · rintro ⟨_, _, _, he⟩
    cases he

/-! ### States -/
def TLe : List (Nat × V) → List (Nat × V) → Prop
  | [], [] => True
  | (t, v) :: r, (t', v') :: r' => t = t' ∧ VLe v v' ∧ TLe r r'
  | _, _ => False

def BLes : List (Nat × Blk) → List (Nat × Blk) → Prop
  | [], [] => True
  | (t, v) :: r, (t', v') :: r' => t = t' ∧ BLe v v' ∧ BLes r r'
  | _, _ => False

theorem tle_lk : ∀ {T T' : List (Nat × V)}, TLe T T' → ∀ {t : Nat} {v' : V}, lk T' t = some v' → ∃ v, lk T t = some v ∧ VLe v v'
  | [], [], _, _, _, h => by simp [lk] at h
  | (k, v) :: r, (k', v') :: r', hh, t, u, h => by
    obtain ⟨rfl, h1, h2⟩ := hh
    simp only [lk] at h ⊢
    split at h
    · have : v' = u := Option.some.inj h
      subst this
      exact ⟨v, rfl, h1⟩
    · exact tle_lk h2 h
  | [], _ :: _, h, _, _, _ => h.elim
  | _ :: _, [], h, _, _, _ => h.elim

theorem bles_lk : ∀ {S S' : List (Nat × Blk)}, BLes S S' → ∀ {t : Nat} {v' : Blk}, lk S' t = some v' → ∃ v, lk S t = some v ∧ BLe v v'
  | [], [], _, _, _, h => by simp [lk] at h
  | (k, v) :: r, (k', v') :: r', hh, t, u, h => by
    obtain ⟨rfl, h1, h2⟩ := hh
    simp only [lk] at h ⊢
    split at h
    · have : v' = u := Option.some.inj h
      subst this
      exact ⟨v, rfl, h1⟩
    · exact bles_lk h2 h
  | [], _ :: _, h, _, _, _ => h.elim
  | _ :: _, [], h, _, _, _ => h.elim

theorem sle_of {T T' : List (Nat × V)} {S S' : List (Nat × Blk)} (hT : TLe T T') (hS : BLes S S') : SLe ⟨T, S⟩ ⟨T', S'⟩ := ⟨fun g a w ι Fr h => ⟨ι, Fr,
  { h with
    tmp := fun t v ht => by
      obtain ⟨u, hu, hle⟩ := tle_lk hT ht
      exact hle.le _ _ _ _ h.frS h.fr0 (h.tmp t u hu)
    own := fun id blk b sz m hl hi => by
      obtain ⟨u, hu, hle⟩ := bles_lk hS hl
      obtain ⟨h1, h2⟩ := h.own id u b sz m hu hi
      exact ⟨hle.le _ _ _ _ _ _ h.frS h.fr0 h1, h2⟩
    nob := fun id blk hl hi => by
      obtain ⟨u, hu, hle⟩ := bles_lk hS hl
      exact hle.nob (h.nob id u hu hi)
    inj := fun id id' blk blk' r r' h1 h2 => by
      obtain ⟨u, hu, _⟩ := bles_lk hS h1
      obtain ⟨u', hu', _⟩ := bles_lk hS h2
      exact h.inj id id' u u' r r' hu hu'
    fr := fun t b hb => ⟨(h.fr t b hb).1, (h.fr t b hb).2.1, fun id blk r hl => by
      obtain ⟨u, hu, _⟩ := bles_lk hS hl
      exact (h.fr t b hb).2.2 id u r hu⟩ }⟩⟩

end Go.Av
