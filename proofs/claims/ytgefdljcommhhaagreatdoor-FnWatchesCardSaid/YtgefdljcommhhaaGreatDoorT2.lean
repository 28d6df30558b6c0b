/- What turned at a path. -/
import Derived.Test.YtgefdljcommhhaaGreatDoorT1
namespace Go.Av
open Go.Proofs
set_option maxRecDepth 100000
set_option maxHeartbeats 2000000
set_option linter.unusedVariables false
set_option linter.unusedSimpArgs false

theorem zele_Znode : ELe (.agg [.str ⟨#[]⟩, .int .i64 0, .int .i64 0, .int .i64 0, .int .i64 0]) (encZnode 1 default) := ELe.refl _
def szZnode (x : Znode) (left : Int) : Int := szLen x.path.size left
theorem szZnode_le (x : Znode) (left : Int) : szZnode x left ≤ left ∨ szZnode x left < 0 := szLen_le _ _

noncomputable def changeF (b a : List Znode) (t : ByteArray) : Int :=
  if atN b t < 0 ∧ 0 ≤ atN a t then 1 else if 0 ≤ atN b t ∧ atN a t < 0 then 2
  else if 0 ≤ atN b t ∧ ((atZ b (atN b t).toNat).version ≠ (atZ a (atN a t).toNat).version ∨ (atZ b (atN b t).toNat).data ≠ (atZ a (atN a t).toNat).data) then 3 else 0
noncomputable def changeOfF (b a : List Znode) (t : ByteArray) : IntResult :=
  if treeF b ≠ 0 then ⟨treeF b, 0⟩ else if treeF a ≠ 0 then ⟨treeF a, 0⟩ else if pathF t ≠ 0 then ⟨pathF t, 0⟩ else ⟨0, changeF b a t⟩
theorem agI {c v : Int} {x : IntResult} (h : x = ⟨c, v⟩) : VLe (.agg [.int .i64 c, .int .i64 v]) (encIntResult 1 x) := by
  subst h
  exact VLe.refl _
theorem ne_of_bne {x y : Int} (h : (x != y) = true) : x ≠ y := by simpa using h
theorem not_ne_of_bne {x y : Int} (h : (x != y) = false) : ¬ x ≠ y := by simpa using h
theorem and1 {x y : Bool} (h : (x && y) = true) : x = true := by cases x <;> simp_all
theorem szA_top {α : Type} {f : α → Int → Int} (hf : ∀ x v, f x v ≤ v ∨ f x v < 0) : ∀ (xs : List α) (v : Int), szA f xs v ≤ v ∨ szA f xs v < 0
  | [], v => Or.inl (Int.le_refl _)
  | x :: r, v => by
    unfold szA
    split
    · exact Or.inr (by decide)
    · have := szA_top hf r (f x v)
      have := hf x v
      omega
theorem szS_top {α : Type} {f : α → Int → Int} (hf : ∀ x v, f x v ≤ v ∨ f x v < 0) (xs : List α) (v : Int) : szS f xs v ≤ v ∨ szS f xs v < 0 := by
  unfold szS
  split
  · exact Or.inr (by decide)
  · have := szA_top hf xs (v - xs.length)
    omega
theorem changeF_def (b a : List Znode) (t : ByteArray) : changeF b a t = if atN b t < 0 ∧ 0 ≤ atN a t then 1 else if 0 ≤ atN b t ∧ atN a t < 0 then 2
    else if 0 ≤ atN b t ∧ ((atZ b (atN b t).toNat).version ≠ (atZ a (atN a t).toNat).version ∨ (atZ b (atN b t).toNat).data ≠ (atZ a (atN a t).toNat).data) then 3 else 0 := rfl
theorem changeF_is {b a : List Znode} {t : ByteArray} (hb : rising b) (ha : rising a) : changeF b a t =
    if (isZ a t && !isZ b t) = true then 1 else if (isZ b t && !isZ a t) = true then 2
    else if (isZ a t && ((atZ b (posZ b t)).version != (atZ a (posZ a t)).version || (atZ b (posZ b t)).data != (atZ a (posZ a t)).data)) = true then 3 else 0 := by
  unfold changeF
  rw [atN_is hb, atN_is ha]
  cases isZ b t <;> cases isZ a t
  · simp
  · simp
  · simp
  · have h1 : ¬ ((if true = true then (posZ b t : Int) else -1) < 0 ∧ 0 ≤ (if true = true then (posZ a t : Int) else -1)) := by simp
    have h2 : ¬ (0 ≤ (if true = true then (posZ b t : Int) else -1) ∧ (if true = true then (posZ a t : Int) else -1) < 0) := by simp
    rw [if_neg h1, if_neg h2]
    simp

/-! ### impl.change -/
def pr20 (b : List Znode) (a : List Znode) (t : ByteArray) : Prop := rising b ∧ rising a ∧ b.length ≤ 1000 ∧ a.length ≤ 1000
noncomputable def rs20 (b : List Znode) (a : List Znode) (t : ByteArray) : V := .int .i64 (changeF b a t)
noncomputable def sp20 : FSpec := fun args bin => match args, bin with
  | [a0, a1, .str a2], [] => some (VLe a0 (encL (encZnode 1) 1 (((decL decZnode) a0))) ∧ VLe a1 (encL (encZnode 1) 1 (((decL decZnode) a1))) ∧ pr20 ((decL decZnode) a0) ((decL decZnode) a1) a2, rs20 ((decL decZnode) a0) ((decL decZnode) a1) a2, [])
  | _, _ => none
noncomputable def D20 : Nat → Option (Bool × FSpec) := lk [(50, (false, sp50))]
theorem da20 : SoundAll Tryz.prog D20 := soundAll_cons so50 (soundAll_nil)
noncomputable def cx20 (b : List Znode) (a : List Znode) (t : ByteArray) : Cx := ⟨tt, D20, Tryz.f20.ntmps, [0, 1, 2, 6, 7, 8, 9, 10, 23, 29, 35], [], [], fun _ => none, [], noM, []⟩
theorem bd20 (b : List Znode) (a : List Znode) (t : ByteArray) (hpre : pr20 b a t) : bodyP (cx20 b a t) Tryz.f20 0 [encL (encZnode 1) 1 (b), encL (encZnode 1) 1 (a), .str (t)] (fun rr => VLe rr (rs20 b a t)) := by
  have key : (((VLe (encL (encZnode 1) 1 b) (encL (encZnode 1) 1 (decL decZnode (encL (encZnode 1) 1 b)))) ∧ (pr50 (decL decZnode (encL (encZnode 1) 1 b)) t)) ∧ (((VLe (encL (encZnode 1) 1 a) (encL (encZnode 1) 1 (decL decZnode (encL (encZnode 1) 1 a)))) ∧ (pr50 (decL decZnode (encL (encZnode 1) 1 a)) t)) ∧ ((tq (isZ (decL decZnode (encL (encZnode 1) 1 a)) t)) ∧ (((true = true) → ((isZ (decL decZnode (encL (encZnode 1) 1 a)) t = true) → (isZ (decL decZnode (encL (encZnode 1) 1 a)) t = true))) ∧ (∀ b_1 : Bool, ((b_1 = bif isZ (decL decZnode (encL (encZnode 1) 1 a)) t then !isZ (decL decZnode (encL (encZnode 1) 1 b)) t else false) → (((b_1 = true) → (VLe (vi (1 : Int)) (vi (changeF b a t)))) ∧ ((b_1 = false) → ((tq (isZ (decL decZnode (encL (encZnode 1) 1 b)) t)) ∧ (((true = true) → ((isZ (decL decZnode (encL (encZnode 1) 1 b)) t = true) → (isZ (decL decZnode (encL (encZnode 1) 1 b)) t = true))) ∧ (∀ b_2 : Bool, ((b_2 = bif isZ (decL decZnode (encL (encZnode 1) 1 b)) t then !isZ (decL decZnode (encL (encZnode 1) 1 a)) t else false) → (((b_2 = true) → (VLe (vi (2 : Int)) (vi (changeF b a t)))) ∧ ((b_2 = false) → ((tq (isZ (decL decZnode (encL (encZnode 1) 1 a)) t)) ∧ ((tq (isZ (decL decZnode (encL (encZnode 1) 1 a)) t)) ∧ (((isZ (decL decZnode (encL (encZnode 1) 1 a)) t = true) → (((0 : Int) ≤ (↑(posZ (decL decZnode (encL (encZnode 1) 1 b)) t) : Int)) ∧ ((↑(posZ (decL decZnode (encL (encZnode 1) 1 b)) t) : Int) < (↑(List.length b) : Int)))) ∧ ((tq (isZ (decL decZnode (encL (encZnode 1) 1 a)) t)) ∧ ((tq (isZ (decL decZnode (encL (encZnode 1) 1 a)) t)) ∧ ((tq (isZ (decL decZnode (encL (encZnode 1) 1 a)) t)) ∧ ((tq (isZ (decL decZnode (encL (encZnode 1) 1 a)) t)) ∧ (((isZ (decL decZnode (encL (encZnode 1) 1 a)) t = true) → (((0 : Int) ≤ (↑(posZ (decL decZnode (encL (encZnode 1) 1 a)) t) : Int)) ∧ ((↑(posZ (decL decZnode (encL (encZnode 1) 1 a)) t) : Int) < (↑(List.length a) : Int)))) ∧ ((tq (isZ (decL decZnode (encL (encZnode 1) 1 a)) t)) ∧ ((tq (isZ (decL decZnode (encL (encZnode 1) 1 a)) t)) ∧ ((tq (isZ (decL decZnode (encL (encZnode 1) 1 a)) t)) ∧ ((tq (isZ (decL decZnode (encL (encZnode 1) 1 a)) t)) ∧ ((tq (isZ (decL decZnode (encL (encZnode 1) 1 a)) t)) ∧ ((tq (isZ (decL decZnode (encL (encZnode 1) 1 a)) t && !Znode.version (List.getD b (Int.toNat (↑(posZ (decL decZnode (encL (encZnode 1) 1 b)) t) : Int)) default) != Znode.version (List.getD a (Int.toNat (↑(posZ (decL decZnode (encL (encZnode 1) 1 a)) t) : Int)) default))) ∧ ((tq (isZ (decL decZnode (encL (encZnode 1) 1 a)) t && !Znode.version (List.getD b (Int.toNat (↑(posZ (decL decZnode (encL (encZnode 1) 1 b)) t) : Int)) default) != Znode.version (List.getD a (Int.toNat (↑(posZ (decL decZnode (encL (encZnode 1) 1 a)) t) : Int)) default))) ∧ ((((isZ (decL decZnode (encL (encZnode 1) 1 a)) t && !Znode.version (List.getD b (Int.toNat (↑(posZ (decL decZnode (encL (encZnode 1) 1 b)) t) : Int)) default) != Znode.version (List.getD a (Int.toNat (↑(posZ (decL decZnode (encL (encZnode 1) 1 a)) t) : Int)) default)) = true) → (((0 : Int) ≤ (↑(posZ (decL decZnode (encL (encZnode 1) 1 b)) t) : Int)) ∧ ((↑(posZ (decL decZnode (encL (encZnode 1) 1 b)) t) : Int) < (↑(List.length b) : Int)))) ∧ ((tq (isZ (decL decZnode (encL (encZnode 1) 1 a)) t && !Znode.version (List.getD b (Int.toNat (↑(posZ (decL decZnode (encL (encZnode 1) 1 b)) t) : Int)) default) != Znode.version (List.getD a (Int.toNat (↑(posZ (decL decZnode (encL (encZnode 1) 1 a)) t) : Int)) default))) ∧ ((tq (isZ (decL decZnode (encL (encZnode 1) 1 a)) t && !Znode.version (List.getD b (Int.toNat (↑(posZ (decL decZnode (encL (encZnode 1) 1 b)) t) : Int)) default) != Znode.version (List.getD a (Int.toNat (↑(posZ (decL decZnode (encL (encZnode 1) 1 a)) t) : Int)) default))) ∧ ((tq (isZ (decL decZnode (encL (encZnode 1) 1 a)) t && !Znode.version (List.getD b (Int.toNat (↑(posZ (decL decZnode (encL (encZnode 1) 1 b)) t) : Int)) default) != Znode.version (List.getD a (Int.toNat (↑(posZ (decL decZnode (encL (encZnode 1) 1 a)) t) : Int)) default))) ∧ ((tq (isZ (decL decZnode (encL (encZnode 1) 1 a)) t && !Znode.version (List.getD b (Int.toNat (↑(posZ (decL decZnode (encL (encZnode 1) 1 b)) t) : Int)) default) != Znode.version (List.getD a (Int.toNat (↑(posZ (decL decZnode (encL (encZnode 1) 1 a)) t) : Int)) default))) ∧ ((((isZ (decL decZnode (encL (encZnode 1) 1 a)) t && !Znode.version (List.getD b (Int.toNat (↑(posZ (decL decZnode (encL (encZnode 1) 1 b)) t) : Int)) default) != Znode.version (List.getD a (Int.toNat (↑(posZ (decL decZnode (encL (encZnode 1) 1 a)) t) : Int)) default)) = true) → (((0 : Int) ≤ (↑(posZ (decL decZnode (encL (encZnode 1) 1 a)) t) : Int)) ∧ ((↑(posZ (decL decZnode (encL (encZnode 1) 1 a)) t) : Int) < (↑(List.length a) : Int)))) ∧ ((tq (isZ (decL decZnode (encL (encZnode 1) 1 a)) t && !Znode.version (List.getD b (Int.toNat (↑(posZ (decL decZnode (encL (encZnode 1) 1 b)) t) : Int)) default) != Znode.version (List.getD a (Int.toNat (↑(posZ (decL decZnode (encL (encZnode 1) 1 a)) t) : Int)) default))) ∧ ((tq (isZ (decL decZnode (encL (encZnode 1) 1 a)) t && !Znode.version (List.getD b (Int.toNat (↑(posZ (decL decZnode (encL (encZnode 1) 1 b)) t) : Int)) default) != Znode.version (List.getD a (Int.toNat (↑(posZ (decL decZnode (encL (encZnode 1) 1 a)) t) : Int)) default))) ∧ ((tq (isZ (decL decZnode (encL (encZnode 1) 1 a)) t && !Znode.version (List.getD b (Int.toNat (↑(posZ (decL decZnode (encL (encZnode 1) 1 b)) t) : Int)) default) != Znode.version (List.getD a (Int.toNat (↑(posZ (decL decZnode (encL (encZnode 1) 1 a)) t) : Int)) default))) ∧ ((tq (isZ (decL decZnode (encL (encZnode 1) 1 a)) t && !Znode.version (List.getD b (Int.toNat (↑(posZ (decL decZnode (encL (encZnode 1) 1 b)) t) : Int)) default) != Znode.version (List.getD a (Int.toNat (↑(posZ (decL decZnode (encL (encZnode 1) 1 a)) t) : Int)) default))) ∧ ((tq (isZ (decL decZnode (encL (encZnode 1) 1 a)) t)) ∧ (((isZ (decL decZnode (encL (encZnode 1) 1 a)) t = true) → ((isZ (decL decZnode (encL (encZnode 1) 1 a)) t = true) → (((Znode.version (List.getD b (Int.toNat (↑(posZ (decL decZnode (encL (encZnode 1) 1 b)) t) : Int)) default) != Znode.version (List.getD a (Int.toNat (↑(posZ (decL decZnode (encL (encZnode 1) 1 a)) t) : Int)) default)) = false) → ((isZ (decL decZnode (encL (encZnode 1) 1 a)) t && !Znode.version (List.getD b (Int.toNat (↑(posZ (decL decZnode (encL (encZnode 1) 1 b)) t) : Int)) default) != Znode.version (List.getD a (Int.toNat (↑(posZ (decL decZnode (encL (encZnode 1) 1 a)) t) : Int)) default)) = true)))) ∧ (∀ b_3 : Bool, ((b_3 = bif Znode.version (List.getD b (Int.toNat (↑(posZ (decL decZnode (encL (encZnode 1) 1 b)) t) : Int)) default) != Znode.version (List.getD a (Int.toNat (↑(posZ (decL decZnode (encL (encZnode 1) 1 a)) t) : Int)) default) then true else Znode.data (List.getD b (Int.toNat (↑(posZ (decL decZnode (encL (encZnode 1) 1 b)) t) : Int)) default) != Znode.data (List.getD a (Int.toNat (↑(posZ (decL decZnode (encL (encZnode 1) 1 a)) t) : Int)) default)) → (((true = true) → ((isZ (decL decZnode (encL (encZnode 1) 1 a)) t = true) → (isZ (decL decZnode (encL (encZnode 1) 1 a)) t = true))) ∧ (∀ b_4 : Bool, ((b_4 = bif isZ (decL decZnode (encL (encZnode 1) 1 a)) t then b_3 else false) → (((b_4 = true) → (VLe (vi (3 : Int)) (vi (changeF b a t)))) ∧ ((b_4 = false) → (VLe (vi (0 : Int)) (vi (changeF b a t))))))))))))))))))))))))))))))))))))))))))))))))))) := by
    delta vi
    obtain ⟨hrb, hra, hlb, hla⟩ := hpre
    simp only [decL_Znode, Int.toNat_natCast]
    have ib : isZ b t = true → 0 ≤ (posZ b t : Int) ∧ (posZ b t : Int) < b.length := fun h => ⟨by omega, by have := (atN_pos hrb h).2.1; omega⟩
    have ia : isZ a t = true → 0 ≤ (posZ a t : Int) ∧ (posZ a t : Int) < a.length := fun h => ⟨by omega, by have := (atN_pos hra h).2.1; omega⟩
    generalize hv : ((b.getD (posZ b t) default).version != (a.getD (posZ a t) default).version) = v at *
    generalize hd : ((b.getD (posZ b t) default).data != (a.getD (posZ a t) default).data) = d at *
    refine ⟨⟨VLe.refl _, hrb, hlb⟩, ⟨VLe.refl _, hra, hla⟩, ?_⟩
    repeat (first | (refine And.intro (fun h _ => h) ?_) | (refine And.intro (fun _ h => h) ?_) | (refine And.intro ?aa ?_; case aa => (exact (tqI _))) | (refine And.intro ?aa ?_; case aa => (intros; simp_all [pr50]; done)) | (refine And.intro ?aa ?_; case aa => (intros; exact inK64 (by omega))) | (refine And.intro ?aa ?_; case aa => (intros; simp only [decide_eq_true_eq] at *; omega)) | (intro q hq))
    have e1 : q = (isZ a t && !isZ b t) := by rw [hq]; cases isZ a t <;> rfl
    clear hq
    rw [e1]
    refine ⟨fun h => vle_int (by rw [changeF_is hrb hra, if_pos h]), fun h => ?_⟩
    have hab : isZ a t = true → isZ b t = true := fun g => by
      rw [g] at h
      cases hb : isZ b t with
      | true => rfl
      | false => rw [hb] at h; cases h
    clear e1
    repeat (first | (refine And.intro (fun h _ => h) ?_) | (refine And.intro (fun _ h => h) ?_) | (refine And.intro ?aa ?_; case aa => (exact (tqI _))) | (refine And.intro ?aa ?_; case aa => (intros; simp_all [pr50]; done)) | (refine And.intro ?aa ?_; case aa => (intros; exact inK64 (by omega))) | (refine And.intro ?aa ?_; case aa => (intros; simp only [decide_eq_true_eq] at *; omega)) | (intro q hq))
    have e2 : q = (isZ b t && !isZ a t) := by rw [hq]; cases isZ b t <;> rfl
    clear hq
    rw [e2]
    refine ⟨fun h2 => vle_int (by rw [changeF_is hrb hra, if_neg (by rw [h]; decide), if_pos h2]), fun h2 => ?_⟩
    clear e2
    repeat (first | (refine And.intro (fun h _ => h) ?_) | (refine And.intro (fun _ h => h) ?_) | (refine And.intro ?aa ?_; case aa => (exact (tqI _))) | (refine And.intro ?aa ?_; case aa => (exact (fun g => ib (hab g)))) | (refine And.intro ?aa ?_; case aa => (exact (fun g => ia g))) | (refine And.intro ?aa ?_; case aa => (exact (fun g => ib (hab (and1 g))))) | (refine And.intro ?aa ?_; case aa => (exact (fun g => ia (and1 g)))) | (refine And.intro ?aa ?_; case aa => (intros; simp_all [pr50]; done)) | (refine And.intro ?aa ?_; case aa => (intros; exact inK64 (by omega))) | (refine And.intro ?aa ?_; case aa => (intros; simp only [decide_eq_true_eq] at *; omega)) | (intro q hq))
    rename_i q1 hq1
    have e3 : q = (isZ a t && (v || d)) := by
      rw [hq, hq1]
      cases isZ a t <;> cases v <;> rfl
    rw [e3]
    have ec2 : changeF b a t = if (isZ a t && (v || d)) = true then 3 else 0 := by
      rw [changeF_is hrb hra, if_neg (by rw [h]; decide), if_neg (by rw [h2]; decide), ← hv, ← hd]
    refine ⟨fun h3 => vle_int (by rw [ec2, if_pos h3]), fun h3 => vle_int (by rw [ec2, if_neg (by rw [h3]; decide)])⟩
  exact Eq.mp (by kernel_rfl) key
theorem so20 : Sound Tryz.prog 20 sp20 := by
  refine sound_of_body hmix (pol := 0) Tryz.func20 rfl (by kernel_rfl) fun args bin ob r bout hDe hob => ?_
  unfold sp20 at hDe
  split at hDe
  · rename_i a0 a1 a2
    cases hDe
    exact ⟨rfl, rfl, Nat.le_of_ble_eq_true (by kernel_rfl), cx20 ((decL decZnode) a0) ((decL decZnode) a1) a2, Eq.mp (by kernel_rfl) htt, Eq.mp (by kernel_rfl) da20, Eq.mp (by kernel_rfl) (noM_sound (P := Tryz.prog)), by kernel_rfl, [encL (encZnode 1) 1 (((decL decZnode) a0)), encL (encZnode 1) 1 (((decL decZnode) a1)), .str (a2)], args_of_vles (⟨hob.1, hob.2.1, VLe.refl _, trivial⟩), Eq.mp (by kernel_rfl) (bd20 ((decL decZnode) a0) ((decL decZnode) a1) a2 (hob.2.2))⟩
  · cases hDe

/-! ### spec.l7Change -/
def pr46 (b : List Znode) (a : List Znode) (t : ByteArray) : Prop := rising b ∧ rising a ∧ b.length ≤ 1000 ∧ a.length ≤ 1000
noncomputable def rs46 (b : List Znode) (a : List Znode) (t : ByteArray) : V := .int .i64 (changeF b a t)
noncomputable def sp46 : FSpec := fun args bin => match args, bin with
  | [a0, a1, .str a2], [] => some (VLe a0 (encL (encZnode 1) 1 (((decL decZnode) a0))) ∧ VLe a1 (encL (encZnode 1) 1 (((decL decZnode) a1))) ∧ pr46 ((decL decZnode) a0) ((decL decZnode) a1) a2, rs46 ((decL decZnode) a0) ((decL decZnode) a1) a2, [])
  | _, _ => none
noncomputable def D46 : Nat → Option (Bool × FSpec) := lk [(44, (false, sp44))]
theorem da46 : SoundAll Tryz.prog D46 := soundAll_cons so44 (soundAll_nil)
noncomputable def cx46 (b : List Znode) (a : List Znode) (t : ByteArray) : Cx := ⟨tt, D46, Tryz.f46.ntmps, [0, 1, 2, 6, 7, 8, 15, 22, 29], [], [], fun _ => none, [], noM, []⟩
noncomputable def k46_0 (b : List Znode) (t : ByteArray) : Bool := (decide (atN (decL decZnode (encL (encZnode 1) 1 b)) t ≥ (0 : Int)))
theorem bd46 (b : List Znode) (a : List Znode) (t : ByteArray) (hpre : pr46 b a t) : bodyP (cx46 b a t) Tryz.f46 0 [encL (encZnode 1) 1 (b), encL (encZnode 1) 1 (a), .str (t)] (fun rr => VLe rr (rs46 b a t)) := by
  have key : (((VLe (encL (encZnode 1) 1 b) (encL (encZnode 1) 1 (decL decZnode (encL (encZnode 1) 1 b)))) ∧ (pr44 (decL decZnode (encL (encZnode 1) 1 b)) t)) ∧ (((VLe (encL (encZnode 1) 1 a) (encL (encZnode 1) 1 (decL decZnode (encL (encZnode 1) 1 a)))) ∧ (pr44 (decL decZnode (encL (encZnode 1) 1 a)) t)) ∧ ((tq (decide (atN (decL decZnode (encL (encZnode 1) 1 b)) t < (0 : Int)))) ∧ (((true = true) → ((decide (atN (decL decZnode (encL (encZnode 1) 1 b)) t < (0 : Int)) = true) → (decide (atN (decL decZnode (encL (encZnode 1) 1 b)) t < (0 : Int)) = true))) ∧ (∀ b_1 : Bool, ((b_1 = bif decide (atN (decL decZnode (encL (encZnode 1) 1 b)) t < (0 : Int)) then decide (atN (decL decZnode (encL (encZnode 1) 1 a)) t ≥ (0 : Int)) else false) → (((b_1 = true) → (VLe (vi (1 : Int)) (vi (changeF b a t)))) ∧ ((b_1 = false) → ((tq (k46_0 b t)) ∧ (((true = true) → ((decide (atN (decL decZnode (encL (encZnode 1) 1 b)) t ≥ (0 : Int)) = true) → (decide (atN (decL decZnode (encL (encZnode 1) 1 b)) t ≥ (0 : Int)) = true))) ∧ (∀ b_2 : Bool, ((b_2 = bif decide (atN (decL decZnode (encL (encZnode 1) 1 b)) t ≥ (0 : Int)) then decide (atN (decL decZnode (encL (encZnode 1) 1 a)) t < (0 : Int)) else false) → (((b_2 = true) → (VLe (vi (2 : Int)) (vi (changeF b a t)))) ∧ ((b_2 = false) → ((tq (k46_0 b t)) ∧ ((tq (k46_0 b t)) ∧ (((decide (atN (decL decZnode (encL (encZnode 1) 1 b)) t ≥ (0 : Int)) = true) → (((0 : Int) ≤ atN (decL decZnode (encL (encZnode 1) 1 b)) t) ∧ (atN (decL decZnode (encL (encZnode 1) 1 b)) t < (↑(List.length b) : Int)))) ∧ ((tq (k46_0 b t)) ∧ ((tq (k46_0 b t)) ∧ ((tq (k46_0 b t)) ∧ ((tq (k46_0 b t)) ∧ (((decide (atN (decL decZnode (encL (encZnode 1) 1 b)) t ≥ (0 : Int)) = true) → (((0 : Int) ≤ atN (decL decZnode (encL (encZnode 1) 1 a)) t) ∧ (atN (decL decZnode (encL (encZnode 1) 1 a)) t < (↑(List.length a) : Int)))) ∧ ((tq (k46_0 b t)) ∧ ((tq (k46_0 b t)) ∧ ((tq (k46_0 b t)) ∧ ((tq (k46_0 b t)) ∧ ((tq (k46_0 b t)) ∧ ((tq (decide (atN (decL decZnode (encL (encZnode 1) 1 b)) t ≥ (0 : Int)) && !Znode.version (List.getD b (Int.toNat (atN (decL decZnode (encL (encZnode 1) 1 b)) t)) default) != Znode.version (List.getD a (Int.toNat (atN (decL decZnode (encL (encZnode 1) 1 a)) t)) default))) ∧ ((tq (decide (atN (decL decZnode (encL (encZnode 1) 1 b)) t ≥ (0 : Int)) && !Znode.version (List.getD b (Int.toNat (atN (decL decZnode (encL (encZnode 1) 1 b)) t)) default) != Znode.version (List.getD a (Int.toNat (atN (decL decZnode (encL (encZnode 1) 1 a)) t)) default))) ∧ ((((decide (atN (decL decZnode (encL (encZnode 1) 1 b)) t ≥ (0 : Int)) && !Znode.version (List.getD b (Int.toNat (atN (decL decZnode (encL (encZnode 1) 1 b)) t)) default) != Znode.version (List.getD a (Int.toNat (atN (decL decZnode (encL (encZnode 1) 1 a)) t)) default)) = true) → (((0 : Int) ≤ atN (decL decZnode (encL (encZnode 1) 1 b)) t) ∧ (atN (decL decZnode (encL (encZnode 1) 1 b)) t < (↑(List.length b) : Int)))) ∧ ((tq (decide (atN (decL decZnode (encL (encZnode 1) 1 b)) t ≥ (0 : Int)) && !Znode.version (List.getD b (Int.toNat (atN (decL decZnode (encL (encZnode 1) 1 b)) t)) default) != Znode.version (List.getD a (Int.toNat (atN (decL decZnode (encL (encZnode 1) 1 a)) t)) default))) ∧ ((tq (decide (atN (decL decZnode (encL (encZnode 1) 1 b)) t ≥ (0 : Int)) && !Znode.version (List.getD b (Int.toNat (atN (decL decZnode (encL (encZnode 1) 1 b)) t)) default) != Znode.version (List.getD a (Int.toNat (atN (decL decZnode (encL (encZnode 1) 1 a)) t)) default))) ∧ ((tq (decide (atN (decL decZnode (encL (encZnode 1) 1 b)) t ≥ (0 : Int)) && !Znode.version (List.getD b (Int.toNat (atN (decL decZnode (encL (encZnode 1) 1 b)) t)) default) != Znode.version (List.getD a (Int.toNat (atN (decL decZnode (encL (encZnode 1) 1 a)) t)) default))) ∧ ((tq (decide (atN (decL decZnode (encL (encZnode 1) 1 b)) t ≥ (0 : Int)) && !Znode.version (List.getD b (Int.toNat (atN (decL decZnode (encL (encZnode 1) 1 b)) t)) default) != Znode.version (List.getD a (Int.toNat (atN (decL decZnode (encL (encZnode 1) 1 a)) t)) default))) ∧ ((((decide (atN (decL decZnode (encL (encZnode 1) 1 b)) t ≥ (0 : Int)) && !Znode.version (List.getD b (Int.toNat (atN (decL decZnode (encL (encZnode 1) 1 b)) t)) default) != Znode.version (List.getD a (Int.toNat (atN (decL decZnode (encL (encZnode 1) 1 a)) t)) default)) = true) → (((0 : Int) ≤ atN (decL decZnode (encL (encZnode 1) 1 a)) t) ∧ (atN (decL decZnode (encL (encZnode 1) 1 a)) t < (↑(List.length a) : Int)))) ∧ ((tq (decide (atN (decL decZnode (encL (encZnode 1) 1 b)) t ≥ (0 : Int)) && !Znode.version (List.getD b (Int.toNat (atN (decL decZnode (encL (encZnode 1) 1 b)) t)) default) != Znode.version (List.getD a (Int.toNat (atN (decL decZnode (encL (encZnode 1) 1 a)) t)) default))) ∧ ((tq (decide (atN (decL decZnode (encL (encZnode 1) 1 b)) t ≥ (0 : Int)) && !Znode.version (List.getD b (Int.toNat (atN (decL decZnode (encL (encZnode 1) 1 b)) t)) default) != Znode.version (List.getD a (Int.toNat (atN (decL decZnode (encL (encZnode 1) 1 a)) t)) default))) ∧ ((tq (decide (atN (decL decZnode (encL (encZnode 1) 1 b)) t ≥ (0 : Int)) && !Znode.version (List.getD b (Int.toNat (atN (decL decZnode (encL (encZnode 1) 1 b)) t)) default) != Znode.version (List.getD a (Int.toNat (atN (decL decZnode (encL (encZnode 1) 1 a)) t)) default))) ∧ ((tq (decide (atN (decL decZnode (encL (encZnode 1) 1 b)) t ≥ (0 : Int)) && !Znode.version (List.getD b (Int.toNat (atN (decL decZnode (encL (encZnode 1) 1 b)) t)) default) != Znode.version (List.getD a (Int.toNat (atN (decL decZnode (encL (encZnode 1) 1 a)) t)) default))) ∧ ((tq (k46_0 b t)) ∧ (((decide (atN (decL decZnode (encL (encZnode 1) 1 b)) t ≥ (0 : Int)) = true) → ((decide (atN (decL decZnode (encL (encZnode 1) 1 b)) t ≥ (0 : Int)) = true) → (((Znode.version (List.getD b (Int.toNat (atN (decL decZnode (encL (encZnode 1) 1 b)) t)) default) != Znode.version (List.getD a (Int.toNat (atN (decL decZnode (encL (encZnode 1) 1 a)) t)) default)) = false) → ((decide (atN (decL decZnode (encL (encZnode 1) 1 b)) t ≥ (0 : Int)) && !Znode.version (List.getD b (Int.toNat (atN (decL decZnode (encL (encZnode 1) 1 b)) t)) default) != Znode.version (List.getD a (Int.toNat (atN (decL decZnode (encL (encZnode 1) 1 a)) t)) default)) = true)))) ∧ (∀ b_3 : Bool, ((b_3 = bif Znode.version (List.getD b (Int.toNat (atN (decL decZnode (encL (encZnode 1) 1 b)) t)) default) != Znode.version (List.getD a (Int.toNat (atN (decL decZnode (encL (encZnode 1) 1 a)) t)) default) then true else Znode.data (List.getD b (Int.toNat (atN (decL decZnode (encL (encZnode 1) 1 b)) t)) default) != Znode.data (List.getD a (Int.toNat (atN (decL decZnode (encL (encZnode 1) 1 a)) t)) default)) → (((true = true) → ((decide (atN (decL decZnode (encL (encZnode 1) 1 b)) t ≥ (0 : Int)) = true) → (decide (atN (decL decZnode (encL (encZnode 1) 1 b)) t ≥ (0 : Int)) = true))) ∧ (∀ b_4 : Bool, ((b_4 = bif decide (atN (decL decZnode (encL (encZnode 1) 1 b)) t ≥ (0 : Int)) then b_3 else false) → (((b_4 = true) → (VLe (vi (3 : Int)) (vi (changeF b a t)))) ∧ ((b_4 = false) → (VLe (vi (0 : Int)) (vi (changeF b a t))))))))))))))))))))))))))))))))))))))))))))))))))) := by
    delta k46_0; delta vi
    obtain ⟨hrb, hra, hlb, hla⟩ := hpre
    simp only [decL_Znode]
    have ib : 0 ≤ atN b t → 0 ≤ atN b t ∧ atN b t < b.length := fun h => ⟨h, (idxF_lt (isPath t) b).elim id fun g => absurd (show atN b t = -1 from g) (by omega)⟩
    have ia : 0 ≤ atN a t → 0 ≤ atN a t ∧ atN a t < a.length := fun h => ⟨h, (idxF_lt (isPath t) a).elim id fun g => absurd (show atN a t = -1 from g) (by omega)⟩
    generalize hv : ((b.getD (atN b t).toNat default).version != (a.getD (atN a t).toNat default).version) = v at *
    generalize hd : ((b.getD (atN b t).toNat default).data != (a.getD (atN a t).toNat default).data) = d at *
    refine ⟨⟨VLe.refl _, by show b.length ≤ maxLen; unfold maxLen; omega⟩, ⟨VLe.refl _, by show a.length ≤ maxLen; unfold maxLen; omega⟩, ?_⟩
    repeat (first | (refine And.intro (fun h _ => h) ?_) | (refine And.intro (fun _ h => h) ?_) | (refine And.intro ?aa ?_; case aa => (exact (tqI _))) | (refine And.intro ?aa ?_; case aa => (intros; simp_all [pr44]; done)) | (refine And.intro ?aa ?_; case aa => (intros; exact inK64 (by omega))) | (refine And.intro ?aa ?_; case aa => (intros; simp only [decide_eq_true_eq] at *; omega)) | (intro q hq))
    have e1 : q = decide (atN b t < 0 ∧ 0 ≤ atN a t) := by
      rw [hq, Bool.eq_iff_iff, decide_eq_true_eq]
      by_cases a1 : atN b t < 0 <;> by_cases a2 : 0 ≤ atN a t <;> simp [a1, a2]
    clear hq
    rw [e1]
    refine ⟨fun h => vle_int (by rw [changeF_def, if_pos (of_decide_eq_true h)]), fun h => ?_⟩
    have h' := of_decide_eq_false h
    clear e1
    repeat (first | (refine And.intro (fun h _ => h) ?_) | (refine And.intro (fun _ h => h) ?_) | (refine And.intro ?aa ?_; case aa => (exact (tqI _))) | (refine And.intro ?aa ?_; case aa => (intros; simp_all [pr44]; done)) | (refine And.intro ?aa ?_; case aa => (intros; exact inK64 (by omega))) | (refine And.intro ?aa ?_; case aa => (intros; simp only [decide_eq_true_eq] at *; omega)) | (intro q hq))
    have e2 : q = decide (0 ≤ atN b t ∧ atN a t < 0) := by
      rw [hq, Bool.eq_iff_iff, decide_eq_true_eq]
      by_cases a1 : 0 ≤ atN b t <;> by_cases a2 : atN a t < 0 <;> simp [a1, a2]
    clear hq
    rw [e2]
    refine ⟨fun h2 => vle_int (by rw [changeF_def, if_neg h', if_pos (of_decide_eq_true h2)]), fun h2 => ?_⟩
    have h2' := of_decide_eq_false h2
    clear e2
    have ja : decide (atN b t ≥ 0) = true → 0 ≤ atN a t := fun g => by
      have := of_decide_eq_true g
      omega
    repeat (first | (refine And.intro (fun h _ => h) ?_) | (refine And.intro (fun _ h => h) ?_) | (refine And.intro ?aa ?_; case aa => (exact (tqI _))) | (refine And.intro ?aa ?_; case aa => (exact (fun g => ib (of_decide_eq_true g)))) | (refine And.intro ?aa ?_; case aa => (exact (fun g => ia (ja g)))) | (refine And.intro ?aa ?_; case aa => (exact (fun g => ib (of_decide_eq_true (and1 g))))) | (refine And.intro ?aa ?_; case aa => (exact (fun g => ia (ja (and1 g))))) | (refine And.intro ?aa ?_; case aa => (intros; simp_all [pr44]; done)) | (refine And.intro ?aa ?_; case aa => (intros; exact inK64 (by omega))) | (refine And.intro ?aa ?_; case aa => (intros; simp only [decide_eq_true_eq] at *; omega)) | (intro q hq))
    rename_i q1 hq1
    have e3 : q = decide (0 ≤ atN b t ∧ ((atZ b (atN b t).toNat).version ≠ (atZ a (atN a t).toNat).version ∨ (atZ b (atN b t).toNat).data ≠ (atZ a (atN a t).toNat).data)) := by
      rw [hq, hq1, Bool.eq_iff_iff, decide_eq_true_eq, ← hv, ← hd]
      by_cases a1 : 0 ≤ atN b t
      · have a2 : decide (atN b t ≥ 0) = true := decide_eq_true a1
        rw [a2]
        simp only [a1, true_and, cond_true]
        by_cases a3 : (atZ b (atN b t).toNat).version = (atZ a (atN a t).toNat).version
        · have a4 : ((b.getD (atN b t).toNat default).version != (a.getD (atN a t).toNat default).version) = false := by simpa using a3
          rw [a4]
          exact ⟨fun g => Or.inr (bne_iff_ne.1 g), fun g => g.elim (fun g => absurd a3 g) fun g => bne_iff_ne.2 g⟩
        · have a4 : ((b.getD (atN b t).toNat default).version != (a.getD (atN a t).toNat default).version) = true := by simpa using a3
          rw [a4]
          exact ⟨fun _ => Or.inl a3, fun _ => rfl⟩
      · have a2 : decide (atN b t ≥ 0) = false := decide_eq_false (by omega)
        rw [a2]
        simp [a1]
    rw [e3]
    exact ⟨fun h3 => vle_int (by rw [changeF_def, if_neg h', if_neg h2', if_pos (of_decide_eq_true h3)]), fun h3 => vle_int (by rw [changeF_def, if_neg h', if_neg h2', if_neg (of_decide_eq_false h3)])⟩
  exact Eq.mp (by kernel_rfl) key
theorem so46 : Sound Tryz.prog 46 sp46 := by
  refine sound_of_body hmix (pol := 0) Tryz.func46 rfl (by kernel_rfl) fun args bin ob r bout hDe hob => ?_
  unfold sp46 at hDe
  split at hDe
  · rename_i a0 a1 a2
    cases hDe
    exact ⟨rfl, rfl, Nat.le_of_ble_eq_true (by kernel_rfl), cx46 ((decL decZnode) a0) ((decL decZnode) a1) a2, Eq.mp (by kernel_rfl) htt, Eq.mp (by kernel_rfl) da46, Eq.mp (by kernel_rfl) (noM_sound (P := Tryz.prog)), by kernel_rfl, [encL (encZnode 1) 1 (((decL decZnode) a0)), encL (encZnode 1) 1 (((decL decZnode) a1)), .str (a2)], args_of_vles (⟨hob.1, hob.2.1, VLe.refl _, trivial⟩), Eq.mp (by kernel_rfl) (bd46 ((decL decZnode) a0) ((decL decZnode) a1) a2 (hob.2.2))⟩
  · cases hDe

/-! ### impl.treesCode -/
def pr14 (b : List Znode) (a : List Znode) : Prop := b.length ≤ maxLen ∧ a.length ≤ maxLen
noncomputable def rs14 (b : List Znode) (a : List Znode) : V := .int .i64 (if treeF b ≠ 0 then treeF b else treeF a)
noncomputable def sp14 : FSpec := fun args bin => match args, bin with
  | [a0, a1], [] => some (VLe a0 (encL (encZnode 1) 1 (((decL decZnode) a0))) ∧ VLe a1 (encL (encZnode 1) 1 (((decL decZnode) a1))) ∧ pr14 ((decL decZnode) a0) ((decL decZnode) a1), rs14 ((decL decZnode) a0) ((decL decZnode) a1), [])
  | _, _ => none
noncomputable def D14 : Nat → Option (Bool × FSpec) := lk [(37, (false, sp37))]
theorem da14 : SoundAll Tryz.prog D14 := soundAll_cons so37 (soundAll_nil)
noncomputable def cx14 (b : List Znode) (a : List Znode) : Cx := ⟨tt, D14, Tryz.f14.ntmps, [0, 1, 4, 5, 9], [], [], fun _ => none, [], noM, []⟩
theorem bd14 (b : List Znode) (a : List Znode) (hpre : pr14 b a) : bodyP (cx14 b a) Tryz.f14 0 [encL (encZnode 1) 1 (b), encL (encZnode 1) 1 (a)] (fun rr => VLe rr (rs14 b a)) := by
  have key : (((VLe (encL (encZnode 1) 1 b) (encL (encZnode 1) 1 (decL decZnode (encL (encZnode 1) 1 b)))) ∧ (pr37 (decL decZnode (encL (encZnode 1) 1 b)))) ∧ ((((treeF (decL decZnode (encL (encZnode 1) 1 b)) != (0 : Int)) = true) → (VLe (vi (treeF (decL decZnode (encL (encZnode 1) 1 b)))) (vi (if treeF b ≠ (0 : Int) then treeF b else treeF a)))) ∧ (((treeF (decL decZnode (encL (encZnode 1) 1 b)) != (0 : Int)) = false) → (((VLe (encL (encZnode 1) 1 a) (encL (encZnode 1) 1 (decL decZnode (encL (encZnode 1) 1 a)))) ∧ (pr37 (decL decZnode (encL (encZnode 1) 1 a)))) ∧ (VLe (vi (treeF (decL decZnode (encL (encZnode 1) 1 a)))) (vi (if treeF b ≠ (0 : Int) then treeF b else treeF a))))))) := by
    delta vi
    obtain ⟨hb, ha⟩ := hpre
    simp only [decL_Znode]
    refine ⟨⟨VLe.refl _, hb⟩, fun h => ?_, fun h => ⟨⟨VLe.refl _, ha⟩, ?_⟩⟩
    · exact vle_int (by rw [if_pos (ne_of_bne h)])
    · exact vle_int (by rw [if_neg (not_ne_of_bne h)])
  exact Eq.mp (by kernel_rfl) key
theorem so14 : Sound Tryz.prog 14 sp14 := by
  refine sound_of_body hmix (pol := 0) Tryz.func14 rfl (by kernel_rfl) fun args bin ob r bout hDe hob => ?_
  unfold sp14 at hDe
  split at hDe
  · rename_i a0 a1
    cases hDe
    exact ⟨rfl, rfl, Nat.le_of_ble_eq_true (by kernel_rfl), cx14 ((decL decZnode) a0) ((decL decZnode) a1), Eq.mp (by kernel_rfl) htt, Eq.mp (by kernel_rfl) da14, Eq.mp (by kernel_rfl) (noM_sound (P := Tryz.prog)), by kernel_rfl, [encL (encZnode 1) 1 (((decL decZnode) a0)), encL (encZnode 1) 1 (((decL decZnode) a1))], args_of_vles (⟨hob.1, hob.2.1, trivial⟩), Eq.mp (by kernel_rfl) (bd14 ((decL decZnode) a0) ((decL decZnode) a1) (hob.2.2))⟩
  · cases hDe

/-! ### impl.ChangeOf -/
def pr8 (b : List Znode) (a : List Znode) (t : ByteArray) : Prop := b.length ≤ maxLen ∧ a.length ≤ maxLen
noncomputable def rs8 (b : List Znode) (a : List Znode) (t : ByteArray) : V := encIntResult 0 (changeOfF b a t)
noncomputable def sp8 : FSpec := fun args bin => match args, bin with
  | [a0, a1, .str a2], [] => some (VLe a0 (encL (encZnode 1) 1 (((decL decZnode) a0))) ∧ VLe a1 (encL (encZnode 1) 1 (((decL decZnode) a1))) ∧ pr8 ((decL decZnode) a0) ((decL decZnode) a1) a2, rs8 ((decL decZnode) a0) ((decL decZnode) a1) a2, [])
  | _, _ => none
noncomputable def D8 : Nat → Option (Bool × FSpec) := lk [(14, (false, sp14)), (19, (false, sp19)), (20, (false, sp20))]
theorem da8 : SoundAll Tryz.prog D8 := soundAll_cons so14 (soundAll_cons so19 (soundAll_cons so20 (soundAll_nil)))
noncomputable def cx8 (b : List Znode) (a : List Znode) (t : ByteArray) : Cx := ⟨tt, D8, Tryz.f8.ntmps, [0, 1, 2, 6, 7, 8, 13, 19], [], [], fun _ => none, [], noM, []⟩
theorem bd8 (b : List Znode) (a : List Znode) (t : ByteArray) (hpre : pr8 b a t) : bodyP (cx8 b a t) Tryz.f8 0 [encL (encZnode 1) 1 (b), encL (encZnode 1) 1 (a), .str (t)] (fun rr => VLe rr (rs8 b a t)) := by
  have key : (((VLe (encL (encZnode 1) 1 b) (encL (encZnode 1) 1 (decL decZnode (encL (encZnode 1) 1 b)))) ∧ ((VLe (encL (encZnode 1) 1 a) (encL (encZnode 1) 1 (decL decZnode (encL (encZnode 1) 1 a)))) ∧ (pr14 (decL decZnode (encL (encZnode 1) 1 b)) (decL decZnode (encL (encZnode 1) 1 a))))) ∧ (((((if treeF (decL decZnode (encL (encZnode 1) 1 b)) ≠ (0 : Int) then treeF (decL decZnode (encL (encZnode 1) 1 b)) else treeF (decL decZnode (encL (encZnode 1) 1 a))) != (0 : Int)) = true) → (VLe (V.agg [vi (if treeF (decL decZnode (encL (encZnode 1) 1 b)) ≠ (0 : Int) then treeF (decL decZnode (encL (encZnode 1) 1 b)) else treeF (decL decZnode (encL (encZnode 1) 1 a))), vi (0 : Int)]) (encIntResult 1 (changeOfF b a t)))) ∧ ((((if treeF (decL decZnode (encL (encZnode 1) 1 b)) ≠ (0 : Int) then treeF (decL decZnode (encL (encZnode 1) 1 b)) else treeF (decL decZnode (encL (encZnode 1) 1 a))) != (0 : Int)) = false) → ((pr19 t) ∧ ((((pathF t != (0 : Int)) = true) → (VLe (V.agg [vi (pathF t), vi (0 : Int)]) (encIntResult 1 (changeOfF b a t)))) ∧ (((pathF t != (0 : Int)) = false) → (((VLe (encL (encZnode 1) 1 b) (encL (encZnode 1) 1 (decL decZnode (encL (encZnode 1) 1 b)))) ∧ ((VLe (encL (encZnode 1) 1 a) (encL (encZnode 1) 1 (decL decZnode (encL (encZnode 1) 1 a)))) ∧ (pr20 (decL decZnode (encL (encZnode 1) 1 b)) (decL decZnode (encL (encZnode 1) 1 a)) t))) ∧ (VLe (V.agg [vi (0 : Int), vi (changeF (decL decZnode (encL (encZnode 1) 1 b)) (decL decZnode (encL (encZnode 1) 1 a)) t)]) (encIntResult 1 (changeOfF b a t)))))))))) := by
    delta vi
    obtain ⟨hb, ha⟩ := hpre
    simp only [decL_Znode]
    refine ⟨⟨VLe.refl _, VLe.refl _, hb, ha⟩, fun h => ?_, fun h => ⟨trivial, fun h2 => ?_, fun h2 => ?_⟩⟩
    · have h1 := ne_of_bne h
      refine agI ?_
      unfold changeOfF
      by_cases c : treeF b ≠ 0
      · rw [if_pos c, if_pos c]
      · rw [if_neg c] at h1
        rw [if_neg c, if_neg c, if_pos h1]
    · have h1 := not_ne_of_bne h
      have c : ¬ treeF b ≠ 0 := fun c => by rw [if_pos c] at h1; exact h1 c
      rw [if_neg c] at h1
      refine agI ?_
      unfold changeOfF
      rw [if_neg c, if_neg h1, if_pos (ne_of_bne h2)]
    have h1 := not_ne_of_bne h
    have c : ¬ treeF b ≠ 0 := fun c => by rw [if_pos c] at h1; exact h1 c
    rw [if_neg c] at h1
    have tb := tree_ok (Classical.not_not.1 c)
    have ta := tree_ok (Classical.not_not.1 h1)
    refine ⟨⟨VLe.refl _, VLe.refl _, rising_scan tb.2.1, rising_scan ta.2.1, by omega, by omega⟩, agI ?_⟩
    unfold changeOfF
    rw [if_neg c, if_neg h1, if_neg (not_ne_of_bne h2)]
  exact Eq.mp (by kernel_rfl) key
theorem so8 : Sound Tryz.prog 8 sp8 := by
  refine sound_of_body hmix (pol := 0) Tryz.func8 rfl (by kernel_rfl) fun args bin ob r bout hDe hob => ?_
  unfold sp8 at hDe
  split at hDe
  · rename_i a0 a1 a2
    cases hDe
    exact ⟨rfl, rfl, Nat.le_of_ble_eq_true (by kernel_rfl), cx8 ((decL decZnode) a0) ((decL decZnode) a1) a2, Eq.mp (by kernel_rfl) htt, Eq.mp (by kernel_rfl) da8, Eq.mp (by kernel_rfl) (noM_sound (P := Tryz.prog)), by kernel_rfl, [encL (encZnode 1) 1 (((decL decZnode) a0)), encL (encZnode 1) 1 (((decL decZnode) a1)), .str (a2)], args_of_vles (⟨hob.1, hob.2.1, VLe.refl _, trivial⟩), Eq.mp (by kernel_rfl) (bd8 ((decL decZnode) a0) ((decL decZnode) a1) a2 (hob.2.2))⟩
  · cases hDe

end Go.Av
