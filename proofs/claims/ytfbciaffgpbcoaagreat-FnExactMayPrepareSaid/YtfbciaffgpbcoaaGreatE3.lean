/- What is wrong with a message: program and reference. -/
import Derived.Test.YtfbciaffgpbcoaaGreatE1
import Derived.Test.YtfbciaffgpbcoaaGreatP8
namespace Go.Av
open Go.Proofs
set_option maxRecDepth 100000
set_option linter.unusedVariables false
set_option linter.unusedSimpArgs false


/-! ### impl.within -/
def pr48 (n : Int) (lo : Int) (hi : Int) : Prop := True
noncomputable def rs48 (n : Int) (lo : Int) (hi : Int) : V := .bool (decide (inR n lo hi))
noncomputable def sp48 : FSpec := fun args bin => match args, bin with
  | [.int .i64 a0, .int .i64 a1, .int .i64 a2], [] => some (pr48 a0 a1 a2, rs48 a0 a1 a2, [])
  | _, _ => none
noncomputable def D48 : Nat → Option (Bool × FSpec) := lk []
theorem da48 : SoundAll Tryz.prog D48 := soundAll_nil
noncomputable def cx48 (n : Int) (lo : Int) (hi : Int) : Cx := ⟨tt, D48, Tryz.f48.ntmps, [0, 1, 2, 6], [], [], fun _ => none, [], noM, []⟩
theorem bd48 (n : Int) (lo : Int) (hi : Int) (hpre : pr48 n lo hi) : bodyP (cx48 n lo hi) Tryz.f48 0 [.int .i64 (n), .int .i64 (lo), .int .i64 (hi)] (fun rr => VLe rr (rs48 n lo hi)) := by
  have key :
      ((tq (decide (lo ≤ n))) ∧
   ((tq (decide (lo ≤ n))) ∧
   (((true = true) →
   ((decide (lo ≤ n) = true) →
   (decide (lo ≤ n) = true))) ∧
   (∀ b : Bool,
   ((b = bif decide (lo ≤ n) then decide (n ≤ hi) else false) →
   (VLe (V.bool b) (V.bool (decide (inR n lo hi))))))))) := by
    repeat (first | (refine And.intro (fun h _ => h) ?_) | (refine And.intro (fun _ h => h) ?_) | (refine And.intro ?aa ?_; case aa => (simp []; done)) | (refine And.intro ?aa ?_; case aa => (simp_all []; done)) | (refine And.intro ?aa ?_; case aa => (intros; exact inK64 (by omega))) | (refine And.intro ?aa ?_; case aa => (intros; simp only [decide_eq_true_eq] at *; omega)) | (intro q hq))
    subst_vars
    refine vle_bool ?_
    rw [Bool.eq_iff_iff]
    simp
    try simp only [inR]
    try omega
  exact Eq.mp (by kernel_rfl) key
theorem so48 : Sound Tryz.prog 48 sp48 := by
  refine sound_of_body hmix (pol := 0) Tryz.func48 rfl (by kernel_rfl) fun args bin ob r bout hDe hob => ?_
  unfold sp48 at hDe
  split at hDe
  · rename_i a0 a1 a2
    cases hDe
    exact ⟨rfl, rfl, Nat.le_of_ble_eq_true (by kernel_rfl), cx48 a0 a1 a2, Eq.mp (by kernel_rfl) htt, Eq.mp (by kernel_rfl) da48, Eq.mp (by kernel_rfl) (noM_sound (P := Tryz.prog)), by kernel_rfl, [.int .i64 (a0), .int .i64 (a1), .int .i64 (a2)], args_of_vles (⟨VLe.refl _, VLe.refl _, VLe.refl _, trivial⟩), Eq.mp (by kernel_rfl) (bd48 a0 a1 a2 (hob))⟩
  · cases hDe

/-! ### spec.l1In -/
def pr35 (n : Int) (lo : Int) (hi : Int) : Prop := True
noncomputable def rs35 (n : Int) (lo : Int) (hi : Int) : V := .bool (decide (inR n lo hi))
noncomputable def sp35 : FSpec := fun args bin => match args, bin with
  | [.int .i64 a0, .int .i64 a1, .int .i64 a2], [] => some (pr35 a0 a1 a2, rs35 a0 a1 a2, [])
  | _, _ => none
noncomputable def D35 : Nat → Option (Bool × FSpec) := lk []
theorem da35 : SoundAll Tryz.prog D35 := soundAll_nil
noncomputable def cx35 (n : Int) (lo : Int) (hi : Int) : Cx := ⟨tt, D35, Tryz.f35.ntmps, [0, 1, 2, 6], [], [], fun _ => none, [], noM, []⟩
theorem bd35 (n : Int) (lo : Int) (hi : Int) (hpre : pr35 n lo hi) : bodyP (cx35 n lo hi) Tryz.f35 0 [.int .i64 (n), .int .i64 (lo), .int .i64 (hi)] (fun rr => VLe rr (rs35 n lo hi)) := by
  have key :
      ((tq (decide (n ≥ lo))) ∧
   ((tq (decide (n ≥ lo))) ∧
   (((true = true) →
   ((decide (n ≥ lo) = true) →
   (decide (n ≥ lo) = true))) ∧
   (∀ b : Bool,
   ((b = bif decide (n ≥ lo) then decide (n ≤ hi) else false) →
   (VLe (V.bool b) (V.bool (decide (inR n lo hi))))))))) := by
    repeat (first | (refine And.intro (fun h _ => h) ?_) | (refine And.intro (fun _ h => h) ?_) | (refine And.intro ?aa ?_; case aa => (simp []; done)) | (refine And.intro ?aa ?_; case aa => (simp_all []; done)) | (refine And.intro ?aa ?_; case aa => (intros; exact inK64 (by omega))) | (refine And.intro ?aa ?_; case aa => (intros; simp only [decide_eq_true_eq] at *; omega)) | (intro q hq))
    subst_vars
    refine vle_bool ?_
    rw [Bool.eq_iff_iff]
    simp
    try simp only [inR]
    try omega
  exact Eq.mp (by kernel_rfl) key
theorem so35 : Sound Tryz.prog 35 sp35 := by
  refine sound_of_body hmix (pol := 0) Tryz.func35 rfl (by kernel_rfl) fun args bin ob r bout hDe hob => ?_
  unfold sp35 at hDe
  split at hDe
  · rename_i a0 a1 a2
    cases hDe
    exact ⟨rfl, rfl, Nat.le_of_ble_eq_true (by kernel_rfl), cx35 a0 a1 a2, Eq.mp (by kernel_rfl) htt, Eq.mp (by kernel_rfl) da35, Eq.mp (by kernel_rfl) (noM_sound (P := Tryz.prog)), by kernel_rfl, [.int .i64 (a0), .int .i64 (a1), .int .i64 (a2)], args_of_vles (⟨VLe.refl _, VLe.refl _, VLe.refl _, trivial⟩), Eq.mp (by kernel_rfl) (bd35 a0 a1 a2 (hob))⟩
  · cases hDe

/-! ### impl.isF -/
def pr42 (f : Int) : Prop := True
noncomputable def rs42 (f : Int) : V := .bool (decide (okF f))
noncomputable def sp42 : FSpec := fun args bin => match args, bin with
  | [.int .i64 a0], [] => some (pr42 a0, rs42 a0, [])
  | _, _ => none
noncomputable def D42 : Nat → Option (Bool × FSpec) := lk [(48, (false, sp48))]
theorem da42 : SoundAll Tryz.prog D42 := soundAll_cons so48 (soundAll_nil)
noncomputable def cx42 (f : Int) : Cx := ⟨tt, D42, Tryz.f42.ntmps, [0, 2], [], [], fun _ => none, [], noM, []⟩
theorem bd42 (f : Int) (hpre : pr42 f) : bodyP (cx42 f) Tryz.f42 0 [.int .i64 (f)] (fun rr => VLe rr (rs42 f)) := by
  have key :
      ((pr48 f (1 : Int) (2 : Int)) ∧
   (VLe (V.bool (decide (inR f (1 : Int) (2 : Int)))) (V.bool (decide (okF f))))) := by
    repeat (first | (refine And.intro (fun h _ => h) ?_) | (refine And.intro (fun _ h => h) ?_) | (refine And.intro ?aa ?_; case aa => (simp [pr48]; done)) | (refine And.intro ?aa ?_; case aa => (simp_all [pr48]; done)) | (refine And.intro ?aa ?_; case aa => (intros; exact inK64 (by omega))) | (refine And.intro ?aa ?_; case aa => (intros; simp only [decide_eq_true_eq] at *; omega)) | (intro q hq))
    subst_vars
    refine vle_bool ?_
    rw [Bool.eq_iff_iff]
    simp
    try simp only [inR, okF]
    try omega
  exact Eq.mp (by kernel_rfl) key
theorem so42 : Sound Tryz.prog 42 sp42 := by
  refine sound_of_body hmix (pol := 0) Tryz.func42 rfl (by kernel_rfl) fun args bin ob r bout hDe hob => ?_
  unfold sp42 at hDe
  split at hDe
  · rename_i a0
    cases hDe
    exact ⟨rfl, rfl, Nat.le_of_ble_eq_true (by kernel_rfl), cx42 a0, Eq.mp (by kernel_rfl) htt, Eq.mp (by kernel_rfl) da42, Eq.mp (by kernel_rfl) (noM_sound (P := Tryz.prog)), by kernel_rfl, [.int .i64 (a0)], args_of_vles (⟨VLe.refl _, trivial⟩), Eq.mp (by kernel_rfl) (bd42 a0 (hob))⟩
  · cases hDe

/-! ### spec.l8F -/
def pr32 (f : Int) : Prop := True
noncomputable def rs32 (f : Int) : V := .bool (decide (okF f))
noncomputable def sp32 : FSpec := fun args bin => match args, bin with
  | [.int .i64 a0], [] => some (pr32 a0, rs32 a0, [])
  | _, _ => none
noncomputable def D32 : Nat → Option (Bool × FSpec) := lk [(35, (false, sp35))]
theorem da32 : SoundAll Tryz.prog D32 := soundAll_cons so35 (soundAll_nil)
noncomputable def cx32 (f : Int) : Cx := ⟨tt, D32, Tryz.f32.ntmps, [0, 2], [], [], fun _ => none, [], noM, []⟩
theorem bd32 (f : Int) (hpre : pr32 f) : bodyP (cx32 f) Tryz.f32 0 [.int .i64 (f)] (fun rr => VLe rr (rs32 f)) := by
  have key :
      ((pr35 f (1 : Int) (2 : Int)) ∧
   (VLe (V.bool (decide (inR f (1 : Int) (2 : Int)))) (V.bool (decide (okF f))))) := by
    repeat (first | (refine And.intro (fun h _ => h) ?_) | (refine And.intro (fun _ h => h) ?_) | (refine And.intro ?aa ?_; case aa => (simp [pr35]; done)) | (refine And.intro ?aa ?_; case aa => (simp_all [pr35]; done)) | (refine And.intro ?aa ?_; case aa => (intros; exact inK64 (by omega))) | (refine And.intro ?aa ?_; case aa => (intros; simp only [decide_eq_true_eq] at *; omega)) | (intro q hq))
    subst_vars
    refine vle_bool ?_
    rw [Bool.eq_iff_iff]
    simp
    try simp only [inR, okF]
    try omega
  exact Eq.mp (by kernel_rfl) key
theorem so32 : Sound Tryz.prog 32 sp32 := by
  refine sound_of_body hmix (pol := 0) Tryz.func32 rfl (by kernel_rfl) fun args bin ob r bout hDe hob => ?_
  unfold sp32 at hDe
  split at hDe
  · rename_i a0
    cases hDe
    exact ⟨rfl, rfl, Nat.le_of_ble_eq_true (by kernel_rfl), cx32 a0, Eq.mp (by kernel_rfl) htt, Eq.mp (by kernel_rfl) da32, Eq.mp (by kernel_rfl) (noM_sound (P := Tryz.prog)), by kernel_rfl, [.int .i64 (a0)], args_of_vles (⟨VLe.refl _, trivial⟩), Eq.mp (by kernel_rfl) (bd32 a0 (hob))⟩
  · cases hDe

/-! ### impl.many -/
def pr65 (f : Int) : Prop := okF f
noncomputable def rs65 (f : Int) : V := .int .i64 (3 * f + 1)
noncomputable def sp65 : FSpec := fun args bin => match args, bin with
  | [.int .i64 a0], [] => some (pr65 a0, rs65 a0, [])
  | _, _ => none
noncomputable def D65 : Nat → Option (Bool × FSpec) := lk []
theorem da65 : SoundAll Tryz.prog D65 := soundAll_nil
noncomputable def cx65 (f : Int) : Cx := ⟨tt, D65, Tryz.f65.ntmps, [0, 2], [], [], fun _ => none, [], noM, []⟩
theorem bd65 (f : Int) (hpre : pr65 f) : bodyP (cx65 f) Tryz.f65 0 [.int .i64 (f)] (fun rr => VLe rr (rs65 f)) := by
  have key :
      ((inK IntKind.i64 ((3 : Int) * f)) ∧
   ((inK IntKind.i64 ((3 : Int) * f + (1 : Int))) ∧
   (VLe (V.int IntKind.i64 ((3 : Int) * f + (1 : Int))) (V.int IntKind.i64 ((3 : Int) * f + (1 : Int)))))) := by
    unfold pr65 okF at hpre
    exact ⟨inK64 (by omega), inK64 (by omega), VLe.refl _⟩
  exact Eq.mp (by kernel_rfl) key
theorem so65 : Sound Tryz.prog 65 sp65 := by
  refine sound_of_body hmix (pol := 0) Tryz.func65 rfl (by kernel_rfl) fun args bin ob r bout hDe hob => ?_
  unfold sp65 at hDe
  split at hDe
  · rename_i a0
    cases hDe
    exact ⟨rfl, rfl, Nat.le_of_ble_eq_true (by kernel_rfl), cx65 a0, Eq.mp (by kernel_rfl) htt, Eq.mp (by kernel_rfl) da65, Eq.mp (by kernel_rfl) (noM_sound (P := Tryz.prog)), by kernel_rfl, [.int .i64 (a0)], args_of_vles (⟨VLe.refl _, trivial⟩), Eq.mp (by kernel_rfl) (bd65 a0 (hob))⟩
  · cases hDe

/-! ### impl.isReplica -/
def pr46 (f : Int) (id : Int) : Prop := okF f
noncomputable def rs46 (f : Int) (id : Int) : V := .bool (decide (inR id 1 (3 * f + 1)))
noncomputable def sp46 : FSpec := fun args bin => match args, bin with
  | [.int .i64 a0, .int .i64 a1], [] => some (pr46 a0 a1, rs46 a0 a1, [])
  | _, _ => none
noncomputable def D46 : Nat → Option (Bool × FSpec) := lk [(65, (false, sp65)), (48, (false, sp48))]
theorem da46 : SoundAll Tryz.prog D46 := soundAll_cons so65 (soundAll_cons so48 (soundAll_nil))
noncomputable def cx46 (f : Int) (id : Int) : Cx := ⟨tt, D46, Tryz.f46.ntmps, [0, 1, 4], [], [], fun _ => none, [], noM, []⟩
theorem bd46 (f : Int) (id : Int) (hpre : pr46 f id) : bodyP (cx46 f id) Tryz.f46 0 [.int .i64 (f), .int .i64 (id)] (fun rr => VLe rr (rs46 f id)) := by
  have key :
      ((pr65 f) ∧
   ((pr48 id (1 : Int) ((3 : Int) * f + (1 : Int))) ∧
   (VLe (V.bool (decide (inR id (1 : Int) ((3 : Int) * f + (1 : Int)))))
   (V.bool (decide (inR id (1 : Int) ((3 : Int) * f + (1 : Int)))))))) := by
    exact ⟨hpre, trivial, VLe.refl _⟩
  exact Eq.mp (by kernel_rfl) key
theorem so46 : Sound Tryz.prog 46 sp46 := by
  refine sound_of_body hmix (pol := 0) Tryz.func46 rfl (by kernel_rfl) fun args bin ob r bout hDe hob => ?_
  unfold sp46 at hDe
  split at hDe
  · rename_i a0 a1
    cases hDe
    exact ⟨rfl, rfl, Nat.le_of_ble_eq_true (by kernel_rfl), cx46 a0 a1, Eq.mp (by kernel_rfl) htt, Eq.mp (by kernel_rfl) da46, Eq.mp (by kernel_rfl) (noM_sound (P := Tryz.prog)), by kernel_rfl, [.int .i64 (a0), .int .i64 (a1)], args_of_vles (⟨VLe.refl _, VLe.refl _, trivial⟩), Eq.mp (by kernel_rfl) (bd46 a0 a1 (hob))⟩
  · cases hDe

/-! ### spec.l8Id -/
def pr34 (f : Int) (id : Int) : Prop := okF f
noncomputable def rs34 (f : Int) (id : Int) : V := .bool (decide (inR id 1 (3 * f + 1)))
noncomputable def sp34 : FSpec := fun args bin => match args, bin with
  | [.int .i64 a0, .int .i64 a1], [] => some (pr34 a0 a1, rs34 a0 a1, [])
  | _, _ => none
noncomputable def D34 : Nat → Option (Bool × FSpec) := lk [(35, (false, sp35))]
theorem da34 : SoundAll Tryz.prog D34 := soundAll_cons so35 (soundAll_nil)
noncomputable def cx34 (f : Int) (id : Int) : Cx := ⟨tt, D34, Tryz.f34.ntmps, [0, 1, 4], [], [], fun _ => none, [], noM, []⟩
theorem bd34 (f : Int) (id : Int) (hpre : pr34 f id) : bodyP (cx34 f id) Tryz.f34 0 [.int .i64 (f), .int .i64 (id)] (fun rr => VLe rr (rs34 f id)) := by
  have key :
      ((inK IntKind.i64 ((3 : Int) * f)) ∧
   ((inK IntKind.i64 ((3 : Int) * f + (1 : Int))) ∧
   ((pr35 id (1 : Int) ((3 : Int) * f + (1 : Int))) ∧
   (VLe (V.bool (decide (inR id (1 : Int) ((3 : Int) * f + (1 : Int)))))
   (V.bool (decide (inR id (1 : Int) ((3 : Int) * f + (1 : Int))))))))) := by
    unfold pr34 okF at hpre
    exact ⟨inK64 (by omega), inK64 (by omega), trivial, VLe.refl _⟩
  exact Eq.mp (by kernel_rfl) key
theorem so34 : Sound Tryz.prog 34 sp34 := by
  refine sound_of_body hmix (pol := 0) Tryz.func34 rfl (by kernel_rfl) fun args bin ob r bout hDe hob => ?_
  unfold sp34 at hDe
  split at hDe
  · rename_i a0 a1
    cases hDe
    exact ⟨rfl, rfl, Nat.le_of_ble_eq_true (by kernel_rfl), cx34 a0 a1, Eq.mp (by kernel_rfl) htt, Eq.mp (by kernel_rfl) da34, Eq.mp (by kernel_rfl) (noM_sound (P := Tryz.prog)), by kernel_rfl, [.int .i64 (a0), .int .i64 (a1)], args_of_vles (⟨VLe.refl _, VLe.refl _, trivial⟩), Eq.mp (by kernel_rfl) (bd34 a0 a1 (hob))⟩
  · cases hDe

/-! ### impl.isView -/
def pr47 (n : Int) : Prop := True
noncomputable def rs47 (n : Int) : V := .bool (decide (inR n 0 20))
noncomputable def sp47 : FSpec := fun args bin => match args, bin with
  | [.int .i64 a0], [] => some (pr47 a0, rs47 a0, [])
  | _, _ => none
noncomputable def D47 : Nat → Option (Bool × FSpec) := lk [(48, (false, sp48))]
theorem da47 : SoundAll Tryz.prog D47 := soundAll_cons so48 (soundAll_nil)
noncomputable def cx47 (n : Int) : Cx := ⟨tt, D47, Tryz.f47.ntmps, [0, 2], [], [], fun _ => none, [], noM, []⟩
theorem bd47 (n : Int) (hpre : pr47 n) : bodyP (cx47 n) Tryz.f47 0 [.int .i64 (n)] (fun rr => VLe rr (rs47 n)) := by
  have key :
      ((pr48 n (0 : Int) (20 : Int)) ∧
   (VLe (V.bool (decide (inR n (0 : Int) (20 : Int)))) (V.bool (decide (inR n (0 : Int) (20 : Int)))))) := by
    exact ⟨trivial, VLe.refl _⟩
  exact Eq.mp (by kernel_rfl) key
theorem so47 : Sound Tryz.prog 47 sp47 := by
  refine sound_of_body hmix (pol := 0) Tryz.func47 rfl (by kernel_rfl) fun args bin ob r bout hDe hob => ?_
  unfold sp47 at hDe
  split at hDe
  · rename_i a0
    cases hDe
    exact ⟨rfl, rfl, Nat.le_of_ble_eq_true (by kernel_rfl), cx47 a0, Eq.mp (by kernel_rfl) htt, Eq.mp (by kernel_rfl) da47, Eq.mp (by kernel_rfl) (noM_sound (P := Tryz.prog)), by kernel_rfl, [.int .i64 (a0)], args_of_vles (⟨VLe.refl _, trivial⟩), Eq.mp (by kernel_rfl) (bd47 a0 (hob))⟩
  · cases hDe

/-! ### impl.isSlot -/
def pr63 (n : Int) : Prop := True
noncomputable def rs63 (n : Int) : V := .bool (decide (inR n 1 30))
noncomputable def sp63 : FSpec := fun args bin => match args, bin with
  | [.int .i64 a0], [] => some (pr63 a0, rs63 a0, [])
  | _, _ => none
noncomputable def D63 : Nat → Option (Bool × FSpec) := lk [(48, (false, sp48))]
theorem da63 : SoundAll Tryz.prog D63 := soundAll_cons so48 (soundAll_nil)
noncomputable def cx63 (n : Int) : Cx := ⟨tt, D63, Tryz.f63.ntmps, [0, 2], [], [], fun _ => none, [], noM, []⟩
theorem bd63 (n : Int) (hpre : pr63 n) : bodyP (cx63 n) Tryz.f63 0 [.int .i64 (n)] (fun rr => VLe rr (rs63 n)) := by
  have key :
      ((pr48 n (1 : Int) (30 : Int)) ∧
   (VLe (V.bool (decide (inR n (1 : Int) (30 : Int)))) (V.bool (decide (inR n (1 : Int) (30 : Int)))))) := by
    exact ⟨trivial, VLe.refl _⟩
  exact Eq.mp (by kernel_rfl) key
theorem so63 : Sound Tryz.prog 63 sp63 := by
  refine sound_of_body hmix (pol := 0) Tryz.func63 rfl (by kernel_rfl) fun args bin ob r bout hDe hob => ?_
  unfold sp63 at hDe
  split at hDe
  · rename_i a0
    cases hDe
    exact ⟨rfl, rfl, Nat.le_of_ble_eq_true (by kernel_rfl), cx63 a0, Eq.mp (by kernel_rfl) htt, Eq.mp (by kernel_rfl) da63, Eq.mp (by kernel_rfl) (noM_sound (P := Tryz.prog)), by kernel_rfl, [.int .i64 (a0)], args_of_vles (⟨VLe.refl _, trivial⟩), Eq.mp (by kernel_rfl) (bd63 a0 (hob))⟩
  · cases hDe

/-! ### impl.isValue -/
def pr64 (n : Int) : Prop := True
noncomputable def rs64 (n : Int) : V := .bool (decide (inR n 0 12))
noncomputable def sp64 : FSpec := fun args bin => match args, bin with
  | [.int .i64 a0], [] => some (pr64 a0, rs64 a0, [])
  | _, _ => none
noncomputable def D64 : Nat → Option (Bool × FSpec) := lk [(48, (false, sp48))]
theorem da64 : SoundAll Tryz.prog D64 := soundAll_cons so48 (soundAll_nil)
noncomputable def cx64 (n : Int) : Cx := ⟨tt, D64, Tryz.f64.ntmps, [0, 2], [], [], fun _ => none, [], noM, []⟩
theorem bd64 (n : Int) (hpre : pr64 n) : bodyP (cx64 n) Tryz.f64 0 [.int .i64 (n)] (fun rr => VLe rr (rs64 n)) := by
  have key :
      ((pr48 n (0 : Int) (12 : Int)) ∧
   (VLe (V.bool (decide (inR n (0 : Int) (12 : Int)))) (V.bool (decide (inR n (0 : Int) (12 : Int)))))) := by
    exact ⟨trivial, VLe.refl _⟩
  exact Eq.mp (by kernel_rfl) key
theorem so64 : Sound Tryz.prog 64 sp64 := by
  refine sound_of_body hmix (pol := 0) Tryz.func64 rfl (by kernel_rfl) fun args bin ob r bout hDe hob => ?_
  unfold sp64 at hDe
  split at hDe
  · rename_i a0
    cases hDe
    exact ⟨rfl, rfl, Nat.le_of_ble_eq_true (by kernel_rfl), cx64 a0, Eq.mp (by kernel_rfl) htt, Eq.mp (by kernel_rfl) da64, Eq.mp (by kernel_rfl) (noM_sound (P := Tryz.prog)), by kernel_rfl, [.int .i64 (a0)], args_of_vles (⟨VLe.refl _, trivial⟩), Eq.mp (by kernel_rfl) (bd64 a0 (hob))⟩
  · cases hDe

/-! ### impl.isSlotted -/
def pr62 (n : Int) : Prop := True
noncomputable def rs62 (n : Int) : V := .bool (decide (inR n 1 3))
noncomputable def sp62 : FSpec := fun args bin => match args, bin with
  | [.int .i64 a0], [] => some (pr62 a0, rs62 a0, [])
  | _, _ => none
noncomputable def D62 : Nat → Option (Bool × FSpec) := lk [(48, (false, sp48))]
theorem da62 : SoundAll Tryz.prog D62 := soundAll_cons so48 (soundAll_nil)
noncomputable def cx62 (n : Int) : Cx := ⟨tt, D62, Tryz.f62.ntmps, [0, 2], [], [], fun _ => none, [], noM, []⟩
theorem bd62 (n : Int) (hpre : pr62 n) : bodyP (cx62 n) Tryz.f62 0 [.int .i64 (n)] (fun rr => VLe rr (rs62 n)) := by
  have key :
      ((pr48 n (1 : Int) (3 : Int)) ∧
   (VLe (V.bool (decide (inR n (1 : Int) (3 : Int)))) (V.bool (decide (inR n (1 : Int) (3 : Int)))))) := by
    exact ⟨trivial, VLe.refl _⟩
  exact Eq.mp (by kernel_rfl) key
theorem so62 : Sound Tryz.prog 62 sp62 := by
  refine sound_of_body hmix (pol := 0) Tryz.func62 rfl (by kernel_rfl) fun args bin ob r bout hDe hob => ?_
  unfold sp62 at hDe
  split at hDe
  · rename_i a0
    cases hDe
    exact ⟨rfl, rfl, Nat.le_of_ble_eq_true (by kernel_rfl), cx62 a0, Eq.mp (by kernel_rfl) htt, Eq.mp (by kernel_rfl) da62, Eq.mp (by kernel_rfl) (noM_sound (P := Tryz.prog)), by kernel_rfl, [.int .i64 (a0)], args_of_vles (⟨VLe.refl _, trivial⟩), Eq.mp (by kernel_rfl) (bd62 a0 (hob))⟩
  · cases hDe

/-! ### spec.l8Bare -/
def pr81 (m : Msg) : Prop := True
noncomputable def rs81 (m : Msg) : V := .bool (decide (bare m))
noncomputable def sp81 : FSpec := fun args bin => match args, bin with
  | [a0], [] => some (VLe a0 (encPMsg 1 ((decPMsg a0))) ∧ pr81 (decPMsg a0), rs81 (decPMsg a0), [])
  | _, _ => none
noncomputable def D81 : Nat → Option (Bool × FSpec) := lk [(35, (false, sp35))]
theorem da81 : SoundAll Tryz.prog D81 := soundAll_cons so35 (soundAll_nil)
noncomputable def cx81 (m : Msg) : Cx := ⟨tt, D81, Tryz.f81.ntmps, [0, 2, 3], [], [], fun _ => none, [], noM, []⟩
theorem bd81 (m : Msg) (hpre : pr81 m) : bodyP (cx81 m) Tryz.f81 0 [encPMsg 1 (m)] (fun rr => VLe rr (rs81 m)) := by
  have key :
      ((pr35 (Msg.kind m) (1 : Int) (3 : Int)) ∧
   ((pr35 (Msg.kind m) (1 : Int) (5 : Int)) ∧
   ((tq (decide (inR (Msg.kind m) (1 : Int) (5 : Int)))) ∧
   ((tq (decide (inR (Msg.kind m) (1 : Int) (5 : Int)) && !decide (inR (Msg.kind m) (1 : Int) (3 : Int)))) ∧
   ((tq (decide (inR (Msg.kind m) (1 : Int) (5 : Int)) && !decide (inR (Msg.kind m) (1 : Int) (3 : Int)))) ∧
   ((tq (decide (inR (Msg.kind m) (1 : Int) (5 : Int)) && !decide (inR (Msg.kind m) (1 : Int) (3 : Int)))) ∧
   ((tq (decide (inR (Msg.kind m) (1 : Int) (5 : Int)) && !decide (inR (Msg.kind m) (1 : Int) (3 : Int)))) ∧
   ((tq (decide (inR (Msg.kind m) (1 : Int) (5 : Int)) && !decide (inR (Msg.kind m) (1 : Int) (3 : Int)))) ∧
   ((tq (decide (inR (Msg.kind m) (1 : Int) (5 : Int)) && !decide (inR (Msg.kind m) (1 : Int) (3 : Int)) &&
   Msg.slot m == (0 : Int))) ∧
   ((tq (decide (inR (Msg.kind m) (1 : Int) (5 : Int)) && !decide (inR (Msg.kind m) (1 : Int) (3 : Int)) &&
   Msg.slot m == (0 : Int))) ∧
   ((tq (decide (inR (Msg.kind m) (1 : Int) (5 : Int)) && !decide (inR (Msg.kind m) (1 : Int) (3 : Int)) &&
   Msg.slot m == (0 : Int))) ∧
   ((tq (decide (inR (Msg.kind m) (1 : Int) (5 : Int)) && !decide (inR (Msg.kind m) (1 : Int) (3 : Int)) &&
   Msg.slot m == (0 : Int))) ∧
   ((tq (decide (inR (Msg.kind m) (1 : Int) (5 : Int)) && !decide (inR (Msg.kind m) (1 : Int) (3 : Int)))) ∧
   ((((decide (inR (Msg.kind m) (1 : Int) (5 : Int)) && !decide (inR (Msg.kind m) (1 : Int) (3 : Int))) = true) →
   (((decide (inR (Msg.kind m) (1 : Int) (5 : Int)) && !decide (inR (Msg.kind m) (1 : Int) (3 : Int))) = true) →
   (((Msg.slot m == (0 : Int)) = true) →
   ((decide (inR (Msg.kind m) (1 : Int) (5 : Int)) && !decide (inR (Msg.kind m) (1 : Int) (3 : Int)) &&
   Msg.slot m == (0 : Int)) =
   true)))) ∧
   (∀ b : Bool,
   ((b = bif Msg.slot m == (0 : Int) then Msg.value m == (0 : Int) else false) →
   ((tq (decide (inR (Msg.kind m) (1 : Int) (5 : Int)))) ∧
   (((decide (inR (Msg.kind m) (1 : Int) (5 : Int)) = true) →
   ((decide (inR (Msg.kind m) (1 : Int) (5 : Int)) = true) →
   ((decide (inR (Msg.kind m) (1 : Int) (3 : Int)) = false) →
   ((decide (inR (Msg.kind m) (1 : Int) (5 : Int)) && !decide (inR (Msg.kind m) (1 : Int) (3 : Int))) = true)))) ∧
   (∀ b_1 : Bool,
   ((b_1 = bif decide (inR (Msg.kind m) (1 : Int) (3 : Int)) then true else b) →
   (((true = true) →
   ((decide (inR (Msg.kind m) (1 : Int) (5 : Int)) = true) →
   (decide (inR (Msg.kind m) (1 : Int) (5 : Int)) = true))) ∧
   (∀ b_2 : Bool,
   ((b_2 = bif decide (inR (Msg.kind m) (1 : Int) (5 : Int)) then b_1 else false) →
   ((tq (b_2)) ∧
   ((tq (b_2)) ∧
   ((tq (b_2)) ∧
   ((tq (b_2)) ∧
   ((tq (b_2)) ∧
   ((tq (b_2 && !Msg.kind m == (4 : Int))) ∧
   ((tq (b_2 && !Msg.kind m == (4 : Int))) ∧
   ((tq (b_2 && !Msg.kind m == (4 : Int))) ∧
   ((tq (b_2 && !Msg.kind m == (4 : Int))) ∧
   ((tq (b_2 && !Msg.kind m == (4 : Int))) ∧
   ((tq (b_2)) ∧
   (((b_2 = true) →
   ((b_2 = true) →
   (((Msg.kind m == (4 : Int)) = false) →
   ((b_2 && !Msg.kind m == (4 : Int)) = true)))) ∧
   (∀ b_3 : Bool,
   ((b_3 = bif Msg.kind m == (4 : Int) then true else (↑(List.length (Msg.certs m)) : Int) == (0 : Int)) →
   (((true = true) →
   ((b_2 = true) →
   (b_2 = true))) ∧
   (∀ b_4 : Bool,
   ((b_4 = bif b_2 then b_3 else false) →
   ((tq (b_4)) ∧
   ((tq (b_4)) ∧
   ((tq (b_4)) ∧
   ((tq (b_4)) ∧
   ((tq (b_4)) ∧
   ((tq (b_4 && !Msg.kind m == (5 : Int))) ∧
   ((tq (b_4 && !Msg.kind m == (5 : Int))) ∧
   ((tq (b_4 && !Msg.kind m == (5 : Int))) ∧
   ((tq (b_4 && !Msg.kind m == (5 : Int))) ∧
   ((tq (b_4 && !Msg.kind m == (5 : Int))) ∧
   ((tq (b_4)) ∧
   (((b_4 = true) →
   ((b_4 = true) →
   (((Msg.kind m == (5 : Int)) = false) →
   ((b_4 && !Msg.kind m == (5 : Int)) = true)))) ∧
   (∀ b_5 : Bool,
   ((b_5 = bif Msg.kind m == (5 : Int) then true else (↑(List.length (Msg.refs m)) : Int) == (0 : Int)) →
   (((true = true) →
   ((b_4 = true) →
   (b_4 = true))) ∧
   (∀ b_6 : Bool,
   ((b_6 = bif b_4 then b_5 else false) →
   (VLe (V.bool b_6) (V.bool (decide (bare m))))))))))))))))))))))))))))))))))))))))))))))))))))))))))))) := by
    repeat (first | (refine And.intro (fun h _ => h) ?_) | (refine And.intro (fun _ h => h) ?_) | (refine And.intro ?aa ?_; case aa => (simp [pr35]; done)) | (refine And.intro ?aa ?_; case aa => (simp_all [pr35]; done)) | (refine And.intro ?aa ?_; case aa => (intros; exact inK64 (by omega))) | (refine And.intro ?aa ?_; case aa => (intros; simp only [decide_eq_true_eq] at *; omega)) | (intro q hq))
    subst_vars
    refine vle_bool ?_
    rw [Bool.eq_iff_iff]
    simp
    try simp only [bare, inR, List.length_eq_zero_iff, and_assoc]
    try omega
  exact Eq.mp (by kernel_rfl) key
theorem so81 : Sound Tryz.prog 81 sp81 := by
  refine sound_of_body hmix (pol := 0) Tryz.func81 rfl (by kernel_rfl) fun args bin ob r bout hDe hob => ?_
  unfold sp81 at hDe
  split at hDe
  · rename_i a0
    cases hDe
    exact ⟨rfl, rfl, Nat.le_of_ble_eq_true (by kernel_rfl), cx81 (decPMsg a0), Eq.mp (by kernel_rfl) htt, Eq.mp (by kernel_rfl) da81, Eq.mp (by kernel_rfl) (noM_sound (P := Tryz.prog)), by kernel_rfl, [encPMsg 1 ((decPMsg a0))], args_of_vles (⟨hob.1, trivial⟩), Eq.mp (by kernel_rfl) (bd81 (decPMsg a0) (hob.2))⟩
  · cases hDe

/-! ### impl.msgFault$1 -/
def pr67 (c : Cert) (m : Msg) : Prop := inR m.view 0 20
noncomputable def rs67 (c : Cert) (m : Msg) : V := .bool (decide (¬ goodC m c))
noncomputable def sp67 : FSpec := fun args bin => match args, bin with
  | [a0, a1], [] => some (VLe a0 (encCert 1 ((decCert a0))) ∧ VLe a1 (encPMsg 1 ((decPMsg a1))) ∧ pr67 (decCert a0) (decPMsg a1), rs67 (decCert a0) (decPMsg a1), [])
  | _, _ => none
noncomputable def D67 : Nat → Option (Bool × FSpec) := lk [(48, (false, sp48)), (63, (false, sp63)), (64, (false, sp64))]
theorem da67 : SoundAll Tryz.prog D67 := soundAll_cons so48 (soundAll_cons so63 (soundAll_cons so64 (soundAll_nil)))
noncomputable def cx67 (c : Cert) (m : Msg) : Cx := ⟨tt, D67, Tryz.f67.ntmps, [0, 1, 2, 3], [], [], fun _ => none, [], noM, []⟩
theorem bd67 (c : Cert) (m : Msg) (hpre : pr67 c m) : bodyP (cx67 c m) Tryz.f67 0 [encCert 1 (c), encPMsg 1 (m)] (fun rr => VLe rr (rs67 c m)) := by
  have key :
      ((pr63 (Cert.slot c)) ∧
   ((tq (!!decide (inR (Cert.slot c) (1 : Int) (30 : Int)))) ∧
   ((tq (!!decide (inR (Cert.slot c) (1 : Int) (30 : Int)))) ∧
   ((tq (!!decide (inR (Cert.slot c) (1 : Int) (30 : Int)))) ∧
   ((((!!decide (inR (Cert.slot c) (1 : Int) (30 : Int))) = true) →
   (inK IntKind.i64 (Msg.view m - (1 : Int)))) ∧
   ((tq (!!decide (inR (Cert.slot c) (1 : Int) (30 : Int)))) ∧
   ((tq (!!decide (inR (Cert.slot c) (1 : Int) (30 : Int)))) ∧
   ((((!!decide (inR (Cert.slot c) (1 : Int) (30 : Int))) = true) →
   (pr48 (Cert.view c) (0 : Int) (Msg.view m - (1 : Int)))) ∧
   ((tq (!!decide (inR (Cert.slot c) (1 : Int) (30 : Int)))) ∧
   (((true = true) →
   (((!decide (inR (Cert.slot c) (1 : Int) (30 : Int))) = false) →
   ((!!decide (inR (Cert.slot c) (1 : Int) (30 : Int))) = true))) ∧
   (∀ b : Bool,
   ((b =
   bif !decide (inR (Cert.slot c) (1 : Int) (30 : Int)) then true
   else !decide (inR (Cert.view c) (0 : Int) (Msg.view m - (1 : Int)))) →
   ((tq (!b)) ∧
   ((tq (!b)) ∧
   ((((!b) = true) →
   (pr64 (Cert.value c))) ∧
   ((tq (!b)) ∧
   (((true = true) →
   ((b = false) →
   ((!b) = true))) ∧
   (∀ b_1 : Bool,
   ((b_1 = bif b then true else !decide (inR (Cert.value c) (0 : Int) (12 : Int))) →
   (VLe (V.bool b_1) (V.bool (decide ¬goodC m c)))))))))))))))))))))) := by
    unfold pr67 inR at hpre
    repeat (first | (refine And.intro (fun h _ => h) ?_) | (refine And.intro (fun _ h => h) ?_) | (refine And.intro ?aa ?_; case aa => (simp [pr48, pr63, pr64]; done)) | (refine And.intro ?aa ?_; case aa => (simp_all [pr48, pr63, pr64]; done)) | (refine And.intro ?aa ?_; case aa => (intros; exact inK64 (by omega))) | (refine And.intro ?aa ?_; case aa => (intros; simp only [decide_eq_true_eq] at *; omega)) | (intro q hq))
    subst_vars
    refine vle_bool ?_
    rw [Bool.eq_iff_iff]
    simp
    try simp only [goodC, inR]
    try omega
  exact Eq.mp (by kernel_rfl) key
theorem so67 : Sound Tryz.prog 67 sp67 := by
  refine sound_of_body hmix (pol := 0) Tryz.func67 rfl (by kernel_rfl) fun args bin ob r bout hDe hob => ?_
  unfold sp67 at hDe
  split at hDe
  · rename_i a0 a1
    cases hDe
    exact ⟨rfl, rfl, Nat.le_of_ble_eq_true (by kernel_rfl), cx67 (decCert a0) (decPMsg a1), Eq.mp (by kernel_rfl) htt, Eq.mp (by kernel_rfl) da67, Eq.mp (by kernel_rfl) (noM_sound (P := Tryz.prog)), by kernel_rfl, [encCert 1 ((decCert a0)), encPMsg 1 ((decPMsg a1))], args_of_vles (⟨hob.1, hob.2.1, trivial⟩), Eq.mp (by kernel_rfl) (bd67 (decCert a0) (decPMsg a1) (hob.2.2))⟩
  · cases hDe

/-! ### impl.msgFault$2 -/
def pr69 (r : Int) : Prop := True
noncomputable def rs69 (r : Int) : V := .bool (decide (¬ goodR r))
noncomputable def sp69 : FSpec := fun args bin => match args, bin with
  | [.int .i64 a0], [] => some (pr69 a0, rs69 a0, [])
  | _, _ => none
noncomputable def D69 : Nat → Option (Bool × FSpec) := lk [(48, (false, sp48))]
theorem da69 : SoundAll Tryz.prog D69 := soundAll_cons so48 (soundAll_nil)
noncomputable def cx69 (r : Int) : Cx := ⟨tt, D69, Tryz.f69.ntmps, [0, 2], [], [], fun _ => none, [], noM, []⟩
theorem bd69 (r : Int) (hpre : pr69 r) : bodyP (cx69 r) Tryz.f69 0 [.int .i64 (r)] (fun rr => VLe rr (rs69 r)) := by
  have key :
      ((pr48 r (0 : Int) (239 : Int)) ∧
   (VLe (V.bool !decide (inR r (0 : Int) (239 : Int))) (V.bool (decide ¬goodR r)))) := by
    repeat (first | (refine And.intro (fun h _ => h) ?_) | (refine And.intro (fun _ h => h) ?_) | (refine And.intro ?aa ?_; case aa => (simp [pr48]; done)) | (refine And.intro ?aa ?_; case aa => (simp_all [pr48]; done)) | (refine And.intro ?aa ?_; case aa => (intros; exact inK64 (by omega))) | (refine And.intro ?aa ?_; case aa => (intros; simp only [decide_eq_true_eq] at *; omega)) | (intro q hq))
    subst_vars
    refine vle_bool ?_
    rw [Bool.eq_iff_iff]
    simp
    try simp only [goodR, inR]
    try omega
  exact Eq.mp (by kernel_rfl) key
theorem so69 : Sound Tryz.prog 69 sp69 := by
  refine sound_of_body hmix (pol := 0) Tryz.func69 rfl (by kernel_rfl) fun args bin ob r bout hDe hob => ?_
  unfold sp69 at hDe
  split at hDe
  · rename_i a0
    cases hDe
    exact ⟨rfl, rfl, Nat.le_of_ble_eq_true (by kernel_rfl), cx69 a0, Eq.mp (by kernel_rfl) htt, Eq.mp (by kernel_rfl) da69, Eq.mp (by kernel_rfl) (noM_sound (P := Tryz.prog)), by kernel_rfl, [.int .i64 (a0)], args_of_vles (⟨VLe.refl _, trivial⟩), Eq.mp (by kernel_rfl) (bd69 a0 (hob))⟩
  · cases hDe

/-! ### slices.IndexFunc(()loop.example/g00369/impl.Cert,loop.example/g00369/impl.Cert)@impl.msgFault$1 -/
def pr89_67 (xs : List Cert) (m : Msg) : Prop := xs.length ≤ maxLen ∧ (inR m.view 0 20)
noncomputable def rs89_67 (xs : List Cert) (m : Msg) : V := .int .i64 (idxF (fun c => decide (¬ goodC m c)) xs)
noncomputable def sp89_67 : FSpec := fun args bin => match args, bin with
  | [a0, .fn 67 [a1]], [] => some (VLe a0 (encL (encCert 1) 1 (((decL decCert) a0))) ∧ VLe a1 (encPMsg 1 ((decPMsg a1))) ∧ pr89_67 ((decL decCert) a0) (decPMsg a1), rs89_67 ((decL decCert) a0) (decPMsg a1), [])
  | _, _ => none
noncomputable def in89_67_2 (xs : List Cert) (m : Msg) : LoopInv :=
  ⟨Nat, fun i => ⟨[(0, encL (encCert 1) 1 xs), (1, .fn 67 [encPMsg 1 (m)]), (7, .int .i64 xs.length), (8, .int .i64 i)], []⟩,
    fun i => i ≤ xs.length ∧ ∀ j, j < i → (fun c => decide (¬ goodC m c)) (xs.getD j default) = false, fun i => xs.length - i⟩
noncomputable def iv89_67 (xs : List Cert) (m : Msg) : Nat → Option LoopInv := fun rg_ => match rg_ with
  | 2 => some (in89_67_2 xs m)
  | _ => none
noncomputable def D89_67 : Nat → Option (Bool × FSpec) := lk [(67, (false, sp67))]
theorem da89_67 : SoundAll Tryz.prog D89_67 := soundAll_cons so67 (soundAll_nil)
noncomputable def cx89_67 (xs : List Cert) (m : Msg) : Cx := ⟨tt, D89_67, Tryz.f89.ntmps, [0, 1, 4, 5, 7, 8, 9, 16], [(2, ⟨[(0, none), (1, none), (7, none), (8, none)], []⟩)], [], iv89_67 xs m, [], noM, []⟩
theorem bd89_67 (xs : List Cert) (m : Msg) (hpre : pr89_67 xs m) : bodyP (cx89_67 xs m) Tryz.f89 0 [encL (encCert 1) 1 (xs), .fn 67 [encPMsg 1 (m)]] (fun rr => VLe rr (rs89_67 xs m)) := by
  have key :
      ((∃ x : Nat, ((SLe
   (AS.mk
   [(0, encL (encCert 1) 1 xs), (1, V.fn (67 : FuncId) [encPMsg 1 m]),
   (7, V.int IntKind.i64 (↑(List.length xs) : Int)), (8, V.int IntKind.i64 (0 : Int))]
   [])
   (AS.mk
   [(0, encL (encCert 1) 1 xs), (1, V.fn (67 : FuncId) [encPMsg 1 m]),
   (7, V.int IntKind.i64 (↑(List.length xs) : Int)), (8, V.int IntKind.i64 (↑x : Int))]
   [])) ∧
   ((x ≤ List.length xs) ∧
   (∀ j : Nat,
   ((j < x) →
   ((decide ¬goodC m (List.getD xs j default)) = false)))))) ∧
   (∀ x : Nat,
   (((x ≤ List.length xs) ∧
   (∀ j : Nat,
   ((j < x) →
   ((decide ¬goodC m (List.getD xs j default)) = false)))) →
   (((decide ((↑x : Int) < (↑(List.length xs) : Int)) = true) →
   ((((0 : Int) ≤ (↑x : Int)) ∧
   ((↑x : Int) < (↑(List.length xs) : Int))) ∧
   (((VLe (encCert 1 (List.getD xs (Int.toNat (↑x : Int)) default))
   (encCert 1 (decCert (encCert 1 (List.getD xs (Int.toNat (↑x : Int)) default))))) ∧
   ((VLe (encPMsg 1 m) (encPMsg 1 (decPMsg (encPMsg 1 m)))) ∧
   (pr67 (decCert (encCert 1 (List.getD xs (Int.toNat (↑x : Int)) default))) (decPMsg (encPMsg 1 m))))) ∧
   ((((decide
   ¬goodC (decPMsg (encPMsg 1 m))
   (decCert (encCert 1 (List.getD xs (Int.toNat (↑x : Int)) default)))) =
   true) →
   (VLe (V.int IntKind.i64 (↑x : Int)) (V.int IntKind.i64 (idxF (fun (c : Cert) ↦ decide ¬goodC m c) xs)))) ∧
   (((decide
   ¬goodC (decPMsg (encPMsg 1 m))
   (decCert (encCert 1 (List.getD xs (Int.toNat (↑x : Int)) default)))) =
   false) →
   ((inK IntKind.i64 ((↑x : Int) + (1 : Int))) ∧
   (∃ y : Nat, ((SLe
   (AS.mk
   [(0, encL (encCert 1) 1 xs), (1, V.fn (67 : FuncId) [encPMsg 1 m]),
   (7, V.int IntKind.i64 (↑(List.length xs) : Int)), (8, V.int IntKind.i64 ((↑x : Int) + (1 : Int)))]
   [])
   (AS.mk
   [(0, encL (encCert 1) 1 xs), (1, V.fn (67 : FuncId) [encPMsg 1 m]),
   (7, V.int IntKind.i64 (↑(List.length xs) : Int)), (8, V.int IntKind.i64 (↑y : Int))]
   [])) ∧
   (((y ≤ List.length xs) ∧
   (∀ j : Nat,
   ((j < y) →
   ((decide ¬goodC m (List.getD xs j default)) = false)))) ∧
   (List.length xs - y < List.length xs - x)))))))))) ∧
   ((decide ((↑x : Int) < (↑(List.length xs) : Int)) = false) →
   (VLe (V.int IntKind.i64 (-1 : Int)) (V.int IntKind.i64 (idxF (fun (c : Cert) ↦ decide ¬goodC m c) xs)))))))) := by
    obtain ⟨hlen, hp⟩ := hpre
    unfold maxLen at hlen
    refine ⟨⟨0, SLe.refl _, by omega, fun j hj => absurd hj (Nat.not_lt_zero j)⟩, ?_⟩
    rintro i ⟨hi, hj⟩
    refine ⟨fun h => ?_, fun h => ?_⟩
    · have hlt : i < xs.length := by simpa using h
      have hin : xs.getD i default ∈ xs := by simp [hlt]
      simp only [Int.toNat_natCast, dec_encCert, dec_encPMsg, dec_encPInt, decL_Msg]
      refine ⟨⟨by omega, by omega⟩, ⟨VLe.refl _, VLe.refl _, hp⟩, fun h2 => vle_int (idxF_some hlt hj h2).symm, fun h2 => ⟨inK64 (by omega), i + 1, SLe.refl _, ⟨by omega, fun j h3 => ?_⟩, by omega⟩⟩
      rcases Nat.lt_or_ge j i with h4 | h4
      · exact hj j h4
      · have : j = i := by omega
        subst this
        exact h2
    · have hge : i = xs.length := by simp at h; omega
      exact vle_int (idxF_none fun j h3 => hj j (by omega)).symm
  exact Eq.mp (by kernel_rfl) key
theorem so89_67 : Sound Tryz.prog 89 sp89_67 := by
  refine sound_of_body hmix (pol := 0) Tryz.func89 rfl (by kernel_rfl) fun args bin ob r bout hDe hob => ?_
  unfold sp89_67 at hDe
  split at hDe
  · rename_i a0 a1
    cases hDe
    exact ⟨rfl, rfl, Nat.le_of_ble_eq_true (by kernel_rfl), cx89_67 ((decL decCert) a0) (decPMsg a1), Eq.mp (by kernel_rfl) htt, Eq.mp (by kernel_rfl) da89_67, Eq.mp (by kernel_rfl) (noM_sound (P := Tryz.prog)), by kernel_rfl, [encL (encCert 1) 1 (((decL decCert) a0)), .fn 67 [encPMsg 1 ((decPMsg a1))]], args_of_vles (⟨hob.1, vle_fn ⟨hob.2.1, trivial⟩, trivial⟩), Eq.mp (by kernel_rfl) (bd89_67 ((decL decCert) a0) (decPMsg a1) (hob.2.2))⟩
  · cases hDe

/-! ### slices.ContainsFunc(()loop.example/g00369/impl.Cert,loop.example/g00369/impl.Cert)@impl.msgFault$1 -/
def pr66_67 (xs : List Cert) (m : Msg) : Prop := xs.length ≤ maxLen ∧ (inR m.view 0 20)
noncomputable def rs66_67 (xs : List Cert) (m : Msg) : V := .bool (xs.any (fun c => decide (¬ goodC m c)))
noncomputable def sp66_67 : FSpec := fun args bin => match args, bin with
  | [a0, .fn 67 [a1]], [] => some (VLe a0 (encL (encCert 1) 1 (((decL decCert) a0))) ∧ VLe a1 (encPMsg 1 ((decPMsg a1))) ∧ pr66_67 ((decL decCert) a0) (decPMsg a1), rs66_67 ((decL decCert) a0) (decPMsg a1), [])
  | _, _ => none
noncomputable def D66_67 : Nat → Option (Bool × FSpec) := lk [(89, (false, sp89_67))]
theorem da66_67 : SoundAll Tryz.prog D66_67 := soundAll_cons so89_67 (soundAll_nil)
noncomputable def cx66_67 (xs : List Cert) (m : Msg) : Cx := ⟨tt, D66_67, Tryz.f66.ntmps, [0, 1, 4], [], [], fun _ => none, [], noM, []⟩
theorem bd66_67 (xs : List Cert) (m : Msg) (hpre : pr66_67 xs m) : bodyP (cx66_67 xs m) Tryz.f66 0 [encL (encCert 1) 1 (xs), .fn 67 [encPMsg 1 (m)]] (fun rr => VLe rr (rs66_67 xs m)) := by
  have key :
      (((VLe (encL (encCert 1) 1 xs)
   (encL (encCert 1) 1 (decL decCert (encL (encCert 1) 1 xs)))) ∧
   ((VLe (encPMsg 1 m) (encPMsg 1 (decPMsg (encPMsg 1 m)))) ∧
   (pr89_67 (decL decCert (encL (encCert 1) 1 xs)) (decPMsg (encPMsg 1 m))))) ∧
   (VLe
   (V.bool
   (decide
   (idxF (fun (c : Cert) ↦ decide ¬goodC (decPMsg (encPMsg 1 m)) c)
   (decL decCert (encL (encCert 1) 1 xs)) ≥
   (0 : Int))))
   (V.bool (List.any xs fun (c : Cert) ↦ decide ¬goodC m c)))) := by
    simp only [decL_ints, decL_Cert, dec_encPMsg, dec_encMsg, dec_encPInt, decL_Msg]
    refine ⟨?_, vle_bool (idxF_nonneg _ _)⟩
    repeat' (first | exact VLe.refl _ | exact hpre | apply And.intro)
  exact Eq.mp (by kernel_rfl) key
theorem so66_67 : Sound Tryz.prog 66 sp66_67 := by
  refine sound_of_body hmix (pol := 0) Tryz.func66 rfl (by kernel_rfl) fun args bin ob r bout hDe hob => ?_
  unfold sp66_67 at hDe
  split at hDe
  · rename_i a0 a1
    cases hDe
    exact ⟨rfl, rfl, Nat.le_of_ble_eq_true (by kernel_rfl), cx66_67 ((decL decCert) a0) (decPMsg a1), Eq.mp (by kernel_rfl) htt, Eq.mp (by kernel_rfl) da66_67, Eq.mp (by kernel_rfl) (noM_sound (P := Tryz.prog)), by kernel_rfl, [encL (encCert 1) 1 (((decL decCert) a0)), .fn 67 [encPMsg 1 ((decPMsg a1))]], args_of_vles (⟨hob.1, vle_fn ⟨hob.2.1, trivial⟩, trivial⟩), Eq.mp (by kernel_rfl) (bd66_67 ((decL decCert) a0) (decPMsg a1) (hob.2.2))⟩
  · cases hDe

/-! ### slices.IndexFunc(()int64,int64)@impl.msgFault$2 -/
def pr90_69 (xs : List Int) : Prop := xs.length ≤ maxLen ∧ (True)
noncomputable def rs90_69 (xs : List Int) : V := .int .i64 (idxF (fun r => decide (¬ goodR r)) xs)
noncomputable def sp90_69 : FSpec := fun args bin => match args, bin with
  | [a0, .fn 69 []], [] => some (VLe a0 (encL encI 1 (((decL decI) a0))) ∧ pr90_69 ((decL decI) a0), rs90_69 ((decL decI) a0), [])
  | _, _ => none
noncomputable def in90_69_2 (xs : List Int) : LoopInv :=
  ⟨Nat, fun i => ⟨[(0, encL encI 1 xs), (1, .fn 69 []), (7, .int .i64 xs.length), (8, .int .i64 i)], []⟩,
    fun i => i ≤ xs.length ∧ ∀ j, j < i → (fun r => decide (¬ goodR r)) (xs.getD j default) = false, fun i => xs.length - i⟩
noncomputable def iv90_69 (xs : List Int) : Nat → Option LoopInv := fun rg_ => match rg_ with
  | 2 => some (in90_69_2 xs)
  | _ => none
noncomputable def D90_69 : Nat → Option (Bool × FSpec) := lk [(69, (false, sp69))]
theorem da90_69 : SoundAll Tryz.prog D90_69 := soundAll_cons so69 (soundAll_nil)
noncomputable def cx90_69 (xs : List Int) : Cx := ⟨tt, D90_69, Tryz.f90.ntmps, [0, 1, 4, 5, 7, 8, 9, 16], [(2, ⟨[(0, none), (1, none), (7, none), (8, none)], []⟩)], [], iv90_69 xs, [], noM, []⟩
theorem bd90_69 (xs : List Int) (hpre : pr90_69 xs) : bodyP (cx90_69 xs) Tryz.f90 0 [encL encI 1 (xs), .fn 69 []] (fun rr => VLe rr (rs90_69 xs)) := by
  have key :
      ((∃ x : Nat, ((SLe
   (AS.mk
   [(0, encL encI 1 xs), (1, V.fn (69 : FuncId) []),
   (7, V.int IntKind.i64 (↑(List.length xs) : Int)), (8, V.int IntKind.i64 (0 : Int))]
   [])
   (AS.mk
   [(0, encL encI 1 xs), (1, V.fn (69 : FuncId) []),
   (7, V.int IntKind.i64 (↑(List.length xs) : Int)), (8, V.int IntKind.i64 (↑x : Int))]
   [])) ∧
   ((x ≤ List.length xs) ∧
   (∀ j : Nat,
   ((j < x) →
   ((decide ¬goodR (List.getD xs j default)) = false)))))) ∧
   (∀ x : Nat,
   (((x ≤ List.length xs) ∧
   (∀ j : Nat,
   ((j < x) →
   ((decide ¬goodR (List.getD xs j default)) = false)))) →
   (((decide ((↑x : Int) < (↑(List.length xs) : Int)) = true) →
   ((((0 : Int) ≤ (↑x : Int)) ∧
   ((↑x : Int) < (↑(List.length xs) : Int))) ∧
   ((pr69 (List.getD xs (Int.toNat (↑x : Int)) default)) ∧
   ((((decide ¬goodR (List.getD xs (Int.toNat (↑x : Int)) default)) = true) →
   (VLe (V.int IntKind.i64 (↑x : Int)) (V.int IntKind.i64 (idxF (fun (r : Int) ↦ decide ¬goodR r) xs)))) ∧
   (((decide ¬goodR (List.getD xs (Int.toNat (↑x : Int)) default)) = false) →
   ((inK IntKind.i64 ((↑x : Int) + (1 : Int))) ∧
   (∃ y : Nat, ((SLe
   (AS.mk
   [(0, encL encI 1 xs), (1, V.fn (69 : FuncId) []),
   (7, V.int IntKind.i64 (↑(List.length xs) : Int)), (8, V.int IntKind.i64 ((↑x : Int) + (1 : Int)))]
   [])
   (AS.mk
   [(0, encL encI 1 xs), (1, V.fn (69 : FuncId) []),
   (7, V.int IntKind.i64 (↑(List.length xs) : Int)), (8, V.int IntKind.i64 (↑y : Int))]
   [])) ∧
   (((y ≤ List.length xs) ∧
   (∀ j : Nat,
   ((j < y) →
   ((decide ¬goodR (List.getD xs j default)) = false)))) ∧
   (List.length xs - y < List.length xs - x)))))))))) ∧
   ((decide ((↑x : Int) < (↑(List.length xs) : Int)) = false) →
   (VLe (V.int IntKind.i64 (-1 : Int)) (V.int IntKind.i64 (idxF (fun (r : Int) ↦ decide ¬goodR r) xs)))))))) := by
    obtain ⟨hlen, hp⟩ := hpre
    unfold maxLen at hlen
    refine ⟨⟨0, SLe.refl _, by omega, fun j hj => absurd hj (Nat.not_lt_zero j)⟩, ?_⟩
    rintro i ⟨hi, hj⟩
    refine ⟨fun h => ?_, fun h => ?_⟩
    · have hlt : i < xs.length := by simpa using h
      have hin : xs.getD i default ∈ xs := by simp [hlt]
      simp only [Int.toNat_natCast, decI_int, dec_encPMsg, dec_encPInt, decL_Msg]
      refine ⟨⟨by omega, by omega⟩, trivial, fun h2 => vle_int (idxF_some hlt hj h2).symm, fun h2 => ⟨inK64 (by omega), i + 1, SLe.refl _, ⟨by omega, fun j h3 => ?_⟩, by omega⟩⟩
      rcases Nat.lt_or_ge j i with h4 | h4
      · exact hj j h4
      · have : j = i := by omega
        subst this
        exact h2
    · have hge : i = xs.length := by simp at h; omega
      exact vle_int (idxF_none fun j h3 => hj j (by omega)).symm
  exact Eq.mp (by kernel_rfl) key
theorem so90_69 : Sound Tryz.prog 90 sp90_69 := by
  refine sound_of_body hmix (pol := 0) Tryz.func90 rfl (by kernel_rfl) fun args bin ob r bout hDe hob => ?_
  unfold sp90_69 at hDe
  split at hDe
  · rename_i a0
    cases hDe
    exact ⟨rfl, rfl, Nat.le_of_ble_eq_true (by kernel_rfl), cx90_69 ((decL decI) a0), Eq.mp (by kernel_rfl) htt, Eq.mp (by kernel_rfl) da90_69, Eq.mp (by kernel_rfl) (noM_sound (P := Tryz.prog)), by kernel_rfl, [encL encI 1 (((decL decI) a0)), .fn 69 []], args_of_vles (⟨hob.1, VLe.refl _, trivial⟩), Eq.mp (by kernel_rfl) (bd90_69 ((decL decI) a0) (hob.2))⟩
  · cases hDe

/-! ### slices.ContainsFunc(()int64,int64)@impl.msgFault$2 -/
def pr68_69 (xs : List Int) : Prop := xs.length ≤ maxLen ∧ (True)
noncomputable def rs68_69 (xs : List Int) : V := .bool (xs.any (fun r => decide (¬ goodR r)))
noncomputable def sp68_69 : FSpec := fun args bin => match args, bin with
  | [a0, .fn 69 []], [] => some (VLe a0 (encL encI 1 (((decL decI) a0))) ∧ pr68_69 ((decL decI) a0), rs68_69 ((decL decI) a0), [])
  | _, _ => none
noncomputable def D68_69 : Nat → Option (Bool × FSpec) := lk [(90, (false, sp90_69))]
theorem da68_69 : SoundAll Tryz.prog D68_69 := soundAll_cons so90_69 (soundAll_nil)
noncomputable def cx68_69 (xs : List Int) : Cx := ⟨tt, D68_69, Tryz.f68.ntmps, [0, 1, 4], [], [], fun _ => none, [], noM, []⟩
theorem bd68_69 (xs : List Int) (hpre : pr68_69 xs) : bodyP (cx68_69 xs) Tryz.f68 0 [encL encI 1 (xs), .fn 69 []] (fun rr => VLe rr (rs68_69 xs)) := by
  have key :
      (((VLe (encL encI 1 xs) (encL encI 1 (decL decI (encL encI 1 xs)))) ∧
   (pr90_69 (decL decI (encL encI 1 xs)))) ∧
   (VLe (V.bool (decide (idxF (fun (r : Int) ↦ decide ¬goodR r) (decL decI (encL encI 1 xs)) ≥ (0 : Int))))
   (V.bool (List.any xs fun (r : Int) ↦ decide ¬goodR r)))) := by
    simp only [decL_ints, decL_Cert, dec_encPMsg, dec_encMsg, dec_encPInt, decL_Msg]
    refine ⟨?_, vle_bool (idxF_nonneg _ _)⟩
    repeat' (first | exact VLe.refl _ | exact hpre | apply And.intro)
  exact Eq.mp (by kernel_rfl) key
theorem so68_69 : Sound Tryz.prog 68 sp68_69 := by
  refine sound_of_body hmix (pol := 0) Tryz.func68 rfl (by kernel_rfl) fun args bin ob r bout hDe hob => ?_
  unfold sp68_69 at hDe
  split at hDe
  · rename_i a0
    cases hDe
    exact ⟨rfl, rfl, Nat.le_of_ble_eq_true (by kernel_rfl), cx68_69 ((decL decI) a0), Eq.mp (by kernel_rfl) htt, Eq.mp (by kernel_rfl) da68_69, Eq.mp (by kernel_rfl) (noM_sound (P := Tryz.prog)), by kernel_rfl, [encL encI 1 (((decL decI) a0)), .fn 69 []], args_of_vles (⟨hob.1, VLe.refl _, trivial⟩), Eq.mp (by kernel_rfl) (bd68_69 ((decL decI) a0) (hob.2))⟩
  · cases hDe

/-! ### spec.l8Lists -/
def pr82 (m : Msg) : Prop := m.bd ∧ inR m.view 0 20
noncomputable def rs82 (m : Msg) : V := .int .i64 (listsFault m)
noncomputable def sp82 : FSpec := fun args bin => match args, bin with
  | [a0], [] => some (VLe a0 (encPMsg 1 ((decPMsg a0))) ∧ pr82 (decPMsg a0), rs82 (decPMsg a0), [])
  | _, _ => none
noncomputable def in82_2 (m : Msg) : LoopInv :=
  ⟨Nat, fun i => ⟨[(0, encPMsg 1 m), (3, .int .i64 i)], []⟩, fun i => 1 ≤ i ∧ (i ≤ m.certs.length ∨ i = 1) ∧ ∀ j, 1 ≤ j → j < i → (m.certs.getD (j - 1) default).slot < (m.certs.getD j default).slot, fun i => m.certs.length - i⟩
noncomputable def in82_7 (m : Msg) : LoopInv :=
  ⟨Nat, fun i => ⟨[(0, encPMsg 1 m), (4, .int .i64 i)], []⟩, fun i => 1 ≤ i ∧ (i ≤ m.refs.length ∨ i = 1) ∧ ∀ j, 1 ≤ j → j < i → m.refs.getD (j - 1) default < m.refs.getD j default, fun i => m.refs.length - i⟩
noncomputable def in82_12 (m : Msg) : LoopInv :=
  ⟨Nat, fun i => ⟨[(0, encPMsg 1 m), (5, .int .i64 i)], []⟩, fun i => i ≤ m.certs.length ∧ ∀ j, j < i → goodC m (m.certs.getD j default), fun i => m.certs.length - i⟩
noncomputable def in82_18 (m : Msg) : LoopInv :=
  ⟨Nat, fun i => ⟨[(0, encPMsg 1 m), (7, .int .i64 i)], []⟩, fun i => i ≤ m.refs.length ∧ ∀ j, j < i → goodR (m.refs.getD j default), fun i => m.refs.length - i⟩
noncomputable def iv82 (m : Msg) : Nat → Option LoopInv := fun rg_ => match rg_ with
  | 2 => some (in82_2 m)
  | 7 => some (in82_7 m)
  | 12 => some (in82_12 m)
  | 18 => some (in82_18 m)
  | _ => none
noncomputable def D82 : Nat → Option (Bool × FSpec) := lk [(35, (false, sp35))]
theorem da82 : SoundAll Tryz.prog D82 := soundAll_cons so35 (soundAll_nil)
noncomputable def cx82 (m : Msg) : Cx := ⟨tt, D82, Tryz.f82.ntmps, [0, 2, 3, 4, 5, 6, 7, 14, 34, 41, 59, 66, 96, 103, 114], [(2, ⟨[(0, none), (3, none)], []⟩), (7, ⟨[(0, none), (4, none)], []⟩), (12, ⟨[(0, none), (5, none)], []⟩), (18, ⟨[(0, none), (7, none)], []⟩)], [], iv82 m, [], noM, []⟩
theorem bd82 (m : Msg) (hpre : pr82 m) : bodyP (cx82 m) Tryz.f82 0 [encPMsg 1 (m)] (fun rr => VLe rr (rs82 m)) := by
  have key :
      ((∃ x : Nat, ((SLe (AS.mk [(0, encPMsg 1 m), (3, V.int IntKind.i64 (1 : Int))] [])
   (AS.mk [(0, encPMsg 1 m), (3, V.int IntKind.i64 (↑x : Int))] [])) ∧
   ((1 ≤ x) ∧
   ((x ≤ List.length (Msg.certs m) ∨ x = 1) ∧
   (∀ j : Nat,
   ((1 ≤ j) →
   ((j < x) →
   (Cert.slot (List.getD (Msg.certs m) (j - 1) default) < Cert.slot (List.getD (Msg.certs m) j default))))))))) ∧
   (∀ x : Nat,
   (((1 ≤ x) ∧
   ((x ≤ List.length (Msg.certs m) ∨ x = 1) ∧
   (∀ j : Nat,
   ((1 ≤ j) →
   ((j < x) →
   (Cert.slot (List.getD (Msg.certs m) (j - 1) default) < Cert.slot (List.getD (Msg.certs m) j default))))))) →
   (((decide ((↑x : Int) < (↑(List.length (Msg.certs m)) : Int)) = true) →
   ((((0 : Int) ≤ (↑x : Int)) ∧
   ((↑x : Int) < (↑(List.length (Msg.certs m)) : Int))) ∧
   ((inK IntKind.i64 ((↑x : Int) - (1 : Int))) ∧
   ((((0 : Int) ≤ (↑x : Int) - (1 : Int)) ∧
   ((↑x : Int) - (1 : Int) < (↑(List.length (Msg.certs m)) : Int))) ∧
   (((decide
   (Cert.slot (List.getD (Msg.certs m) (Int.toNat (↑x : Int)) default) ≤
   Cert.slot (List.getD (Msg.certs m) (Int.toNat ((↑x : Int) - (1 : Int))) default)) =
   true) →
   (VLe (V.int IntKind.i64 (1 : Int)) (V.int IntKind.i64 (listsFault m)))) ∧
   ((decide
   (Cert.slot (List.getD (Msg.certs m) (Int.toNat (↑x : Int)) default) ≤
   Cert.slot (List.getD (Msg.certs m) (Int.toNat ((↑x : Int) - (1 : Int))) default)) =
   false) →
   ((inK IntKind.i64 ((↑x : Int) + (1 : Int))) ∧
   (∃ y : Nat, ((SLe (AS.mk [(0, encPMsg 1 m), (3, V.int IntKind.i64 ((↑x : Int) + (1 : Int)))] [])
   (AS.mk [(0, encPMsg 1 m), (3, V.int IntKind.i64 (↑y : Int))] [])) ∧
   (((1 ≤ y) ∧
   ((y ≤ List.length (Msg.certs m) ∨ y = 1) ∧
   (∀ j : Nat,
   ((1 ≤ j) →
   ((j < y) →
   (Cert.slot (List.getD (Msg.certs m) (j - 1) default) < Cert.slot (List.getD (Msg.certs m) j default))))))) ∧
   (List.length (Msg.certs m) - y < List.length (Msg.certs m) - x))))))))))) ∧
   ((decide ((↑x : Int) < (↑(List.length (Msg.certs m)) : Int)) = false) →
   ((∃ x_1 : Nat, ((SLe (AS.mk [(0, encPMsg 1 m), (4, V.int IntKind.i64 (1 : Int))] [])
   (AS.mk [(0, encPMsg 1 m), (4, V.int IntKind.i64 (↑x_1 : Int))] [])) ∧
   ((1 ≤ x_1) ∧
   ((x_1 ≤ List.length (Msg.refs m) ∨ x_1 = 1) ∧
   (∀ j : Nat,
   ((1 ≤ j) →
   ((j < x_1) →
   (List.getD (Msg.refs m) (j - 1) default < List.getD (Msg.refs m) j default)))))))) ∧
   (∀ x_1 : Nat,
   (((1 ≤ x_1) ∧
   ((x_1 ≤ List.length (Msg.refs m) ∨ x_1 = 1) ∧
   (∀ j : Nat,
   ((1 ≤ j) →
   ((j < x_1) →
   (List.getD (Msg.refs m) (j - 1) default < List.getD (Msg.refs m) j default)))))) →
   (((decide ((↑x_1 : Int) < (↑(List.length (Msg.refs m)) : Int)) = true) →
   ((((0 : Int) ≤ (↑x_1 : Int)) ∧
   ((↑x_1 : Int) < (↑(List.length (Msg.refs m)) : Int))) ∧
   ((inK IntKind.i64 ((↑x_1 : Int) - (1 : Int))) ∧
   ((((0 : Int) ≤ (↑x_1 : Int) - (1 : Int)) ∧
   ((↑x_1 : Int) - (1 : Int) < (↑(List.length (Msg.refs m)) : Int))) ∧
   (((decide
   (List.getD (Msg.refs m) (Int.toNat (↑x_1 : Int)) default ≤
   List.getD (Msg.refs m) (Int.toNat ((↑x_1 : Int) - (1 : Int))) default) =
   true) →
   (VLe (V.int IntKind.i64 (1 : Int)) (V.int IntKind.i64 (listsFault m)))) ∧
   ((decide
   (List.getD (Msg.refs m) (Int.toNat (↑x_1 : Int)) default ≤
   List.getD (Msg.refs m) (Int.toNat ((↑x_1 : Int) - (1 : Int))) default) =
   false) →
   ((inK IntKind.i64 ((↑x_1 : Int) + (1 : Int))) ∧
   (∃ y : Nat, ((SLe (AS.mk [(0, encPMsg 1 m), (4, V.int IntKind.i64 ((↑x_1 : Int) + (1 : Int)))] [])
   (AS.mk [(0, encPMsg 1 m), (4, V.int IntKind.i64 (↑y : Int))] [])) ∧
   (((1 ≤ y) ∧
   ((y ≤ List.length (Msg.refs m) ∨ y = 1) ∧
   (∀ j : Nat,
   ((1 ≤ j) →
   ((j < y) →
   (List.getD (Msg.refs m) (j - 1) default < List.getD (Msg.refs m) j default)))))) ∧
   (List.length (Msg.refs m) - y < List.length (Msg.refs m) - x_1))))))))))) ∧
   ((decide ((↑x_1 : Int) < (↑(List.length (Msg.refs m)) : Int)) = false) →
   ((∃ x_2 : Nat, ((SLe (AS.mk [(0, encPMsg 1 m), (5, V.int IntKind.i64 (0 : Int))] [])
   (AS.mk [(0, encPMsg 1 m), (5, V.int IntKind.i64 (↑x_2 : Int))] [])) ∧
   ((x_2 ≤ List.length (Msg.certs m)) ∧
   (∀ j : Nat,
   ((j < x_2) →
   (goodC m (List.getD (Msg.certs m) j default))))))) ∧
   (∀ x_2 : Nat,
   (((x_2 ≤ List.length (Msg.certs m)) ∧
   (∀ j : Nat,
   ((j < x_2) →
   (goodC m (List.getD (Msg.certs m) j default))))) →
   (((decide ((↑x_2 : Int) < (↑(List.length (Msg.certs m)) : Int)) = true) →
   ((((0 : Int) ≤ (↑x_2 : Int)) ∧
   ((↑x_2 : Int) < (↑(List.length (Msg.certs m)) : Int))) ∧
   ((pr35 (Cert.slot (List.getD (Msg.certs m) (Int.toNat (↑x_2 : Int)) default)) (1 : Int) (30 : Int)) ∧
   ((tq (!!decide (inR (Cert.slot (List.getD (Msg.certs m) (Int.toNat (↑x_2 : Int)) default)) (1 : Int) (30 : Int)))) ∧
   ((tq (!!decide (inR (Cert.slot (List.getD (Msg.certs m) (Int.toNat (↑x_2 : Int)) default)) (1 : Int) (30 : Int)))) ∧
   ((tq (!!decide (inR (Cert.slot (List.getD (Msg.certs m) (Int.toNat (↑x_2 : Int)) default)) (1 : Int) (30 : Int)))) ∧
   ((tq (!!decide (inR (Cert.slot (List.getD (Msg.certs m) (Int.toNat (↑x_2 : Int)) default)) (1 : Int) (30 : Int)))) ∧
   ((tq (!!decide (inR (Cert.slot (List.getD (Msg.certs m) (Int.toNat (↑x_2 : Int)) default)) (1 : Int) (30 : Int)))) ∧
   ((((!!decide (inR (Cert.slot (List.getD (Msg.certs m) (Int.toNat (↑x_2 : Int)) default)) (1 : Int) (30 : Int))) = true) →
   (inK IntKind.i64 (Msg.view m - (1 : Int)))) ∧
   ((tq (!!decide (inR (Cert.slot (List.getD (Msg.certs m) (Int.toNat (↑x_2 : Int)) default)) (1 : Int) (30 : Int)))) ∧
   ((tq (!!decide (inR (Cert.slot (List.getD (Msg.certs m) (Int.toNat (↑x_2 : Int)) default)) (1 : Int) (30 : Int)))) ∧
   ((((!!decide (inR (Cert.slot (List.getD (Msg.certs m) (Int.toNat (↑x_2 : Int)) default)) (1 : Int) (30 : Int))) = true) →
   (pr35 (Cert.view (List.getD (Msg.certs m) (Int.toNat (↑x_2 : Int)) default)) (0 : Int) (Msg.view m - (1 : Int)))) ∧
   ((tq (!!decide (inR (Cert.slot (List.getD (Msg.certs m) (Int.toNat (↑x_2 : Int)) default)) (1 : Int) (30 : Int)))) ∧
   (((true = true) →
   (((!decide (inR (Cert.slot (List.getD (Msg.certs m) (Int.toNat (↑x_2 : Int)) default)) (1 : Int) (30 : Int))) = false) →
   ((!!decide (inR (Cert.slot (List.getD (Msg.certs m) (Int.toNat (↑x_2 : Int)) default)) (1 : Int) (30 : Int))) = true))) ∧
   (∀ b : Bool,
   ((b =
   bif !decide (inR (Cert.slot (List.getD (Msg.certs m) (Int.toNat (↑x_2 : Int)) default)) (1 : Int) (30 : Int)) then
   true
   else
   !decide
   (inR (Cert.view (List.getD (Msg.certs m) (Int.toNat (↑x_2 : Int)) default)) (0 : Int) (Msg.view m - (1 : Int)))) →
   ((tq (!b)) ∧
   ((tq (!b)) ∧
   ((((!b) = true) →
   (pr35 (Cert.value (List.getD (Msg.certs m) (Int.toNat (↑x_2 : Int)) default)) (0 : Int) (12 : Int))) ∧
   ((tq (!b)) ∧
   (((true = true) →
   ((b = false) →
   ((!b) = true))) ∧
   (∀ b_1 : Bool,
   ((b_1 =
   bif b then true
   else !decide (inR (Cert.value (List.getD (Msg.certs m) (Int.toNat (↑x_2 : Int)) default)) (0 : Int) (12 : Int))) →
   (((b_1 = true) →
   (VLe (V.int IntKind.i64 (3 : Int)) (V.int IntKind.i64 (listsFault m)))) ∧
   ((b_1 = false) →
   ((inK IntKind.i64 ((↑x_2 : Int) + (1 : Int))) ∧
   (∃ y : Nat, ((SLe (AS.mk [(0, encPMsg 1 m), (5, V.int IntKind.i64 ((↑x_2 : Int) + (1 : Int)))] [])
   (AS.mk [(0, encPMsg 1 m), (5, V.int IntKind.i64 (↑y : Int))] [])) ∧
   (((y ≤ List.length (Msg.certs m)) ∧
   (∀ j : Nat,
   ((j < y) →
   (goodC m (List.getD (Msg.certs m) j default))))) ∧
   (List.length (Msg.certs m) - y < List.length (Msg.certs m) - x_2)))))))))))))))))))))))))))))) ∧
   ((decide ((↑x_2 : Int) < (↑(List.length (Msg.certs m)) : Int)) = false) →
   ((∃ x_3 : Nat, ((SLe (AS.mk [(0, encPMsg 1 m), (7, V.int IntKind.i64 (0 : Int))] [])
   (AS.mk [(0, encPMsg 1 m), (7, V.int IntKind.i64 (↑x_3 : Int))] [])) ∧
   ((x_3 ≤ List.length (Msg.refs m)) ∧
   (∀ j : Nat,
   ((j < x_3) →
   (goodR (List.getD (Msg.refs m) j default))))))) ∧
   (∀ x_3 : Nat,
   (((x_3 ≤ List.length (Msg.refs m)) ∧
   (∀ j : Nat,
   ((j < x_3) →
   (goodR (List.getD (Msg.refs m) j default))))) →
   (((decide ((↑x_3 : Int) < (↑(List.length (Msg.refs m)) : Int)) = true) →
   ((((0 : Int) ≤ (↑x_3 : Int)) ∧
   ((↑x_3 : Int) < (↑(List.length (Msg.refs m)) : Int))) ∧
   ((pr35 (List.getD (Msg.refs m) (Int.toNat (↑x_3 : Int)) default) (0 : Int) (239 : Int)) ∧
   ((((!decide (inR (List.getD (Msg.refs m) (Int.toNat (↑x_3 : Int)) default) (0 : Int) (239 : Int))) = true) →
   (VLe (V.int IntKind.i64 (3 : Int)) (V.int IntKind.i64 (listsFault m)))) ∧
   (((!decide (inR (List.getD (Msg.refs m) (Int.toNat (↑x_3 : Int)) default) (0 : Int) (239 : Int))) = false) →
   ((inK IntKind.i64 ((↑x_3 : Int) + (1 : Int))) ∧
   (∃ y : Nat, ((SLe (AS.mk [(0, encPMsg 1 m), (7, V.int IntKind.i64 ((↑x_3 : Int) + (1 : Int)))] [])
   (AS.mk [(0, encPMsg 1 m), (7, V.int IntKind.i64 (↑y : Int))] [])) ∧
   (((y ≤ List.length (Msg.refs m)) ∧
   (∀ j : Nat,
   ((j < y) →
   (goodR (List.getD (Msg.refs m) j default))))) ∧
   (List.length (Msg.refs m) - y < List.length (Msg.refs m) - x_3)))))))))) ∧
   ((decide ((↑x_3 : Int) < (↑(List.length (Msg.refs m)) : Int)) = false) →
   (VLe (V.int IntKind.i64 (0 : Int)) (V.int IntKind.i64 (listsFault m))))))))))))))))))))))) := by
    obtain ⟨⟨hc, hr⟩, hv⟩ := hpre
    unfold maxLen at hc hr
    unfold inR at hv
    refine ⟨⟨1, SLe.refl _, by omega, Or.inr rfl, fun j h1 h2 => by omega⟩, ?_⟩
    rintro i ⟨h1, hi, hj⟩
    have e1 : ((i : Int) - 1).toNat = i - 1 := by omega
    simp only [Int.toNat_natCast, e1]
    refine ⟨fun h => ?_, fun h => ?_⟩
    · have hlt : i < m.certs.length := by simpa using h
      refine ⟨⟨by omega, by omega⟩, inK64 (by omega), ⟨by omega, by omega⟩, fun h2 => ?_, fun h2 => ⟨inK64 (by omega), i + 1, SLe.refl _, ⟨by omega, by omega, fun j h3 h4 => ?_⟩, by omega⟩⟩
      · refine vle_int ?_
        have : ¬ (riseC m.certs ∧ riseR m.refs) := fun hh => by
          have h6 := hh.1 i h1 hlt
          have h7 := of_decide_eq_true h2
          omega
        unfold listsFault
        rw [if_pos this]
      · rcases Nat.lt_or_ge j i with h5 | h5
        · exact hj j h3 h5
        · have : j = i := by omega
          subst this
          have h7 := of_decide_eq_false h2
          omega
    · have hge : m.certs.length ≤ i := by simpa using h
      have hrc : riseC m.certs := fun j h3 h4 => hj j h3 (by omega)
      clear hj hi h1 h hge e1 i
      refine ⟨⟨1, SLe.refl _, by omega, Or.inr rfl, fun j h1 h2 => by omega⟩, ?_⟩
      rintro i ⟨h1, hi, hj⟩
      have e1 : ((i : Int) - 1).toNat = i - 1 := by omega
      simp only [Int.toNat_natCast, e1]
      refine ⟨fun h => ?_, fun h => ?_⟩
      · have hlt : i < m.refs.length := by simpa using h
        refine ⟨⟨by omega, by omega⟩, inK64 (by omega), ⟨by omega, by omega⟩, fun h2 => ?_, fun h2 => ⟨inK64 (by omega), i + 1, SLe.refl _, ⟨by omega, by omega, fun j h3 h4 => ?_⟩, by omega⟩⟩
        · refine vle_int ?_
          have : ¬ (riseC m.certs ∧ riseR m.refs) := fun hh => by
            have h6 := hh.2 i h1 hlt
            have h7 := of_decide_eq_true h2
            omega
          unfold listsFault
          rw [if_pos this]
        · rcases Nat.lt_or_ge j i with h5 | h5
          · exact hj j h3 h5
          · have : j = i := by omega
            subst this
            have h7 := of_decide_eq_false h2
            omega
      · have hge : m.refs.length ≤ i := by simpa using h
        have hrr : riseR m.refs := fun j h3 h4 => hj j h3 (by omega)
        clear hj hi h1 h hge e1 i
        refine ⟨⟨0, SLe.refl _, by omega, fun j hj => absurd hj (Nat.not_lt_zero j)⟩, ?_⟩
        rintro i ⟨hi, hj⟩
        try simp only [Int.toNat_natCast]
        refine ⟨fun h => ?_, fun h => ?_⟩
        · have hlt : i < m.certs.length := by simpa using h
          have hin : m.certs.getD i default ∈ m.certs := by simp [hlt]
          refine ⟨⟨by omega, by omega⟩, ?_⟩
          repeat (first | (refine And.intro (fun h _ => h) ?_) | (refine And.intro (fun _ h => h) ?_) | (refine And.intro ?aa ?_; case aa => (simp [pr35]; done)) | (refine And.intro ?aa ?_; case aa => (simp_all [pr35]; done)) | (refine And.intro ?aa ?_; case aa => (intros; exact inK64 (by omega))) | (refine And.intro ?aa ?_; case aa => (intros; simp only [decide_eq_true_eq] at *; omega)) | (intro q hq))
          subst_vars
          refine ⟨fun h2 => ?_, fun h2 => ⟨inK64 (by omega), i + 1, SLe.refl _, ⟨by omega, fun j h3 => ?_⟩, by omega⟩⟩
          · have hb : ¬ goodC m (m.certs.getD i default) := fun hg => by
              obtain ⟨g1, g2, g3⟩ := hg
              simp only [g1, g2, g3, decide_true, Bool.not_true, cond_false, Bool.false_eq_true] at h2
            refine vle_int ?_
            unfold listsFault
            rw [if_neg (by simp [hrc, hrr]), if_pos fun hh => hb (hh.1 _ hin)]
          · rcases Nat.lt_or_ge j i with h4 | h4
            · exact hj j h4
            · have : j = i := by omega
              subst this
              simp at h2
              exact ⟨h2.1.1, h2.1.2, h2.2⟩
        · have hgc : ∀ c ∈ m.certs, goodC m c := fun c hc => by
            obtain ⟨k, hk, rfl⟩ := List.getElem_of_mem hc
            have hge : i = m.certs.length := by simp at h; omega
            have := hj k (by omega)
            simpa [hk] using this
          clear hj hi h i
          refine ⟨⟨0, SLe.refl _, by omega, fun j hj => absurd hj (Nat.not_lt_zero j)⟩, ?_⟩
          rintro i ⟨hi, hj⟩
          try simp only [Int.toNat_natCast]
          refine ⟨fun h => ?_, fun h => ?_⟩
          · have hlt : i < m.refs.length := by simpa using h
            have hin : m.refs.getD i default ∈ m.refs := by simp [hlt]
            refine ⟨⟨by omega, by omega⟩, trivial, fun h2 => ?_, fun h2 => ⟨inK64 (by omega), i + 1, SLe.refl _, ⟨by omega, fun j h3 => ?_⟩, by omega⟩⟩
            · have hb : ¬ goodR (m.refs.getD i default) := fun hg => by
                unfold goodR at hg
                simp only [hg, decide_true, Bool.not_true, Bool.false_eq_true] at h2
              refine vle_int ?_
              unfold listsFault
              rw [if_neg (by simp [hrc, hrr]), if_pos fun hh => hb (hh.2 _ hin)]
            · rcases Nat.lt_or_ge j i with h4 | h4
              · exact hj j h4
              · have : j = i := by omega
                subst this
                unfold goodR
                simpa using h2
          · have hgr : ∀ r ∈ m.refs, goodR r := fun r hr => by
              obtain ⟨k, hk, rfl⟩ := List.getElem_of_mem hr
              have hge : i = m.refs.length := by simp at h; omega
              have := hj k (by omega)
              simpa [hk] using this
            refine vle_int ?_
            unfold listsFault
            rw [if_neg (by simp [hrc, hrr]), if_neg (by simp; exact ⟨hgc, hgr⟩)]
  exact Eq.mp (by kernel_rfl) key
theorem so82 : Sound Tryz.prog 82 sp82 := by
  refine sound_of_body hmix (pol := 0) Tryz.func82 rfl (by kernel_rfl) fun args bin ob r bout hDe hob => ?_
  unfold sp82 at hDe
  split at hDe
  · rename_i a0
    cases hDe
    exact ⟨rfl, rfl, Nat.le_of_ble_eq_true (by kernel_rfl), cx82 (decPMsg a0), Eq.mp (by kernel_rfl) htt, Eq.mp (by kernel_rfl) da82, Eq.mp (by kernel_rfl) (noM_sound (P := Tryz.prog)), by kernel_rfl, [encPMsg 1 ((decPMsg a0))], args_of_vles (⟨hob.1, trivial⟩), Eq.mp (by kernel_rfl) (bd82 (decPMsg a0) (hob.2))⟩
  · cases hDe

/-! ### spec.l8Msg -/
def pr56 (f : Int) (m : Msg) : Prop := okF f ∧ m.bd
noncomputable def rs56 (f : Int) (m : Msg) : V := .int .i64 (msgFault f m)
noncomputable def sp56 : FSpec := fun args bin => match args, bin with
  | [.int .i64 a0, a1], [] => some (VLe a1 (encPMsg 1 ((decPMsg a1))) ∧ pr56 a0 (decPMsg a1), rs56 a0 (decPMsg a1), [])
  | _, _ => none
noncomputable def D56 : Nat → Option (Bool × FSpec) := lk [(81, (false, sp81)), (35, (false, sp35)), (34, (false, sp34)), (82, (false, sp82))]
theorem da56 : SoundAll Tryz.prog D56 := soundAll_cons so81 (soundAll_cons so35 (soundAll_cons so34 (soundAll_cons so82 (soundAll_nil))))
noncomputable def cx56 (f : Int) (m : Msg) : Cx := ⟨tt, D56, Tryz.f56.ntmps, [0, 1, 4, 5, 8, 47, 64], [], [], fun _ => none, [], noM, []⟩
theorem bd56 (f : Int) (m : Msg) (hpre : pr56 f m) : bodyP (cx56 f m) Tryz.f56 0 [.int .i64 (f), encPMsg 1 (m)] (fun rr => VLe rr (rs56 f m)) := by
  have key :
      (((VLe (encPMsg 1 m) (encPMsg 1 (decPMsg (encPMsg 1 m)))) ∧
   (pr81 (decPMsg (encPMsg 1 m)))) ∧
   ((((!decide (bare (decPMsg (encPMsg 1 m)))) = true) →
   (VLe (V.int IntKind.i64 (1 : Int)) (V.int IntKind.i64 (msgFault f m)))) ∧
   (((!decide (bare (decPMsg (encPMsg 1 m)))) = false) →
   ((pr35 (Msg.view m) (0 : Int) (20 : Int)) ∧
   ((tq (!!decide (inR (Msg.view m) (0 : Int) (20 : Int)))) ∧
   ((tq (!!decide (inR (Msg.view m) (0 : Int) (20 : Int)))) ∧
   ((tq (!!decide (inR (Msg.view m) (0 : Int) (20 : Int)))) ∧
   ((tq (!!decide (inR (Msg.view m) (0 : Int) (20 : Int)))) ∧
   ((tq (!!decide (inR (Msg.view m) (0 : Int) (20 : Int)))) ∧
   ((((!!decide (inR (Msg.view m) (0 : Int) (20 : Int))) = true) →
   (pr34 f (Msg.sender m))) ∧
   ((tq (!!decide (inR (Msg.view m) (0 : Int) (20 : Int)))) ∧
   (((true = true) →
   (((!decide (inR (Msg.view m) (0 : Int) (20 : Int))) = false) →
   ((!!decide (inR (Msg.view m) (0 : Int) (20 : Int))) = true))) ∧
   (∀ b : Bool,
   ((b =
   bif !decide (inR (Msg.view m) (0 : Int) (20 : Int)) then true
   else !decide (inR (Msg.sender m) (1 : Int) ((3 : Int) * f + (1 : Int)))) →
   ((tq (!b)) ∧
   ((tq (!b && decide (Msg.kind m ≤ (3 : Int)))) ∧
   ((tq (!b && decide (Msg.kind m ≤ (3 : Int)))) ∧
   ((tq (!b && decide (Msg.kind m ≤ (3 : Int)))) ∧
   ((tq (!b && decide (Msg.kind m ≤ (3 : Int)))) ∧
   ((((!b && decide (Msg.kind m ≤ (3 : Int))) = true) →
   (pr35 (Msg.slot m) (1 : Int) (30 : Int))) ∧
   ((tq (!b && decide (Msg.kind m ≤ (3 : Int)))) ∧
   ((tq (!b && decide (Msg.kind m ≤ (3 : Int)))) ∧
   ((tq (!b && decide (Msg.kind m ≤ (3 : Int)) && !!decide (inR (Msg.slot m) (1 : Int) (30 : Int)))) ∧
   ((tq (!b && decide (Msg.kind m ≤ (3 : Int)) && !!decide (inR (Msg.slot m) (1 : Int) (30 : Int)))) ∧
   ((tq (!b && decide (Msg.kind m ≤ (3 : Int)) && !!decide (inR (Msg.slot m) (1 : Int) (30 : Int)))) ∧
   ((tq (!b && decide (Msg.kind m ≤ (3 : Int)) && !!decide (inR (Msg.slot m) (1 : Int) (30 : Int)))) ∧
   ((((!b && decide (Msg.kind m ≤ (3 : Int)) && !!decide (inR (Msg.slot m) (1 : Int) (30 : Int))) = true) →
   (pr35 (Msg.value m) (0 : Int) (12 : Int))) ∧
   ((tq (!b && decide (Msg.kind m ≤ (3 : Int)) && !!decide (inR (Msg.slot m) (1 : Int) (30 : Int)))) ∧
   ((tq (!b && decide (Msg.kind m ≤ (3 : Int)))) ∧
   ((((!b && decide (Msg.kind m ≤ (3 : Int))) = true) →
   (((!b && decide (Msg.kind m ≤ (3 : Int))) = true) →
   (((!decide (inR (Msg.slot m) (1 : Int) (30 : Int))) = false) →
   ((!b && decide (Msg.kind m ≤ (3 : Int)) && !!decide (inR (Msg.slot m) (1 : Int) (30 : Int))) = true)))) ∧
   (∀ b_1 : Bool,
   ((b_1 =
   bif !decide (inR (Msg.slot m) (1 : Int) (30 : Int)) then true else !decide (inR (Msg.value m) (0 : Int) (12 : Int))) →
   ((tq (!b)) ∧
   ((((!b) = true) →
   (((!b) = true) →
   ((decide (Msg.kind m ≤ (3 : Int)) = true) →
   ((!b && decide (Msg.kind m ≤ (3 : Int))) = true)))) ∧
   (∀ b_2 : Bool,
   ((b_2 = bif decide (Msg.kind m ≤ (3 : Int)) then b_1 else false) →
   (((true = true) →
   ((b = false) →
   ((!b) = true))) ∧
   (∀ b_3 : Bool,
   ((b_3 = bif b then true else b_2) →
   (((b_3 = true) →
   (VLe (V.int IntKind.i64 (3 : Int)) (V.int IntKind.i64 (msgFault f m)))) ∧
   ((b_3 = false) →
   ((tq (!decide ((↑(List.length (Msg.certs m)) : Int) > (30 : Int)))) ∧
   ((tq (!decide ((↑(List.length (Msg.certs m)) : Int) > (30 : Int)))) ∧
   ((tq (!decide ((↑(List.length (Msg.certs m)) : Int) > (30 : Int)))) ∧
   ((tq (!decide ((↑(List.length (Msg.certs m)) : Int) > (30 : Int)))) ∧
   ((tq (!decide ((↑(List.length (Msg.certs m)) : Int) > (30 : Int)))) ∧
   ((((!decide ((↑(List.length (Msg.certs m)) : Int) > (30 : Int))) = true) →
   (inK IntKind.i64 ((3 : Int) * f))) ∧
   ((tq (!decide ((↑(List.length (Msg.certs m)) : Int) > (30 : Int)))) ∧
   ((((!decide ((↑(List.length (Msg.certs m)) : Int) > (30 : Int))) = true) →
   (inK IntKind.i64 ((3 : Int) * f + (1 : Int)))) ∧
   ((tq (!decide ((↑(List.length (Msg.certs m)) : Int) > (30 : Int)))) ∧
   ((tq (!decide ((↑(List.length (Msg.certs m)) : Int) > (30 : Int)))) ∧
   (((true = true) →
   ((decide ((↑(List.length (Msg.certs m)) : Int) > (30 : Int)) = false) →
   ((!decide ((↑(List.length (Msg.certs m)) : Int) > (30 : Int))) = true))) ∧
   (∀ b_4 : Bool,
   ((b_4 =
   bif decide ((↑(List.length (Msg.certs m)) : Int) > (30 : Int)) then true
   else decide ((↑(List.length (Msg.refs m)) : Int) > (3 : Int) * f + (1 : Int))) →
   (((b_4 = true) →
   (VLe (V.int IntKind.i64 (2 : Int)) (V.int IntKind.i64 (msgFault f m)))) ∧
   ((b_4 = false) →
   (((VLe (encPMsg 1 m) (encPMsg 1 (decPMsg (encPMsg 1 m)))) ∧
   (pr82 (decPMsg (encPMsg 1 m)))) ∧
   (VLe (V.int IntKind.i64 (listsFault (decPMsg (encPMsg 1 m)))) (V.int IntKind.i64 (msgFault f m)))))))))))))))))))))))))))))))))))))))))))))))))))))))))))) := by
    obtain ⟨hf, hc, hr⟩ := hpre
    have hf' : 1 ≤ f ∧ f ≤ 2 := by unfold okF at hf; omega
    simp only [dec_encPMsg]
    refine ⟨⟨VLe.refl _, trivial⟩, fun h => ?_, fun h => ?_⟩
    · refine vle_int ?_
      have hn : ¬ bare m := by simpa using h
      unfold msgFault
      rw [if_pos hn]
    · have hb : bare m := by simpa using h
      clear h
      have hk : 1 ≤ m.kind := hb.1.1
      repeat (first | (refine And.intro (fun h _ => h) ?_) | (refine And.intro (fun _ h => h) ?_) | (refine And.intro ?aa ?_; case aa => (simp [hf, pr81, pr35, pr34, pr82]; done)) | (refine And.intro ?aa ?_; case aa => (simp_all [hf, pr81, pr35, pr34, pr82]; done)) | (refine And.intro ?aa ?_; case aa => (intros; exact inK64 (by omega))) | (refine And.intro ?aa ?_; case aa => (intros; simp only [decide_eq_true_eq] at *; omega)) | (intro q hq))
      have e0 : q = decide (¬ ranged f m) := by
        subst_vars
        rw [Bool.eq_iff_iff]
        simp
        try simp only [ranged, inR]
        try omega
      clear hq
      refine ⟨fun h => ?_, fun h => ?_⟩
      · have hn : ¬ ranged f m := by simpa [e0] using h
        refine vle_int ?_
        unfold msgFault
        rw [if_neg (not_not_intro hb), if_pos hn]
      · have hra : ranged f m := by simpa [e0] using h
        clear e0 h
        repeat (first | (refine And.intro (fun h _ => h) ?_) | (refine And.intro (fun _ h => h) ?_) | (refine And.intro ?aa ?_; case aa => (simp [hf, pr81, pr35, pr34, pr82]; done)) | (refine And.intro ?aa ?_; case aa => (simp_all [hf, pr81, pr35, pr34, pr82]; done)) | (refine And.intro ?aa ?_; case aa => (intros; exact inK64 (by omega))) | (refine And.intro ?aa ?_; case aa => (intros; simp only [decide_eq_true_eq] at *; omega)) | (intro q hq))
        have e0 : q = decide (¬ few f m) := by
          subst_vars
          rw [Bool.eq_iff_iff]
          simp
          try simp only [few]
          try omega
        clear hq
        refine ⟨fun h => ?_, fun h => ?_⟩
        · have hn : ¬ few f m := by simpa [e0] using h
          refine vle_int ?_
          unfold msgFault
          rw [if_neg (not_not_intro hb), if_neg (not_not_intro hra), if_pos hn]
        · have hfw : few f m := by simpa [e0] using h
          clear e0 h
          refine ⟨⟨VLe.refl _, ⟨hc, hr⟩, hra.1⟩, vle_int ?_⟩
          unfold msgFault
          rw [if_neg (not_not_intro hb), if_neg (not_not_intro hra), if_neg (not_not_intro hfw)]
  exact Eq.mp (by kernel_rfl) key
theorem so56 : Sound Tryz.prog 56 sp56 := by
  refine sound_of_body hmix (pol := 0) Tryz.func56 rfl (by kernel_rfl) fun args bin ob r bout hDe hob => ?_
  unfold sp56 at hDe
  split at hDe
  · rename_i a0 a1
    cases hDe
    exact ⟨rfl, rfl, Nat.le_of_ble_eq_true (by kernel_rfl), cx56 a0 (decPMsg a1), Eq.mp (by kernel_rfl) htt, Eq.mp (by kernel_rfl) da56, Eq.mp (by kernel_rfl) (noM_sound (P := Tryz.prog)), by kernel_rfl, [.int .i64 (a0), encPMsg 1 ((decPMsg a1))], args_of_vles (⟨VLe.refl _, hob.1, trivial⟩), Eq.mp (by kernel_rfl) (bd56 a0 (decPMsg a1) (hob.2))⟩
  · cases hDe

/-! ### impl.msgFault -/
def pr43 (f : Int) (m : Msg) : Prop := okF f ∧ m.bd
noncomputable def rs43 (f : Int) (m : Msg) : V := .int .i64 (msgFault f m)
noncomputable def sp43 : FSpec := fun args bin => match args, bin with
  | [.int .i64 a0, a1], [] => some (VLe a1 (encMsg 1 ((decMsg a1))) ∧ pr43 a0 (decMsg a1), rs43 a0 (decMsg a1), [])
  | _, _ => none
noncomputable def in43_9 (f : Int) (m : Msg) : LoopInv :=
  ⟨Nat, fun i => ⟨[(0, .int .i64 f), (3, .oref 256 0 0), (95, encL (encCert 1) 1 m.certs), (96, .int .i64 m.certs.length), (97, .int .i64 i)], [(256, .box (encMsg 1 m).cells)]⟩, fun i => i ≤ m.certs.length ∧ ∀ j, 1 ≤ j → j < i → (m.certs.getD (j - 1) default).slot < (m.certs.getD j default).slot, fun i => m.certs.length - i⟩
noncomputable def in43_15 (f : Int) (m : Msg) : LoopInv :=
  ⟨Nat, fun i => ⟨[(3, .oref 256 0 0), (118, encL encI 1 m.refs), (119, .int .i64 m.refs.length), (120, .int .i64 i)], [(256, .box (encMsg 1 m).cells)]⟩, fun i => i ≤ m.refs.length ∧ ∀ j, 1 ≤ j → j < i → m.refs.getD (j - 1) default < m.refs.getD j default, fun i => m.refs.length - i⟩
noncomputable def iv43 (f : Int) (m : Msg) : Nat → Option LoopInv := fun rg_ => match rg_ with
  | 9 => some (in43_9 f m)
  | 15 => some (in43_15 f m)
  | _ => none
noncomputable def D43 : Nat → Option (Bool × FSpec) := lk [(62, (false, sp62)), (48, (false, sp48)), (47, (false, sp47)), (46, (false, sp46)), (63, (false, sp63)), (64, (false, sp64)), (65, (false, sp65)), (66, (false, sp66_67)), (68, (false, sp68_69))]
theorem da43 : SoundAll Tryz.prog D43 := soundAll_cons so62 (soundAll_cons so48 (soundAll_cons so47 (soundAll_cons so46 (soundAll_cons so63 (soundAll_cons so64 (soundAll_cons so65 (soundAll_cons so66_67 (soundAll_cons so68_69 (soundAll_nil)))))))))
noncomputable def cx43 (f : Int) (m : Msg) : Cx := ⟨tt, D43, Tryz.f43.ntmps, [0, 1, 3, 4, 5, 6, 7, 8, 9, 13, 54, 81, 95, 96, 97, 98, 115, 118, 119, 120, 121, 136, 141, 144], [(9, ⟨[(0, none), (3, none), (95, none), (96, none), (97, none)], [(256, [])]⟩), (15, ⟨[(3, none), (118, none), (119, none), (120, none)], [(256, [])]⟩)], [], iv43 f m, [], noM, []⟩
theorem bd43 (f : Int) (m : Msg) (hpre : pr43 f m) : bodyP (cx43 f m) Tryz.f43 0 [.int .i64 (f), encMsg 1 (m)] (fun rr => VLe rr (rs43 f m)) := by
  have key :
      ((pr62 (Msg.kind m)) ∧
   ((pr48 (Msg.kind m) (1 : Int) (5 : Int)) ∧
   ((tq (!!decide (inR (Msg.kind m) (1 : Int) (5 : Int)))) ∧
   ((tq (!!decide (inR (Msg.kind m) (1 : Int) (5 : Int)))) ∧
   ((tq (!!decide (inR (Msg.kind m) (1 : Int) (5 : Int)) && !decide (inR (Msg.kind m) (1 : Int) (3 : Int)))) ∧
   ((tq (!!decide (inR (Msg.kind m) (1 : Int) (5 : Int)) && !decide (inR (Msg.kind m) (1 : Int) (3 : Int)))) ∧
   ((tq (!!decide (inR (Msg.kind m) (1 : Int) (5 : Int)) && !decide (inR (Msg.kind m) (1 : Int) (3 : Int)))) ∧
   ((tq (!!decide (inR (Msg.kind m) (1 : Int) (5 : Int)) && !decide (inR (Msg.kind m) (1 : Int) (3 : Int)) &&
   !Msg.slot m != (0 : Int))) ∧
   ((tq (!!decide (inR (Msg.kind m) (1 : Int) (5 : Int)) && !decide (inR (Msg.kind m) (1 : Int) (3 : Int)) &&
   !Msg.slot m != (0 : Int))) ∧
   ((tq (!!decide (inR (Msg.kind m) (1 : Int) (5 : Int)) && !decide (inR (Msg.kind m) (1 : Int) (3 : Int)))) ∧
   ((((!!decide (inR (Msg.kind m) (1 : Int) (5 : Int)) && !decide (inR (Msg.kind m) (1 : Int) (3 : Int))) = true) →
   (((!!decide (inR (Msg.kind m) (1 : Int) (5 : Int)) && !decide (inR (Msg.kind m) (1 : Int) (3 : Int))) = true) →
   (((Msg.slot m != (0 : Int)) = false) →
   ((!!decide (inR (Msg.kind m) (1 : Int) (5 : Int)) && !decide (inR (Msg.kind m) (1 : Int) (3 : Int)) &&
   !Msg.slot m != (0 : Int)) =
   true)))) ∧
   (∀ b : Bool,
   ((b = bif Msg.slot m != (0 : Int) then true else Msg.value m != (0 : Int)) →
   ((tq (!!decide (inR (Msg.kind m) (1 : Int) (5 : Int)))) ∧
   ((((!!decide (inR (Msg.kind m) (1 : Int) (5 : Int))) = true) →
   (((!!decide (inR (Msg.kind m) (1 : Int) (5 : Int))) = true) →
   (((!decide (inR (Msg.kind m) (1 : Int) (3 : Int))) = true) →
   ((!!decide (inR (Msg.kind m) (1 : Int) (5 : Int)) && !decide (inR (Msg.kind m) (1 : Int) (3 : Int))) = true)))) ∧
   (∀ b_1 : Bool,
   ((b_1 = bif !decide (inR (Msg.kind m) (1 : Int) (3 : Int)) then b else false) →
   (((true = true) →
   (((!decide (inR (Msg.kind m) (1 : Int) (5 : Int))) = false) →
   ((!!decide (inR (Msg.kind m) (1 : Int) (5 : Int))) = true))) ∧
   (∀ b_2 : Bool,
   ((b_2 = bif !decide (inR (Msg.kind m) (1 : Int) (5 : Int)) then true else b_1) →
   ((tq (!b_2)) ∧
   ((tq (!b_2)) ∧
   ((tq (!b_2)) ∧
   ((tq (!b_2 && Msg.kind m != (4 : Int))) ∧
   ((tq (!b_2 && Msg.kind m != (4 : Int))) ∧
   ((tq (!b_2 && Msg.kind m != (4 : Int))) ∧
   ((tq (!b_2)) ∧
   ((((!b_2) = true) →
   (((!b_2) = true) →
   (((Msg.kind m != (4 : Int)) = true) →
   ((!b_2 && Msg.kind m != (4 : Int)) = true)))) ∧
   (∀ b_3 : Bool,
   ((b_3 = bif Msg.kind m != (4 : Int) then decide ((↑(List.length (Msg.certs m)) : Int) > (0 : Int)) else false) →
   (((true = true) →
   ((b_2 = false) →
   ((!b_2) = true))) ∧
   (∀ b_4 : Bool,
   ((b_4 = bif b_2 then true else b_3) →
   ((tq (!b_4)) ∧
   ((tq (!b_4)) ∧
   ((tq (!b_4)) ∧
   ((tq (!b_4 && Msg.kind m != (5 : Int))) ∧
   ((tq (!b_4 && Msg.kind m != (5 : Int))) ∧
   ((tq (!b_4 && Msg.kind m != (5 : Int))) ∧
   ((tq (!b_4)) ∧
   ((((!b_4) = true) →
   (((!b_4) = true) →
   (((Msg.kind m != (5 : Int)) = true) →
   ((!b_4 && Msg.kind m != (5 : Int)) = true)))) ∧
   (∀ b_5 : Bool,
   ((b_5 = bif Msg.kind m != (5 : Int) then decide ((↑(List.length (Msg.refs m)) : Int) > (0 : Int)) else false) →
   (((true = true) →
   ((b_4 = false) →
   ((!b_4) = true))) ∧
   (∀ b_6 : Bool,
   ((b_6 = bif b_4 then true else b_5) →
   (((b_6 = true) →
   (VLe (V.int IntKind.i64 (1 : Int)) (V.int IntKind.i64 (msgFault f m)))) ∧
   ((b_6 = false) →
   ((pr47 (Msg.view m)) ∧
   ((tq (!!decide (inR (Msg.view m) (0 : Int) (20 : Int)))) ∧
   ((tq (!!decide (inR (Msg.view m) (0 : Int) (20 : Int)))) ∧
   ((tq (!!decide (inR (Msg.view m) (0 : Int) (20 : Int)))) ∧
   ((((!!decide (inR (Msg.view m) (0 : Int) (20 : Int))) = true) →
   (pr46 f (Msg.sender m))) ∧
   ((tq (!!decide (inR (Msg.view m) (0 : Int) (20 : Int)))) ∧
   (((true = true) →
   (((!decide (inR (Msg.view m) (0 : Int) (20 : Int))) = false) →
   ((!!decide (inR (Msg.view m) (0 : Int) (20 : Int))) = true))) ∧
   (∀ b_7 : Bool,
   ((b_7 =
   bif !decide (inR (Msg.view m) (0 : Int) (20 : Int)) then true
   else !decide (inR (Msg.sender m) (1 : Int) ((3 : Int) * f + (1 : Int)))) →
   ((tq (!b_7)) ∧
   ((tq (!b_7 && decide (inR (Msg.kind m) (1 : Int) (3 : Int)))) ∧
   ((tq (!b_7 && decide (inR (Msg.kind m) (1 : Int) (3 : Int)))) ∧
   ((((!b_7 && decide (inR (Msg.kind m) (1 : Int) (3 : Int))) = true) →
   (pr63 (Msg.slot m))) ∧
   ((tq (!b_7 && decide (inR (Msg.kind m) (1 : Int) (3 : Int)))) ∧
   ((tq (!b_7 && decide (inR (Msg.kind m) (1 : Int) (3 : Int)))) ∧
   ((tq (!b_7 && decide (inR (Msg.kind m) (1 : Int) (3 : Int)) && !!decide (inR (Msg.slot m) (1 : Int) (30 : Int)))) ∧
   ((tq (!b_7 && decide (inR (Msg.kind m) (1 : Int) (3 : Int)) && !!decide (inR (Msg.slot m) (1 : Int) (30 : Int)))) ∧
   ((((!b_7 && decide (inR (Msg.kind m) (1 : Int) (3 : Int)) && !!decide (inR (Msg.slot m) (1 : Int) (30 : Int))) = true) →
   (pr64 (Msg.value m))) ∧
   ((tq (!b_7 && decide (inR (Msg.kind m) (1 : Int) (3 : Int)) && !!decide (inR (Msg.slot m) (1 : Int) (30 : Int)))) ∧
   ((tq (!b_7 && decide (inR (Msg.kind m) (1 : Int) (3 : Int)))) ∧
   ((((!b_7 && decide (inR (Msg.kind m) (1 : Int) (3 : Int))) = true) →
   (((!b_7 && decide (inR (Msg.kind m) (1 : Int) (3 : Int))) = true) →
   (((!decide (inR (Msg.slot m) (1 : Int) (30 : Int))) = false) →
   ((!b_7 && decide (inR (Msg.kind m) (1 : Int) (3 : Int)) && !!decide (inR (Msg.slot m) (1 : Int) (30 : Int))) = true)))) ∧
   (∀ b_8 : Bool,
   ((b_8 =
   bif !decide (inR (Msg.slot m) (1 : Int) (30 : Int)) then true else !decide (inR (Msg.value m) (0 : Int) (12 : Int))) →
   ((tq (!b_7)) ∧
   ((((!b_7) = true) →
   (((!b_7) = true) →
   ((decide (inR (Msg.kind m) (1 : Int) (3 : Int)) = true) →
   ((!b_7 && decide (inR (Msg.kind m) (1 : Int) (3 : Int))) = true)))) ∧
   (∀ b_9 : Bool,
   ((b_9 = bif decide (inR (Msg.kind m) (1 : Int) (3 : Int)) then b_8 else false) →
   (((true = true) →
   ((b_7 = false) →
   ((!b_7) = true))) ∧
   (∀ b_10 : Bool,
   ((b_10 = bif b_7 then true else b_9) →
   (((b_10 = true) →
   (VLe (V.int IntKind.i64 (3 : Int)) (V.int IntKind.i64 (msgFault f m)))) ∧
   ((b_10 = false) →
   ((tq (!decide ((↑(List.length (Msg.certs m)) : Int) > (30 : Int)))) ∧
   ((tq (!decide ((↑(List.length (Msg.certs m)) : Int) > (30 : Int)))) ∧
   ((tq (!decide ((↑(List.length (Msg.certs m)) : Int) > (30 : Int)))) ∧
   ((((!decide ((↑(List.length (Msg.certs m)) : Int) > (30 : Int))) = true) →
   (pr65 f)) ∧
   ((tq (!decide ((↑(List.length (Msg.certs m)) : Int) > (30 : Int)))) ∧
   ((tq (!decide ((↑(List.length (Msg.certs m)) : Int) > (30 : Int)))) ∧
   (((true = true) →
   ((decide ((↑(List.length (Msg.certs m)) : Int) > (30 : Int)) = false) →
   ((!decide ((↑(List.length (Msg.certs m)) : Int) > (30 : Int))) = true))) ∧
   (∀ b_11 : Bool,
   ((b_11 =
   bif decide ((↑(List.length (Msg.certs m)) : Int) > (30 : Int)) then true
   else decide ((↑(List.length (Msg.refs m)) : Int) > (3 : Int) * f + (1 : Int))) →
   (((b_11 = true) →
   (VLe (V.int IntKind.i64 (2 : Int)) (V.int IntKind.i64 (msgFault f m)))) ∧
   ((b_11 = false) →
   ((∃ x : Nat, ((SLe
   (AS.mk
   [(0, V.int IntKind.i64 f), (3, V.oref 256 0 0),
   (95, encL (encCert 1) 1 (Msg.certs m)),
   (96, V.int IntKind.i64 (↑(List.length (Msg.certs m)) : Int)), (97, V.int IntKind.i64 (0 : Int))]
   [(256,
   Blk.box
   [V.int IntKind.i64 (Msg.kind m), V.int IntKind.i64 (Msg.view m), V.int IntKind.i64 (Msg.sender m),
   V.int IntKind.i64 (Msg.slot m), V.int IntKind.i64 (Msg.value m),
   encL (encCert 1) 1 (Msg.certs m), encL encI 1 (Msg.refs m)])])
   (AS.mk
   [(0, V.int IntKind.i64 f), (3, V.oref 256 0 0),
   (95, encL (encCert 1) 1 (Msg.certs m)),
   (96, V.int IntKind.i64 (↑(List.length (Msg.certs m)) : Int)), (97, V.int IntKind.i64 (↑x : Int))]
   [(256,
   Blk.box
   [V.int IntKind.i64 (Msg.kind m), V.int IntKind.i64 (Msg.view m), V.int IntKind.i64 (Msg.sender m),
   V.int IntKind.i64 (Msg.slot m), V.int IntKind.i64 (Msg.value m),
   encL (encCert 1) 1 (Msg.certs m), encL encI 1 (Msg.refs m)])])) ∧
   ((x ≤ List.length (Msg.certs m)) ∧
   (∀ j : Nat,
   ((1 ≤ j) →
   ((j < x) →
   (Cert.slot (List.getD (Msg.certs m) (j - 1) default) < Cert.slot (List.getD (Msg.certs m) j default)))))))) ∧
   (∀ x : Nat,
   (((x ≤ List.length (Msg.certs m)) ∧
   (∀ j : Nat,
   ((1 ≤ j) →
   ((j < x) →
   (Cert.slot (List.getD (Msg.certs m) (j - 1) default) < Cert.slot (List.getD (Msg.certs m) j default)))))) →
   (((decide ((↑x : Int) < (↑(List.length (Msg.certs m)) : Int)) = true) →
   ((((0 : Int) ≤ (↑x : Int)) ∧
   ((↑x : Int) < (↑(List.length (Msg.certs m)) : Int))) ∧
   ((tq (decide ((↑x : Int) > (0 : Int)))) ∧
   ((tq (decide ((↑x : Int) > (0 : Int)))) ∧
   ((tq (decide ((↑x : Int) > (0 : Int)))) ∧
   (((decide ((↑x : Int) > (0 : Int)) = true) →
   (inK IntKind.i64 ((↑x : Int) - (1 : Int)))) ∧
   ((tq (decide ((↑x : Int) > (0 : Int)))) ∧
   ((tq (decide ((↑x : Int) > (0 : Int)))) ∧
   (((decide ((↑x : Int) > (0 : Int)) = true) →
   (((0 : Int) ≤ (↑x : Int) - (1 : Int)) ∧
   ((↑x : Int) - (1 : Int) < (↑(List.length (Msg.certs m)) : Int)))) ∧
   ((tq (decide ((↑x : Int) > (0 : Int)))) ∧
   ((tq (decide ((↑x : Int) > (0 : Int)))) ∧
   ((tq (decide ((↑x : Int) > (0 : Int)))) ∧
   ((tq (decide ((↑x : Int) > (0 : Int)))) ∧
   (((true = true) →
   ((decide ((↑x : Int) > (0 : Int)) = true) →
   (decide ((↑x : Int) > (0 : Int)) = true))) ∧
   (∀ b_12 : Bool,
   ((b_12 =
   bif decide ((↑x : Int) > (0 : Int)) then
   decide
   (Cert.slot (List.getD (Msg.certs m) (Int.toNat (↑x : Int)) default) ≤
   Cert.slot (List.getD (Msg.certs m) (Int.toNat ((↑x : Int) - (1 : Int))) default))
   else false) →
   (((b_12 = true) →
   (VLe (V.int IntKind.i64 (1 : Int)) (V.int IntKind.i64 (msgFault f m)))) ∧
   ((b_12 = false) →
   ((inK IntKind.i64 ((↑x : Int) + (1 : Int))) ∧
   (∃ y : Nat, ((SLe
   (AS.mk
   [(0, V.int IntKind.i64 f), (3, V.oref 256 0 0),
   (95, encL (encCert 1) 1 (Msg.certs m)),
   (96, V.int IntKind.i64 (↑(List.length (Msg.certs m)) : Int)),
   (97, V.int IntKind.i64 ((↑x : Int) + (1 : Int)))]
   [(256,
   Blk.box
   [V.int IntKind.i64 (Msg.kind m), V.int IntKind.i64 (Msg.view m), V.int IntKind.i64 (Msg.sender m),
   V.int IntKind.i64 (Msg.slot m), V.int IntKind.i64 (Msg.value m),
   encL (encCert 1) 1 (Msg.certs m), encL encI 1 (Msg.refs m)])])
   (AS.mk
   [(0, V.int IntKind.i64 f), (3, V.oref 256 0 0),
   (95, encL (encCert 1) 1 (Msg.certs m)),
   (96, V.int IntKind.i64 (↑(List.length (Msg.certs m)) : Int)), (97, V.int IntKind.i64 (↑y : Int))]
   [(256,
   Blk.box
   [V.int IntKind.i64 (Msg.kind m), V.int IntKind.i64 (Msg.view m), V.int IntKind.i64 (Msg.sender m),
   V.int IntKind.i64 (Msg.slot m), V.int IntKind.i64 (Msg.value m),
   encL (encCert 1) 1 (Msg.certs m), encL encI 1 (Msg.refs m)])])) ∧
   (((y ≤ List.length (Msg.certs m)) ∧
   (∀ j : Nat,
   ((1 ≤ j) →
   ((j < y) →
   (Cert.slot (List.getD (Msg.certs m) (j - 1) default) < Cert.slot (List.getD (Msg.certs m) j default)))))) ∧
   (List.length (Msg.certs m) - y < List.length (Msg.certs m) - x))))))))))))))))))))))) ∧
   ((decide ((↑x : Int) < (↑(List.length (Msg.certs m)) : Int)) = false) →
   ((∃ x_1 : Nat, ((SLe
   (AS.mk
   [(3, V.oref 256 0 0), (118, encL encI 1 (Msg.refs m)),
   (119, V.int IntKind.i64 (↑(List.length (Msg.refs m)) : Int)), (120, V.int IntKind.i64 (0 : Int))]
   [(256,
   Blk.box
   [V.int IntKind.i64 (Msg.kind m), V.int IntKind.i64 (Msg.view m), V.int IntKind.i64 (Msg.sender m),
   V.int IntKind.i64 (Msg.slot m), V.int IntKind.i64 (Msg.value m),
   encL (encCert 1) 1 (Msg.certs m), encL encI 1 (Msg.refs m)])])
   (AS.mk
   [(3, V.oref 256 0 0), (118, encL encI 1 (Msg.refs m)),
   (119, V.int IntKind.i64 (↑(List.length (Msg.refs m)) : Int)),
   (120, V.int IntKind.i64 (↑x_1 : Int))]
   [(256,
   Blk.box
   [V.int IntKind.i64 (Msg.kind m), V.int IntKind.i64 (Msg.view m), V.int IntKind.i64 (Msg.sender m),
   V.int IntKind.i64 (Msg.slot m), V.int IntKind.i64 (Msg.value m),
   encL (encCert 1) 1 (Msg.certs m), encL encI 1 (Msg.refs m)])])) ∧
   ((x_1 ≤ List.length (Msg.refs m)) ∧
   (∀ j : Nat,
   ((1 ≤ j) →
   ((j < x_1) →
   (List.getD (Msg.refs m) (j - 1) default < List.getD (Msg.refs m) j default))))))) ∧
   (∀ x_1 : Nat,
   (((x_1 ≤ List.length (Msg.refs m)) ∧
   (∀ j : Nat,
   ((1 ≤ j) →
   ((j < x_1) →
   (List.getD (Msg.refs m) (j - 1) default < List.getD (Msg.refs m) j default))))) →
   (((decide ((↑x_1 : Int) < (↑(List.length (Msg.refs m)) : Int)) = true) →
   ((((0 : Int) ≤ (↑x_1 : Int)) ∧
   ((↑x_1 : Int) < (↑(List.length (Msg.refs m)) : Int))) ∧
   ((tq (decide ((↑x_1 : Int) > (0 : Int)))) ∧
   ((tq (decide ((↑x_1 : Int) > (0 : Int)))) ∧
   (((decide ((↑x_1 : Int) > (0 : Int)) = true) →
   (inK IntKind.i64 ((↑x_1 : Int) - (1 : Int)))) ∧
   ((tq (decide ((↑x_1 : Int) > (0 : Int)))) ∧
   ((tq (decide ((↑x_1 : Int) > (0 : Int)))) ∧
   (((decide ((↑x_1 : Int) > (0 : Int)) = true) →
   (((0 : Int) ≤ (↑x_1 : Int) - (1 : Int)) ∧
   ((↑x_1 : Int) - (1 : Int) < (↑(List.length (Msg.refs m)) : Int)))) ∧
   ((tq (decide ((↑x_1 : Int) > (0 : Int)))) ∧
   ((tq (decide ((↑x_1 : Int) > (0 : Int)))) ∧
   ((tq (decide ((↑x_1 : Int) > (0 : Int)))) ∧
   (((true = true) →
   ((decide ((↑x_1 : Int) > (0 : Int)) = true) →
   (decide ((↑x_1 : Int) > (0 : Int)) = true))) ∧
   (∀ b_12 : Bool,
   ((b_12 =
   bif decide ((↑x_1 : Int) > (0 : Int)) then
   decide
   (List.getD (Msg.refs m) (Int.toNat (↑x_1 : Int)) default ≤
   List.getD (Msg.refs m) (Int.toNat ((↑x_1 : Int) - (1 : Int))) default)
   else false) →
   (((b_12 = true) →
   (VLe (V.int IntKind.i64 (1 : Int)) (V.int IntKind.i64 (msgFault f m)))) ∧
   ((b_12 = false) →
   ((inK IntKind.i64 ((↑x_1 : Int) + (1 : Int))) ∧
   (∃ y : Nat, ((SLe
   (AS.mk
   [(3, V.oref 256 0 0), (118, encL encI 1 (Msg.refs m)),
   (119, V.int IntKind.i64 (↑(List.length (Msg.refs m)) : Int)),
   (120, V.int IntKind.i64 ((↑x_1 : Int) + (1 : Int)))]
   [(256,
   Blk.box
   [V.int IntKind.i64 (Msg.kind m), V.int IntKind.i64 (Msg.view m), V.int IntKind.i64 (Msg.sender m),
   V.int IntKind.i64 (Msg.slot m), V.int IntKind.i64 (Msg.value m),
   encL (encCert 1) 1 (Msg.certs m), encL encI 1 (Msg.refs m)])])
   (AS.mk
   [(3, V.oref 256 0 0), (118, encL encI 1 (Msg.refs m)),
   (119, V.int IntKind.i64 (↑(List.length (Msg.refs m)) : Int)), (120, V.int IntKind.i64 (↑y : Int))]
   [(256,
   Blk.box
   [V.int IntKind.i64 (Msg.kind m), V.int IntKind.i64 (Msg.view m), V.int IntKind.i64 (Msg.sender m),
   V.int IntKind.i64 (Msg.slot m), V.int IntKind.i64 (Msg.value m),
   encL (encCert 1) 1 (Msg.certs m), encL encI 1 (Msg.refs m)])])) ∧
   (((y ≤ List.length (Msg.refs m)) ∧
   (∀ j : Nat,
   ((1 ≤ j) →
   ((j < y) →
   (List.getD (Msg.refs m) (j - 1) default < List.getD (Msg.refs m) j default))))) ∧
   (List.length (Msg.refs m) - y < List.length (Msg.refs m) - x_1))))))))))))))))))))) ∧
   ((decide ((↑x_1 : Int) < (↑(List.length (Msg.refs m)) : Int)) = false) →
   (((VLe (encL (encCert 1) 1 (Msg.certs m))
   (encL (encCert 1) 1 (decL decCert (encL (encCert 1) 1 (Msg.certs m))))) ∧
   ((VLe (encPMsg 1 m) (encPMsg 1 (decPMsg (encPMsg 1 m)))) ∧
   (pr66_67 (decL decCert (encL (encCert 1) 1 (Msg.certs m))) (decPMsg (encPMsg 1 m))))) ∧
   ((((List.any (decL decCert (encL (encCert 1) 1 (Msg.certs m))) fun (c : Cert) ↦
   decide ¬goodC (decPMsg (encPMsg 1 m)) c) =
   true) →
   (VLe (V.int IntKind.i64 (3 : Int)) (V.int IntKind.i64 (msgFault f m)))) ∧
   (((List.any (decL decCert (encL (encCert 1) 1 (Msg.certs m))) fun (c : Cert) ↦
   decide ¬goodC (decPMsg (encPMsg 1 m)) c) =
   false) →
   (((VLe (encL encI 1 (Msg.refs m)) (encL encI 1 (decL decI (encL encI 1 (Msg.refs m))))) ∧
   (pr68_69 (decL decI (encL encI 1 (Msg.refs m))))) ∧
   ((((List.any (decL decI (encL encI 1 (Msg.refs m))) fun (r : Int) ↦ decide ¬goodR r) = true) →
   (VLe (V.int IntKind.i64 (3 : Int)) (V.int IntKind.i64 (msgFault f m)))) ∧
   (((List.any (decL decI (encL encI 1 (Msg.refs m))) fun (r : Int) ↦ decide ¬goodR r) = false) →
   (VLe (V.int IntKind.i64 (0 : Int)) (V.int IntKind.i64 (msgFault f m)))))))))))))))))))))))))))))))))))))))))))))))))))))))))))))))))))))))))))))))))))))))))))))))))))))))))))))) := by
    obtain ⟨hf, hc, hr⟩ := hpre
    have hf' : 1 ≤ f ∧ f ≤ 2 := by unfold okF at hf; omega
    unfold maxLen at hc hr
    repeat (first | (refine And.intro (fun h _ => h) ?_) | (refine And.intro (fun _ h => h) ?_) | (refine And.intro ?aa ?_; case aa => (simp [hf, pr62, pr48, pr47, pr46, pr63, pr64, pr65, pr66_67, pr68_69]; done)) | (refine And.intro ?aa ?_; case aa => (simp_all [hf, pr62, pr48, pr47, pr46, pr63, pr64, pr65, pr66_67, pr68_69]; done)) | (refine And.intro ?aa ?_; case aa => (intros; exact inK64 (by omega))) | (refine And.intro ?aa ?_; case aa => (intros; simp only [decide_eq_true_eq] at *; omega)) | (intro q hq))
    have e0 : q = decide (¬ bare m) := by
      subst_vars
      rw [Bool.eq_iff_iff]
      simp
      try simp only [bare, inR, ← List.length_eq_zero_iff]
      try omega
    clear hq
    refine ⟨fun h => ?_, fun h => ?_⟩
    · have hn : ¬ bare m := by simpa [e0] using h
      refine vle_int ?_
      unfold msgFault
      rw [if_pos hn]
    · have hb : bare m := by simpa [e0] using h
      clear e0 h
      repeat (first | (refine And.intro (fun h _ => h) ?_) | (refine And.intro (fun _ h => h) ?_) | (refine And.intro ?aa ?_; case aa => (simp [hf, pr62, pr48, pr47, pr46, pr63, pr64, pr65, pr66_67, pr68_69]; done)) | (refine And.intro ?aa ?_; case aa => (simp_all [hf, pr62, pr48, pr47, pr46, pr63, pr64, pr65, pr66_67, pr68_69]; done)) | (refine And.intro ?aa ?_; case aa => (intros; exact inK64 (by omega))) | (refine And.intro ?aa ?_; case aa => (intros; simp only [decide_eq_true_eq] at *; omega)) | (intro q hq))
      have e0 : q = decide (¬ ranged f m) := by
        subst_vars
        rw [Bool.eq_iff_iff]
        simp
        try simp only [ranged, inR]
        try omega
      clear hq
      refine ⟨fun h => ?_, fun h => ?_⟩
      · have hn : ¬ ranged f m := by simpa [e0] using h
        refine vle_int ?_
        unfold msgFault
        rw [if_neg (not_not_intro hb), if_pos hn]
      · have hra : ranged f m := by simpa [e0] using h
        clear e0 h
        repeat (first | (refine And.intro (fun h _ => h) ?_) | (refine And.intro (fun _ h => h) ?_) | (refine And.intro ?aa ?_; case aa => (simp [hf, pr62, pr48, pr47, pr46, pr63, pr64, pr65, pr66_67, pr68_69]; done)) | (refine And.intro ?aa ?_; case aa => (simp_all [hf, pr62, pr48, pr47, pr46, pr63, pr64, pr65, pr66_67, pr68_69]; done)) | (refine And.intro ?aa ?_; case aa => (intros; exact inK64 (by omega))) | (refine And.intro ?aa ?_; case aa => (intros; simp only [decide_eq_true_eq] at *; omega)) | (intro q hq))
        have e0 : q = decide (¬ few f m) := by
          subst_vars
          rw [Bool.eq_iff_iff]
          simp
          try simp only [few]
          try omega
        clear hq
        refine ⟨fun h => ?_, fun h => ?_⟩
        · have hn : ¬ few f m := by simpa [e0] using h
          refine vle_int ?_
          unfold msgFault
          rw [if_neg (not_not_intro hb), if_neg (not_not_intro hra), if_pos hn]
        · have hfw : few f m := by simpa [e0] using h
          clear e0 h
          refine ⟨⟨0, SLe.refl _, by omega, fun j h1 h2 => by omega⟩, ?_⟩
          rintro i ⟨hi, hj⟩
          refine ⟨fun h => ?_, fun h => ?_⟩
          · have hlt : i < m.certs.length := by simpa using h
            clear h
            try simp only [Int.toNat_natCast]
            refine ⟨⟨by omega, by omega⟩, ?_⟩
            repeat (first | (refine And.intro (fun h _ => h) ?_) | (refine And.intro (fun _ h => h) ?_) | (refine And.intro ?aa ?_; case aa => (simp [pr62, pr48, pr47, pr46, pr63, pr64, pr65, pr66_67, pr68_69]; done)) | (refine And.intro ?aa ?_; case aa => (simp_all [pr62, pr48, pr47, pr46, pr63, pr64, pr65, pr66_67, pr68_69]; done)) | (refine And.intro ?aa ?_; case aa => (intros; exact inK64 (by omega))) | (refine And.intro ?aa ?_; case aa => (intros; simp only [decide_eq_true_eq] at *; omega)) | (intro q hq))
            subst_vars
            refine ⟨fun h2 => ?_, fun h2 => ⟨inK64 (by omega), i + 1, SLe.refl _, ⟨by omega, fun j h3 h4 => ?_⟩, by omega⟩⟩
            · simp at h2
              have e1 : ((i : Int) - 1).toNat = i - 1 := by omega
              refine vle_int ?_
              have : ¬ (riseC m.certs ∧ riseR m.refs) := fun hh => by
                have h6 := hh.1 i (by omega) hlt
                have h7 := h2.2
                try simp only [e1] at h7
                simp at h6 h7
                omega
              unfold msgFault listsFault
              rw [if_neg (not_not_intro hb), if_neg (not_not_intro hra), if_neg (not_not_intro hfw), if_pos this]
            · rcases Nat.lt_or_ge j i with h5 | h5
              · exact hj j h3 h5
              · have : j = i := by omega
                subst this
                have e1 : ((j : Int) - 1).toNat = j - 1 := by omega
                have hj0 : (0 : Int) < j := by omega
                simp only [e1, hj0, gt_iff_lt, decide_true, cond_true, decide_eq_false_iff_not] at h2
                omega
          · have hge : m.certs.length ≤ i := by simpa using h
            have hrc : riseC m.certs := fun j h3 h4 => hj j h3 (by omega)
            clear hj hi h hge i
            refine ⟨⟨0, SLe.refl _, by omega, fun j h1 h2 => by omega⟩, ?_⟩
            rintro i ⟨hi, hj⟩
            refine ⟨fun h => ?_, fun h => ?_⟩
            · have hlt : i < m.refs.length := by simpa using h
              clear h
              try simp only [Int.toNat_natCast]
              refine ⟨⟨by omega, by omega⟩, ?_⟩
              repeat (first | (refine And.intro (fun h _ => h) ?_) | (refine And.intro (fun _ h => h) ?_) | (refine And.intro ?aa ?_; case aa => (simp [pr62, pr48, pr47, pr46, pr63, pr64, pr65, pr66_67, pr68_69]; done)) | (refine And.intro ?aa ?_; case aa => (simp_all [pr62, pr48, pr47, pr46, pr63, pr64, pr65, pr66_67, pr68_69]; done)) | (refine And.intro ?aa ?_; case aa => (intros; exact inK64 (by omega))) | (refine And.intro ?aa ?_; case aa => (intros; simp only [decide_eq_true_eq] at *; omega)) | (intro q hq))
              subst_vars
              refine ⟨fun h2 => ?_, fun h2 => ⟨inK64 (by omega), i + 1, SLe.refl _, ⟨by omega, fun j h3 h4 => ?_⟩, by omega⟩⟩
              · simp at h2
                have e1 : ((i : Int) - 1).toNat = i - 1 := by omega
                refine vle_int ?_
                have : ¬ (riseC m.certs ∧ riseR m.refs) := fun hh => by
                  have h6 := hh.2 i (by omega) hlt
                  have h7 := h2.2
                  try simp only [e1] at h7
                  simp at h6 h7
                  omega
                unfold msgFault listsFault
                rw [if_neg (not_not_intro hb), if_neg (not_not_intro hra), if_neg (not_not_intro hfw), if_pos this]
              · rcases Nat.lt_or_ge j i with h5 | h5
                · exact hj j h3 h5
                · have : j = i := by omega
                  subst this
                  have e1 : ((j : Int) - 1).toNat = j - 1 := by omega
                  have hj0 : (0 : Int) < j := by omega
                  simp only [e1, hj0, gt_iff_lt, decide_true, cond_true, decide_eq_false_iff_not] at h2
                  omega
            · have hge : m.refs.length ≤ i := by simpa using h
              have hrr : riseR m.refs := fun j h3 h4 => hj j h3 (by omega)
              clear hj hi h hge i
              simp only [decL_Cert, decL_ints, dec_encPMsg]
              refine ⟨⟨VLe.refl _, VLe.refl _, by unfold maxLen; omega, hra.1⟩, fun h2 => ?_, fun h2 => ⟨⟨VLe.refl _, by unfold maxLen; omega, trivial⟩, fun h3 => ?_, fun h3 => ?_⟩⟩
              · refine vle_int ?_
                unfold msgFault listsFault
                rw [if_neg (not_not_intro hb), if_neg (not_not_intro hra), if_neg (not_not_intro hfw), if_neg (not_not_intro ⟨hrc, hrr⟩), if_pos ?_]
                intro hh
                obtain ⟨c, hc, hg⟩ := List.any_eq_true.1 h2
                exact (of_decide_eq_true hg) (hh.1 c hc)
              · refine vle_int ?_
                unfold msgFault listsFault
                rw [if_neg (not_not_intro hb), if_neg (not_not_intro hra), if_neg (not_not_intro hfw), if_neg (not_not_intro ⟨hrc, hrr⟩), if_pos ?_]
                intro hh
                obtain ⟨c, hc, hg⟩ := List.any_eq_true.1 h3
                exact (of_decide_eq_true hg) (hh.2 c hc)
              · have hA : ∀ c ∈ m.certs, goodC m c := fun c hc => by
                  have := List.any_eq_false.1 h2 c hc
                  simpa using this
                have hB : ∀ r ∈ m.refs, goodR r := fun c hc => by
                  have := List.any_eq_false.1 h3 c hc
                  simpa using this
                refine vle_int ?_
                unfold msgFault listsFault
                rw [if_neg (not_not_intro hb), if_neg (not_not_intro hra), if_neg (not_not_intro hfw), if_neg (not_not_intro ⟨hrc, hrr⟩), if_neg (not_not_intro ⟨hA, hB⟩)]
  exact Eq.mp (by kernel_rfl) key
theorem so43 : Sound Tryz.prog 43 sp43 := by
  refine sound_of_body hmix (pol := 0) Tryz.func43 rfl (by kernel_rfl) fun args bin ob r bout hDe hob => ?_
  unfold sp43 at hDe
  split at hDe
  · rename_i a0 a1
    cases hDe
    exact ⟨rfl, rfl, Nat.le_of_ble_eq_true (by kernel_rfl), cx43 a0 (decMsg a1), Eq.mp (by kernel_rfl) htt, Eq.mp (by kernel_rfl) da43, Eq.mp (by kernel_rfl) (noM_sound (P := Tryz.prog)), by kernel_rfl, [.int .i64 (a0), encMsg 1 ((decMsg a1))], args_of_vles (⟨VLe.refl _, hob.1, trivial⟩), Eq.mp (by kernel_rfl) (bd43 a0 (decMsg a1) (hob.2))⟩
  · cases hDe

end Go.Av
