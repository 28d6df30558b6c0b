/- What is wrong with a message: program and reference. -/
import Derived.Test.YtnfelcpanphhlaaE1
import Derived.Test.YtnfelcpanphhlaaP8
namespace Go.Av
open Go.Proofs
set_option maxRecDepth 100000
set_option linter.unusedVariables false
set_option linter.unusedSimpArgs false


/-! ### impl.within -/
def pr107 (n : Int) (lo : Int) (hi : Int) : Prop := True
noncomputable def rs107 (n : Int) (lo : Int) (hi : Int) : V := .bool (decide (inR n lo hi))
noncomputable def sp107 : FSpec := fun args bin => match args, bin with
  | [.int .i64 a0, .int .i64 a1, .int .i64 a2], [] => some (pr107 a0 a1 a2, rs107 a0 a1 a2, [])
  | _, _ => none
noncomputable def D107 : Nat → Option (Bool × FSpec) := lk []
theorem da107 : SoundAll Try.prog D107 := soundAll_nil
noncomputable def cx107 (n : Int) (lo : Int) (hi : Int) : Cx := ⟨tt, D107, Try.f107.ntmps, [0, 1, 2, 6], [], [], fun _ => none, [], noM, []⟩
theorem bd107 (n : Int) (lo : Int) (hi : Int) (hpre : pr107 n lo hi) : bodyP (cx107 n lo hi) Try.f107 0 [.int .i64 (n), .int .i64 (lo), .int .i64 (hi)] (fun rr => VLe rr (rs107 n lo hi)) := by
  have key :
      ((tq (decide (lo ≤ n))) ∧
   ((tq (decide (lo ≤ n))) ∧
   (((true = true) →
   ((decide (lo ≤ n) = true) →
   (decide (lo ≤ n) = true))) ∧
   (∀ b : Bool,
   ((b = bif decide (lo ≤ n) then decide (n ≤ hi) else false) →
   (VLe (V.bool b) (V.bool (decide (inR n lo hi))))))))) := by
    repeat (first | (refine And.intro (fun h _ => h) ?_) | (refine And.intro (fun _ h => h) ?_) | (refine And.intro ?aa ?_; case aa => (simp []; done)) | (refine And.intro ?aa ?_; case aa => (simp_all []; done)) | (refine And.intro ?aa ?_; case aa => (intros; exact inK64 (by omega))) | (refine And.intro ?aa ?_; case aa => (intros; simp only [decide_eq_true_eq] at *; omega)) | (intro q hq))
    subst_vars
    refine vle_bool ?_
    rw [Bool.eq_iff_iff]
    simp
    try simp only [inR]
    try omega
  exact Eq.mp (by kernel_rfl) key
theorem so107 : Sound Try.prog 107 sp107 := by
  refine sound_of_body hmix (pol := 0) Try.func107 rfl (by kernel_rfl) fun args bin ob r bout hDe hob => ?_
  unfold sp107 at hDe
  split at hDe
  · rename_i a0 a1 a2
    cases hDe
    exact ⟨rfl, rfl, Nat.le_of_ble_eq_true (by kernel_rfl), cx107 a0 a1 a2, Eq.mp (by kernel_rfl) htt, Eq.mp (by kernel_rfl) da107, Eq.mp (by kernel_rfl) (noM_sound (P := Try.prog)), by kernel_rfl, [.int .i64 (a0), .int .i64 (a1), .int .i64 (a2)], args_of_vles (⟨VLe.refl _, VLe.refl _, VLe.refl _, trivial⟩), Eq.mp (by kernel_rfl) (bd107 a0 a1 a2 (hob))⟩
  · cases hDe

/-! ### spec.l1In -/
def pr82 (n : Int) (lo : Int) (hi : Int) : Prop := True
noncomputable def rs82 (n : Int) (lo : Int) (hi : Int) : V := .bool (decide (inR n lo hi))
noncomputable def sp82 : FSpec := fun args bin => match args, bin with
  | [.int .i64 a0, .int .i64 a1, .int .i64 a2], [] => some (pr82 a0 a1 a2, rs82 a0 a1 a2, [])
  | _, _ => none
noncomputable def D82 : Nat → Option (Bool × FSpec) := lk []
theorem da82 : SoundAll Try.prog D82 := soundAll_nil
noncomputable def cx82 (n : Int) (lo : Int) (hi : Int) : Cx := ⟨tt, D82, Try.f82.ntmps, [0, 1, 2, 6], [], [], fun _ => none, [], noM, []⟩
theorem bd82 (n : Int) (lo : Int) (hi : Int) (hpre : pr82 n lo hi) : bodyP (cx82 n lo hi) Try.f82 0 [.int .i64 (n), .int .i64 (lo), .int .i64 (hi)] (fun rr => VLe rr (rs82 n lo hi)) := by
  have key :
      ((tq (decide (n ≥ lo))) ∧
   ((tq (decide (n ≥ lo))) ∧
   (((true = true) →
   ((decide (n ≥ lo) = true) →
   (decide (n ≥ lo) = true))) ∧
   (∀ b : Bool,
   ((b = bif decide (n ≥ lo) then decide (n ≤ hi) else false) →
   (VLe (V.bool b) (V.bool (decide (inR n lo hi))))))))) := by
    repeat (first | (refine And.intro (fun h _ => h) ?_) | (refine And.intro (fun _ h => h) ?_) | (refine And.intro ?aa ?_; case aa => (simp []; done)) | (refine And.intro ?aa ?_; case aa => (simp_all []; done)) | (refine And.intro ?aa ?_; case aa => (intros; exact inK64 (by omega))) | (refine And.intro ?aa ?_; case aa => (intros; simp only [decide_eq_true_eq] at *; omega)) | (intro q hq))
    subst_vars
    refine vle_bool ?_
    rw [Bool.eq_iff_iff]
    simp
    try simp only [inR]
    try omega
  exact Eq.mp (by kernel_rfl) key
theorem so82 : Sound Try.prog 82 sp82 := by
  refine sound_of_body hmix (pol := 0) Try.func82 rfl (by kernel_rfl) fun args bin ob r bout hDe hob => ?_
  unfold sp82 at hDe
  split at hDe
  · rename_i a0 a1 a2
    cases hDe
    exact ⟨rfl, rfl, Nat.le_of_ble_eq_true (by kernel_rfl), cx82 a0 a1 a2, Eq.mp (by kernel_rfl) htt, Eq.mp (by kernel_rfl) da82, Eq.mp (by kernel_rfl) (noM_sound (P := Try.prog)), by kernel_rfl, [.int .i64 (a0), .int .i64 (a1), .int .i64 (a2)], args_of_vles (⟨VLe.refl _, VLe.refl _, VLe.refl _, trivial⟩), Eq.mp (by kernel_rfl) (bd82 a0 a1 a2 (hob))⟩
  · cases hDe

/-! ### impl.isF -/
def pr81 (f : Int) : Prop := True
noncomputable def rs81 (f : Int) : V := .bool (decide (okF f))
noncomputable def sp81 : FSpec := fun args bin => match args, bin with
  | [.int .i64 a0], [] => some (pr81 a0, rs81 a0, [])
  | _, _ => none
noncomputable def D81 : Nat → Option (Bool × FSpec) := lk [(107, (false, sp107))]
theorem da81 : SoundAll Try.prog D81 := soundAll_cons so107 (soundAll_nil)
noncomputable def cx81 (f : Int) : Cx := ⟨tt, D81, Try.f81.ntmps, [0, 2], [], [], fun _ => none, [], noM, []⟩
theorem bd81 (f : Int) (hpre : pr81 f) : bodyP (cx81 f) Try.f81 0 [.int .i64 (f)] (fun rr => VLe rr (rs81 f)) := by
  have key :
      ((pr107 f (1 : Int) (2 : Int)) ∧
   (VLe (V.bool (decide (inR f (1 : Int) (2 : Int)))) (V.bool (decide (okF f))))) := by
    repeat (first | (refine And.intro (fun h _ => h) ?_) | (refine And.intro (fun _ h => h) ?_) | (refine And.intro ?aa ?_; case aa => (simp [pr107]; done)) | (refine And.intro ?aa ?_; case aa => (simp_all [pr107]; done)) | (refine And.intro ?aa ?_; case aa => (intros; exact inK64 (by omega))) | (refine And.intro ?aa ?_; case aa => (intros; simp only [decide_eq_true_eq] at *; omega)) | (intro q hq))
    subst_vars
    refine vle_bool ?_
    rw [Bool.eq_iff_iff]
    simp
    try simp only [inR, okF]
    try omega
  exact Eq.mp (by kernel_rfl) key
theorem so81 : Sound Try.prog 81 sp81 := by
  refine sound_of_body hmix (pol := 0) Try.func81 rfl (by kernel_rfl) fun args bin ob r bout hDe hob => ?_
  unfold sp81 at hDe
  split at hDe
  · rename_i a0
    cases hDe
    exact ⟨rfl, rfl, Nat.le_of_ble_eq_true (by kernel_rfl), cx81 a0, Eq.mp (by kernel_rfl) htt, Eq.mp (by kernel_rfl) da81, Eq.mp (by kernel_rfl) (noM_sound (P := Try.prog)), by kernel_rfl, [.int .i64 (a0)], args_of_vles (⟨VLe.refl _, trivial⟩), Eq.mp (by kernel_rfl) (bd81 a0 (hob))⟩
  · cases hDe

/-! ### spec.l8F -/
def pr79 (f : Int) : Prop := True
noncomputable def rs79 (f : Int) : V := .bool (decide (okF f))
noncomputable def sp79 : FSpec := fun args bin => match args, bin with
  | [.int .i64 a0], [] => some (pr79 a0, rs79 a0, [])
  | _, _ => none
noncomputable def D79 : Nat → Option (Bool × FSpec) := lk [(82, (false, sp82))]
theorem da79 : SoundAll Try.prog D79 := soundAll_cons so82 (soundAll_nil)
noncomputable def cx79 (f : Int) : Cx := ⟨tt, D79, Try.f79.ntmps, [0, 2], [], [], fun _ => none, [], noM, []⟩
theorem bd79 (f : Int) (hpre : pr79 f) : bodyP (cx79 f) Try.f79 0 [.int .i64 (f)] (fun rr => VLe rr (rs79 f)) := by
  have key :
      ((pr82 f (1 : Int) (2 : Int)) ∧
   (VLe (V.bool (decide (inR f (1 : Int) (2 : Int)))) (V.bool (decide (okF f))))) := by
    repeat (first | (refine And.intro (fun h _ => h) ?_) | (refine And.intro (fun _ h => h) ?_) | (refine And.intro ?aa ?_; case aa => (simp [pr82]; done)) | (refine And.intro ?aa ?_; case aa => (simp_all [pr82]; done)) | (refine And.intro ?aa ?_; case aa => (intros; exact inK64 (by omega))) | (refine And.intro ?aa ?_; case aa => (intros; simp only [decide_eq_true_eq] at *; omega)) | (intro q hq))
    subst_vars
    refine vle_bool ?_
    rw [Bool.eq_iff_iff]
    simp
    try simp only [inR, okF]
    try omega
  exact Eq.mp (by kernel_rfl) key
theorem so79 : Sound Try.prog 79 sp79 := by
  refine sound_of_body hmix (pol := 0) Try.func79 rfl (by kernel_rfl) fun args bin ob r bout hDe hob => ?_
  unfold sp79 at hDe
  split at hDe
  · rename_i a0
    cases hDe
    exact ⟨rfl, rfl, Nat.le_of_ble_eq_true (by kernel_rfl), cx79 a0, Eq.mp (by kernel_rfl) htt, Eq.mp (by kernel_rfl) da79, Eq.mp (by kernel_rfl) (noM_sound (P := Try.prog)), by kernel_rfl, [.int .i64 (a0)], args_of_vles (⟨VLe.refl _, trivial⟩), Eq.mp (by kernel_rfl) (bd79 a0 (hob))⟩
  · cases hDe

/-! ### impl.many -/
def pr104 (f : Int) : Prop := okF f
noncomputable def rs104 (f : Int) : V := .int .i64 (3 * f + 1)
noncomputable def sp104 : FSpec := fun args bin => match args, bin with
  | [.int .i64 a0], [] => some (pr104 a0, rs104 a0, [])
  | _, _ => none
noncomputable def D104 : Nat → Option (Bool × FSpec) := lk []
theorem da104 : SoundAll Try.prog D104 := soundAll_nil
noncomputable def cx104 (f : Int) : Cx := ⟨tt, D104, Try.f104.ntmps, [0, 2], [], [], fun _ => none, [], noM, []⟩
theorem bd104 (f : Int) (hpre : pr104 f) : bodyP (cx104 f) Try.f104 0 [.int .i64 (f)] (fun rr => VLe rr (rs104 f)) := by
  have key :
      ((inK IntKind.i64 ((3 : Int) * f)) ∧
   ((inK IntKind.i64 ((3 : Int) * f + (1 : Int))) ∧
   (VLe (V.int IntKind.i64 ((3 : Int) * f + (1 : Int))) (V.int IntKind.i64 ((3 : Int) * f + (1 : Int)))))) := by
    unfold pr104 okF at hpre
    exact ⟨inK64 (by omega), inK64 (by omega), VLe.refl _⟩
  exact Eq.mp (by kernel_rfl) key
theorem so104 : Sound Try.prog 104 sp104 := by
  refine sound_of_body hmix (pol := 0) Try.func104 rfl (by kernel_rfl) fun args bin ob r bout hDe hob => ?_
  unfold sp104 at hDe
  split at hDe
  · rename_i a0
    cases hDe
    exact ⟨rfl, rfl, Nat.le_of_ble_eq_true (by kernel_rfl), cx104 a0, Eq.mp (by kernel_rfl) htt, Eq.mp (by kernel_rfl) da104, Eq.mp (by kernel_rfl) (noM_sound (P := Try.prog)), by kernel_rfl, [.int .i64 (a0)], args_of_vles (⟨VLe.refl _, trivial⟩), Eq.mp (by kernel_rfl) (bd104 a0 (hob))⟩
  · cases hDe

/-! ### impl.isReplica -/
def pr112 (f : Int) (id : Int) : Prop := okF f
noncomputable def rs112 (f : Int) (id : Int) : V := .bool (decide (inR id 1 (3 * f + 1)))
noncomputable def sp112 : FSpec := fun args bin => match args, bin with
  | [.int .i64 a0, .int .i64 a1], [] => some (pr112 a0 a1, rs112 a0 a1, [])
  | _, _ => none
noncomputable def D112 : Nat → Option (Bool × FSpec) := lk [(104, (false, sp104)), (107, (false, sp107))]
theorem da112 : SoundAll Try.prog D112 := soundAll_cons so104 (soundAll_cons so107 (soundAll_nil))
noncomputable def cx112 (f : Int) (id : Int) : Cx := ⟨tt, D112, Try.f112.ntmps, [0, 1, 4], [], [], fun _ => none, [], noM, []⟩
theorem bd112 (f : Int) (id : Int) (hpre : pr112 f id) : bodyP (cx112 f id) Try.f112 0 [.int .i64 (f), .int .i64 (id)] (fun rr => VLe rr (rs112 f id)) := by
  have key :
      ((pr104 f) ∧
   ((pr107 id (1 : Int) ((3 : Int) * f + (1 : Int))) ∧
   (VLe (V.bool (decide (inR id (1 : Int) ((3 : Int) * f + (1 : Int)))))
   (V.bool (decide (inR id (1 : Int) ((3 : Int) * f + (1 : Int)))))))) := by
    exact ⟨hpre, trivial, VLe.refl _⟩
  exact Eq.mp (by kernel_rfl) key
theorem so112 : Sound Try.prog 112 sp112 := by
  refine sound_of_body hmix (pol := 0) Try.func112 rfl (by kernel_rfl) fun args bin ob r bout hDe hob => ?_
  unfold sp112 at hDe
  split at hDe
  · rename_i a0 a1
    cases hDe
    exact ⟨rfl, rfl, Nat.le_of_ble_eq_true (by kernel_rfl), cx112 a0 a1, Eq.mp (by kernel_rfl) htt, Eq.mp (by kernel_rfl) da112, Eq.mp (by kernel_rfl) (noM_sound (P := Try.prog)), by kernel_rfl, [.int .i64 (a0), .int .i64 (a1)], args_of_vles (⟨VLe.refl _, VLe.refl _, trivial⟩), Eq.mp (by kernel_rfl) (bd112 a0 a1 (hob))⟩
  · cases hDe

/-! ### spec.l8Id -/
def pr111 (f : Int) (id : Int) : Prop := okF f
noncomputable def rs111 (f : Int) (id : Int) : V := .bool (decide (inR id 1 (3 * f + 1)))
noncomputable def sp111 : FSpec := fun args bin => match args, bin with
  | [.int .i64 a0, .int .i64 a1], [] => some (pr111 a0 a1, rs111 a0 a1, [])
  | _, _ => none
noncomputable def D111 : Nat → Option (Bool × FSpec) := lk [(82, (false, sp82))]
theorem da111 : SoundAll Try.prog D111 := soundAll_cons so82 (soundAll_nil)
noncomputable def cx111 (f : Int) (id : Int) : Cx := ⟨tt, D111, Try.f111.ntmps, [0, 1, 4], [], [], fun _ => none, [], noM, []⟩
theorem bd111 (f : Int) (id : Int) (hpre : pr111 f id) : bodyP (cx111 f id) Try.f111 0 [.int .i64 (f), .int .i64 (id)] (fun rr => VLe rr (rs111 f id)) := by
  have key :
      ((inK IntKind.i64 ((3 : Int) * f)) ∧
   ((inK IntKind.i64 ((3 : Int) * f + (1 : Int))) ∧
   ((pr82 id (1 : Int) ((3 : Int) * f + (1 : Int))) ∧
   (VLe (V.bool (decide (inR id (1 : Int) ((3 : Int) * f + (1 : Int)))))
   (V.bool (decide (inR id (1 : Int) ((3 : Int) * f + (1 : Int))))))))) := by
    unfold pr111 okF at hpre
    exact ⟨inK64 (by omega), inK64 (by omega), trivial, VLe.refl _⟩
  exact Eq.mp (by kernel_rfl) key
theorem so111 : Sound Try.prog 111 sp111 := by
  refine sound_of_body hmix (pol := 0) Try.func111 rfl (by kernel_rfl) fun args bin ob r bout hDe hob => ?_
  unfold sp111 at hDe
  split at hDe
  · rename_i a0 a1
    cases hDe
    exact ⟨rfl, rfl, Nat.le_of_ble_eq_true (by kernel_rfl), cx111 a0 a1, Eq.mp (by kernel_rfl) htt, Eq.mp (by kernel_rfl) da111, Eq.mp (by kernel_rfl) (noM_sound (P := Try.prog)), by kernel_rfl, [.int .i64 (a0), .int .i64 (a1)], args_of_vles (⟨VLe.refl _, VLe.refl _, trivial⟩), Eq.mp (by kernel_rfl) (bd111 a0 a1 (hob))⟩
  · cases hDe

/-! ### impl.isView -/
def pr84 (n : Int) : Prop := True
noncomputable def rs84 (n : Int) : V := .bool (decide (inR n 0 20))
noncomputable def sp84 : FSpec := fun args bin => match args, bin with
  | [.int .i64 a0], [] => some (pr84 a0, rs84 a0, [])
  | _, _ => none
noncomputable def D84 : Nat → Option (Bool × FSpec) := lk [(107, (false, sp107))]
theorem da84 : SoundAll Try.prog D84 := soundAll_cons so107 (soundAll_nil)
noncomputable def cx84 (n : Int) : Cx := ⟨tt, D84, Try.f84.ntmps, [0, 2], [], [], fun _ => none, [], noM, []⟩
theorem bd84 (n : Int) (hpre : pr84 n) : bodyP (cx84 n) Try.f84 0 [.int .i64 (n)] (fun rr => VLe rr (rs84 n)) := by
  have key :
      ((pr107 n (0 : Int) (20 : Int)) ∧
   (VLe (V.bool (decide (inR n (0 : Int) (20 : Int)))) (V.bool (decide (inR n (0 : Int) (20 : Int)))))) := by
    exact ⟨trivial, VLe.refl _⟩
  exact Eq.mp (by kernel_rfl) key
theorem so84 : Sound Try.prog 84 sp84 := by
  refine sound_of_body hmix (pol := 0) Try.func84 rfl (by kernel_rfl) fun args bin ob r bout hDe hob => ?_
  unfold sp84 at hDe
  split at hDe
  · rename_i a0
    cases hDe
    exact ⟨rfl, rfl, Nat.le_of_ble_eq_true (by kernel_rfl), cx84 a0, Eq.mp (by kernel_rfl) htt, Eq.mp (by kernel_rfl) da84, Eq.mp (by kernel_rfl) (noM_sound (P := Try.prog)), by kernel_rfl, [.int .i64 (a0)], args_of_vles (⟨VLe.refl _, trivial⟩), Eq.mp (by kernel_rfl) (bd84 a0 (hob))⟩
  · cases hDe

/-! ### impl.isSlot -/
def pr130 (n : Int) : Prop := True
noncomputable def rs130 (n : Int) : V := .bool (decide (inR n 1 30))
noncomputable def sp130 : FSpec := fun args bin => match args, bin with
  | [.int .i64 a0], [] => some (pr130 a0, rs130 a0, [])
  | _, _ => none
noncomputable def D130 : Nat → Option (Bool × FSpec) := lk [(107, (false, sp107))]
theorem da130 : SoundAll Try.prog D130 := soundAll_cons so107 (soundAll_nil)
noncomputable def cx130 (n : Int) : Cx := ⟨tt, D130, Try.f130.ntmps, [0, 2], [], [], fun _ => none, [], noM, []⟩
theorem bd130 (n : Int) (hpre : pr130 n) : bodyP (cx130 n) Try.f130 0 [.int .i64 (n)] (fun rr => VLe rr (rs130 n)) := by
  have key :
      ((pr107 n (1 : Int) (30 : Int)) ∧
   (VLe (V.bool (decide (inR n (1 : Int) (30 : Int)))) (V.bool (decide (inR n (1 : Int) (30 : Int)))))) := by
    exact ⟨trivial, VLe.refl _⟩
  exact Eq.mp (by kernel_rfl) key
theorem so130 : Sound Try.prog 130 sp130 := by
  refine sound_of_body hmix (pol := 0) Try.func130 rfl (by kernel_rfl) fun args bin ob r bout hDe hob => ?_
  unfold sp130 at hDe
  split at hDe
  · rename_i a0
    cases hDe
    exact ⟨rfl, rfl, Nat.le_of_ble_eq_true (by kernel_rfl), cx130 a0, Eq.mp (by kernel_rfl) htt, Eq.mp (by kernel_rfl) da130, Eq.mp (by kernel_rfl) (noM_sound (P := Try.prog)), by kernel_rfl, [.int .i64 (a0)], args_of_vles (⟨VLe.refl _, trivial⟩), Eq.mp (by kernel_rfl) (bd130 a0 (hob))⟩
  · cases hDe

/-! ### impl.isValue -/
def pr143 (n : Int) : Prop := True
noncomputable def rs143 (n : Int) : V := .bool (decide (inR n 0 12))
noncomputable def sp143 : FSpec := fun args bin => match args, bin with
  | [.int .i64 a0], [] => some (pr143 a0, rs143 a0, [])
  | _, _ => none
noncomputable def D143 : Nat → Option (Bool × FSpec) := lk [(107, (false, sp107))]
theorem da143 : SoundAll Try.prog D143 := soundAll_cons so107 (soundAll_nil)
noncomputable def cx143 (n : Int) : Cx := ⟨tt, D143, Try.f143.ntmps, [0, 2], [], [], fun _ => none, [], noM, []⟩
theorem bd143 (n : Int) (hpre : pr143 n) : bodyP (cx143 n) Try.f143 0 [.int .i64 (n)] (fun rr => VLe rr (rs143 n)) := by
  have key :
      ((pr107 n (0 : Int) (12 : Int)) ∧
   (VLe (V.bool (decide (inR n (0 : Int) (12 : Int)))) (V.bool (decide (inR n (0 : Int) (12 : Int)))))) := by
    exact ⟨trivial, VLe.refl _⟩
  exact Eq.mp (by kernel_rfl) key
theorem so143 : Sound Try.prog 143 sp143 := by
  refine sound_of_body hmix (pol := 0) Try.func143 rfl (by kernel_rfl) fun args bin ob r bout hDe hob => ?_
  unfold sp143 at hDe
  split at hDe
  · rename_i a0
    cases hDe
    exact ⟨rfl, rfl, Nat.le_of_ble_eq_true (by kernel_rfl), cx143 a0, Eq.mp (by kernel_rfl) htt, Eq.mp (by kernel_rfl) da143, Eq.mp (by kernel_rfl) (noM_sound (P := Try.prog)), by kernel_rfl, [.int .i64 (a0)], args_of_vles (⟨VLe.refl _, trivial⟩), Eq.mp (by kernel_rfl) (bd143 a0 (hob))⟩
  · cases hDe

/-! ### impl.isSlotted -/
def pr142 (n : Int) : Prop := True
noncomputable def rs142 (n : Int) : V := .bool (decide (inR n 1 3))
noncomputable def sp142 : FSpec := fun args bin => match args, bin with
  | [.int .i64 a0], [] => some (pr142 a0, rs142 a0, [])
  | _, _ => none
noncomputable def D142 : Nat → Option (Bool × FSpec) := lk [(107, (false, sp107))]
theorem da142 : SoundAll Try.prog D142 := soundAll_cons so107 (soundAll_nil)
noncomputable def cx142 (n : Int) : Cx := ⟨tt, D142, Try.f142.ntmps, [0, 2], [], [], fun _ => none, [], noM, []⟩
theorem bd142 (n : Int) (hpre : pr142 n) : bodyP (cx142 n) Try.f142 0 [.int .i64 (n)] (fun rr => VLe rr (rs142 n)) := by
  have key :
      ((pr107 n (1 : Int) (3 : Int)) ∧
   (VLe (V.bool (decide (inR n (1 : Int) (3 : Int)))) (V.bool (decide (inR n (1 : Int) (3 : Int)))))) := by
    exact ⟨trivial, VLe.refl _⟩
  exact Eq.mp (by kernel_rfl) key
theorem so142 : Sound Try.prog 142 sp142 := by
  refine sound_of_body hmix (pol := 0) Try.func142 rfl (by kernel_rfl) fun args bin ob r bout hDe hob => ?_
  unfold sp142 at hDe
  split at hDe
  · rename_i a0
    cases hDe
    exact ⟨rfl, rfl, Nat.le_of_ble_eq_true (by kernel_rfl), cx142 a0, Eq.mp (by kernel_rfl) htt, Eq.mp (by kernel_rfl) da142, Eq.mp (by kernel_rfl) (noM_sound (P := Try.prog)), by kernel_rfl, [.int .i64 (a0)], args_of_vles (⟨VLe.refl _, trivial⟩), Eq.mp (by kernel_rfl) (bd142 a0 (hob))⟩
  · cases hDe

/-! ### spec.l8Bare -/
def pr140 (m : Msg) : Prop := True
noncomputable def rs140 (m : Msg) : V := .bool (decide (bare m))
noncomputable def sp140 : FSpec := fun args bin => match args, bin with
  | [a0], [] => some (VLe a0 (encPMsg 1 ((decPMsg a0))) ∧ pr140 (decPMsg a0), rs140 (decPMsg a0), [])
  | _, _ => none
noncomputable def D140 : Nat → Option (Bool × FSpec) := lk [(82, (false, sp82))]
theorem da140 : SoundAll Try.prog D140 := soundAll_cons so82 (soundAll_nil)
noncomputable def cx140 (m : Msg) : Cx := ⟨tt, D140, Try.f140.ntmps, [0, 2, 3], [], [], fun _ => none, [], noM, []⟩
theorem bd140 (m : Msg) (hpre : pr140 m) : bodyP (cx140 m) Try.f140 0 [encPMsg 1 (m)] (fun rr => VLe rr (rs140 m)) := by
  have key :
      ((pr82 (Msg.kind m) (1 : Int) (3 : Int)) ∧
   ((pr82 (Msg.kind m) (1 : Int) (5 : Int)) ∧
   ((tq (decide (inR (Msg.kind m) (1 : Int) (5 : Int)))) ∧
   ((tq (decide (inR (Msg.kind m) (1 : Int) (5 : Int)) && !decide (inR (Msg.kind m) (1 : Int) (3 : Int)))) ∧
   ((tq (decide (inR (Msg.kind m) (1 : Int) (5 : Int)) && !decide (inR (Msg.kind m) (1 : Int) (3 : Int)))) ∧
   ((tq (decide (inR (Msg.kind m) (1 : Int) (5 : Int)) && !decide (inR (Msg.kind m) (1 : Int) (3 : Int)))) ∧
   ((tq (decide (inR (Msg.kind m) (1 : Int) (5 : Int)) && !decide (inR (Msg.kind m) (1 : Int) (3 : Int)))) ∧
   ((tq (decide (inR (Msg.kind m) (1 : Int) (5 : Int)) && !decide (inR (Msg.kind m) (1 : Int) (3 : Int)))) ∧
   ((tq (decide (inR (Msg.kind m) (1 : Int) (5 : Int)) && !decide (inR (Msg.kind m) (1 : Int) (3 : Int)) &&
   Msg.slot m == (0 : Int))) ∧
   ((tq (decide (inR (Msg.kind m) (1 : Int) (5 : Int)) && !decide (inR (Msg.kind m) (1 : Int) (3 : Int)) &&
   Msg.slot m == (0 : Int))) ∧
   ((tq (decide (inR (Msg.kind m) (1 : Int) (5 : Int)) && !decide (inR (Msg.kind m) (1 : Int) (3 : Int)) &&
   Msg.slot m == (0 : Int))) ∧
   ((tq (decide (inR (Msg.kind m) (1 : Int) (5 : Int)) && !decide (inR (Msg.kind m) (1 : Int) (3 : Int)) &&
   Msg.slot m == (0 : Int))) ∧
   ((tq (decide (inR (Msg.kind m) (1 : Int) (5 : Int)) && !decide (inR (Msg.kind m) (1 : Int) (3 : Int)))) ∧
   ((((decide (inR (Msg.kind m) (1 : Int) (5 : Int)) && !decide (inR (Msg.kind m) (1 : Int) (3 : Int))) = true) →
   (((decide (inR (Msg.kind m) (1 : Int) (5 : Int)) && !decide (inR (Msg.kind m) (1 : Int) (3 : Int))) = true) →
   (((Msg.slot m == (0 : Int)) = true) →
   ((decide (inR (Msg.kind m) (1 : Int) (5 : Int)) && !decide (inR (Msg.kind m) (1 : Int) (3 : Int)) &&
   Msg.slot m == (0 : Int)) =
   true)))) ∧
   (∀ b : Bool,
   ((b = bif Msg.slot m == (0 : Int) then Msg.value m == (0 : Int) else false) →
   ((tq (decide (inR (Msg.kind m) (1 : Int) (5 : Int)))) ∧
   (((decide (inR (Msg.kind m) (1 : Int) (5 : Int)) = true) →
   ((decide (inR (Msg.kind m) (1 : Int) (5 : Int)) = true) →
   ((decide (inR (Msg.kind m) (1 : Int) (3 : Int)) = false) →
   ((decide (inR (Msg.kind m) (1 : Int) (5 : Int)) && !decide (inR (Msg.kind m) (1 : Int) (3 : Int))) = true)))) ∧
   (∀ b_1 : Bool,
   ((b_1 = bif decide (inR (Msg.kind m) (1 : Int) (3 : Int)) then true else b) →
   (((true = true) →
   ((decide (inR (Msg.kind m) (1 : Int) (5 : Int)) = true) →
   (decide (inR (Msg.kind m) (1 : Int) (5 : Int)) = true))) ∧
   (∀ b_2 : Bool,
   ((b_2 = bif decide (inR (Msg.kind m) (1 : Int) (5 : Int)) then b_1 else false) →
   ((tq (b_2)) ∧
   ((tq (b_2)) ∧
   ((tq (b_2)) ∧
   ((tq (b_2)) ∧
   ((tq (b_2)) ∧
   ((tq (b_2 && !Msg.kind m == (4 : Int))) ∧
   ((tq (b_2 && !Msg.kind m == (4 : Int))) ∧
   ((tq (b_2 && !Msg.kind m == (4 : Int))) ∧
   ((tq (b_2 && !Msg.kind m == (4 : Int))) ∧
   ((tq (b_2 && !Msg.kind m == (4 : Int))) ∧
   ((tq (b_2)) ∧
   (((b_2 = true) →
   ((b_2 = true) →
   (((Msg.kind m == (4 : Int)) = false) →
   ((b_2 && !Msg.kind m == (4 : Int)) = true)))) ∧
   (∀ b_3 : Bool,
   ((b_3 = bif Msg.kind m == (4 : Int) then true else (↑(List.length (Msg.certs m)) : Int) == (0 : Int)) →
   (((true = true) →
   ((b_2 = true) →
   (b_2 = true))) ∧
   (∀ b_4 : Bool,
   ((b_4 = bif b_2 then b_3 else false) →
   ((tq (b_4)) ∧
   ((tq (b_4)) ∧
   ((tq (b_4)) ∧
   ((tq (b_4)) ∧
   ((tq (b_4)) ∧
   ((tq (b_4 && !Msg.kind m == (5 : Int))) ∧
   ((tq (b_4 && !Msg.kind m == (5 : Int))) ∧
   ((tq (b_4 && !Msg.kind m == (5 : Int))) ∧
   ((tq (b_4 && !Msg.kind m == (5 : Int))) ∧
   ((tq (b_4 && !Msg.kind m == (5 : Int))) ∧
   ((tq (b_4)) ∧
   (((b_4 = true) →
   ((b_4 = true) →
   (((Msg.kind m == (5 : Int)) = false) →
   ((b_4 && !Msg.kind m == (5 : Int)) = true)))) ∧
   (∀ b_5 : Bool,
   ((b_5 = bif Msg.kind m == (5 : Int) then true else (↑(List.length (Msg.refs m)) : Int) == (0 : Int)) →
   (((true = true) →
   ((b_4 = true) →
   (b_4 = true))) ∧
   (∀ b_6 : Bool,
   ((b_6 = bif b_4 then b_5 else false) →
   (VLe (V.bool b_6) (V.bool (decide (bare m))))))))))))))))))))))))))))))))))))))))))))))))))))))))))))) := by
    repeat (first | (refine And.intro (fun h _ => h) ?_) | (refine And.intro (fun _ h => h) ?_) | (refine And.intro ?aa ?_; case aa => (simp [pr82]; done)) | (refine And.intro ?aa ?_; case aa => (simp_all [pr82]; done)) | (refine And.intro ?aa ?_; case aa => (intros; exact inK64 (by omega))) | (refine And.intro ?aa ?_; case aa => (intros; simp only [decide_eq_true_eq] at *; omega)) | (intro q hq))
    subst_vars
    refine vle_bool ?_
    rw [Bool.eq_iff_iff]
    simp
    try simp only [bare, inR, List.length_eq_zero_iff, and_assoc]
    try omega
  exact Eq.mp (by kernel_rfl) key
theorem so140 : Sound Try.prog 140 sp140 := by
  refine sound_of_body hmix (pol := 0) Try.func140 rfl (by kernel_rfl) fun args bin ob r bout hDe hob => ?_
  unfold sp140 at hDe
  split at hDe
  · rename_i a0
    cases hDe
    exact ⟨rfl, rfl, Nat.le_of_ble_eq_true (by kernel_rfl), cx140 (decPMsg a0), Eq.mp (by kernel_rfl) htt, Eq.mp (by kernel_rfl) da140, Eq.mp (by kernel_rfl) (noM_sound (P := Try.prog)), by kernel_rfl, [encPMsg 1 ((decPMsg a0))], args_of_vles (⟨hob.1, trivial⟩), Eq.mp (by kernel_rfl) (bd140 (decPMsg a0) (hob.2))⟩
  · cases hDe

/-! ### impl.msgFault$1 -/
def pr145 (c : Cert) (m : Msg) : Prop := inR m.view 0 20
noncomputable def rs145 (c : Cert) (m : Msg) : V := .bool (decide (¬ goodC m c))
noncomputable def sp145 : FSpec := fun args bin => match args, bin with
  | [a0, a1], [] => some (VLe a0 (encCert 1 ((decCert a0))) ∧ VLe a1 (encPMsg 1 ((decPMsg a1))) ∧ pr145 (decCert a0) (decPMsg a1), rs145 (decCert a0) (decPMsg a1), [])
  | _, _ => none
noncomputable def D145 : Nat → Option (Bool × FSpec) := lk [(107, (false, sp107)), (130, (false, sp130)), (143, (false, sp143))]
theorem da145 : SoundAll Try.prog D145 := soundAll_cons so107 (soundAll_cons so130 (soundAll_cons so143 (soundAll_nil)))
noncomputable def cx145 (c : Cert) (m : Msg) : Cx := ⟨tt, D145, Try.f145.ntmps, [0, 1, 2, 3], [], [], fun _ => none, [], noM, []⟩
theorem bd145 (c : Cert) (m : Msg) (hpre : pr145 c m) : bodyP (cx145 c m) Try.f145 0 [encCert 1 (c), encPMsg 1 (m)] (fun rr => VLe rr (rs145 c m)) := by
  have key :
      ((pr130 (Cert.slot c)) ∧
   ((tq (!!decide (inR (Cert.slot c) (1 : Int) (30 : Int)))) ∧
   ((tq (!!decide (inR (Cert.slot c) (1 : Int) (30 : Int)))) ∧
   ((tq (!!decide (inR (Cert.slot c) (1 : Int) (30 : Int)))) ∧
   ((((!!decide (inR (Cert.slot c) (1 : Int) (30 : Int))) = true) →
   (inK IntKind.i64 (Msg.view m - (1 : Int)))) ∧
   ((tq (!!decide (inR (Cert.slot c) (1 : Int) (30 : Int)))) ∧
   ((tq (!!decide (inR (Cert.slot c) (1 : Int) (30 : Int)))) ∧
   ((((!!decide (inR (Cert.slot c) (1 : Int) (30 : Int))) = true) →
   (pr107 (Cert.view c) (0 : Int) (Msg.view m - (1 : Int)))) ∧
   ((tq (!!decide (inR (Cert.slot c) (1 : Int) (30 : Int)))) ∧
   (((true = true) →
   (((!decide (inR (Cert.slot c) (1 : Int) (30 : Int))) = false) →
   ((!!decide (inR (Cert.slot c) (1 : Int) (30 : Int))) = true))) ∧
   (∀ b : Bool,
   ((b =
   bif !decide (inR (Cert.slot c) (1 : Int) (30 : Int)) then true
   else !decide (inR (Cert.view c) (0 : Int) (Msg.view m - (1 : Int)))) →
   ((tq (!b)) ∧
   ((tq (!b)) ∧
   ((((!b) = true) →
   (pr143 (Cert.value c))) ∧
   ((tq (!b)) ∧
   (((true = true) →
   ((b = false) →
   ((!b) = true))) ∧
   (∀ b_1 : Bool,
   ((b_1 = bif b then true else !decide (inR (Cert.value c) (0 : Int) (12 : Int))) →
   (VLe (V.bool b_1) (V.bool (decide ¬goodC m c)))))))))))))))))))))) := by
    unfold pr145 inR at hpre
    repeat (first | (refine And.intro (fun h _ => h) ?_) | (refine And.intro (fun _ h => h) ?_) | (refine And.intro ?aa ?_; case aa => (simp [pr107, pr130, pr143]; done)) | (refine And.intro ?aa ?_; case aa => (simp_all [pr107, pr130, pr143]; done)) | (refine And.intro ?aa ?_; case aa => (intros; exact inK64 (by omega))) | (refine And.intro ?aa ?_; case aa => (intros; simp only [decide_eq_true_eq] at *; omega)) | (intro q hq))
    subst_vars
    refine vle_bool ?_
    rw [Bool.eq_iff_iff]
    simp
    try simp only [goodC, inR]
    try omega
  exact Eq.mp (by kernel_rfl) key
theorem so145 : Sound Try.prog 145 sp145 := by
  refine sound_of_body hmix (pol := 0) Try.func145 rfl (by kernel_rfl) fun args bin ob r bout hDe hob => ?_
  unfold sp145 at hDe
  split at hDe
  · rename_i a0 a1
    cases hDe
    exact ⟨rfl, rfl, Nat.le_of_ble_eq_true (by kernel_rfl), cx145 (decCert a0) (decPMsg a1), Eq.mp (by kernel_rfl) htt, Eq.mp (by kernel_rfl) da145, Eq.mp (by kernel_rfl) (noM_sound (P := Try.prog)), by kernel_rfl, [encCert 1 ((decCert a0)), encPMsg 1 ((decPMsg a1))], args_of_vles (⟨hob.1, hob.2.1, trivial⟩), Eq.mp (by kernel_rfl) (bd145 (decCert a0) (decPMsg a1) (hob.2.2))⟩
  · cases hDe

/-! ### impl.msgFault$2 -/
def pr146 (r : Int) : Prop := True
noncomputable def rs146 (r : Int) : V := .bool (decide (¬ goodR r))
noncomputable def sp146 : FSpec := fun args bin => match args, bin with
  | [.int .i64 a0], [] => some (pr146 a0, rs146 a0, [])
  | _, _ => none
noncomputable def D146 : Nat → Option (Bool × FSpec) := lk [(107, (false, sp107))]
theorem da146 : SoundAll Try.prog D146 := soundAll_cons so107 (soundAll_nil)
noncomputable def cx146 (r : Int) : Cx := ⟨tt, D146, Try.f146.ntmps, [0, 2], [], [], fun _ => none, [], noM, []⟩
theorem bd146 (r : Int) (hpre : pr146 r) : bodyP (cx146 r) Try.f146 0 [.int .i64 (r)] (fun rr => VLe rr (rs146 r)) := by
  have key :
      ((pr107 r (0 : Int) (239 : Int)) ∧
   (VLe (V.bool !decide (inR r (0 : Int) (239 : Int))) (V.bool (decide ¬goodR r)))) := by
    repeat (first | (refine And.intro (fun h _ => h) ?_) | (refine And.intro (fun _ h => h) ?_) | (refine And.intro ?aa ?_; case aa => (simp [pr107]; done)) | (refine And.intro ?aa ?_; case aa => (simp_all [pr107]; done)) | (refine And.intro ?aa ?_; case aa => (intros; exact inK64 (by omega))) | (refine And.intro ?aa ?_; case aa => (intros; simp only [decide_eq_true_eq] at *; omega)) | (intro q hq))
    subst_vars
    refine vle_bool ?_
    rw [Bool.eq_iff_iff]
    simp
    try simp only [goodR, inR]
    try omega
  exact Eq.mp (by kernel_rfl) key
theorem so146 : Sound Try.prog 146 sp146 := by
  refine sound_of_body hmix (pol := 0) Try.func146 rfl (by kernel_rfl) fun args bin ob r bout hDe hob => ?_
  unfold sp146 at hDe
  split at hDe
  · rename_i a0
    cases hDe
    exact ⟨rfl, rfl, Nat.le_of_ble_eq_true (by kernel_rfl), cx146 a0, Eq.mp (by kernel_rfl) htt, Eq.mp (by kernel_rfl) da146, Eq.mp (by kernel_rfl) (noM_sound (P := Try.prog)), by kernel_rfl, [.int .i64 (a0)], args_of_vles (⟨VLe.refl _, trivial⟩), Eq.mp (by kernel_rfl) (bd146 a0 (hob))⟩
  · cases hDe

/-! ### slices.IndexFunc(()loop.example/g00369/impl.Cert,loop.example/g00369/impl.Cert)@impl.msgFault$1 -/
def pr167_145 (xs : List Cert) (m : Msg) : Prop := xs.length ≤ maxLen ∧ (inR m.view 0 20)
noncomputable def rs167_145 (xs : List Cert) (m : Msg) : V := .int .i64 (idxF (fun c => decide (¬ goodC m c)) xs)
noncomputable def sp167_145 : FSpec := fun args bin => match args, bin with
  | [a0, .fn 145 [a1]], [] => some (VLe a0 (encL (encCert 1) 1 (((decL decCert) a0))) ∧ VLe a1 (encPMsg 1 ((decPMsg a1))) ∧ pr167_145 ((decL decCert) a0) (decPMsg a1), rs167_145 ((decL decCert) a0) (decPMsg a1), [])
  | _, _ => none
noncomputable def in167_145_2 (xs : List Cert) (m : Msg) : LoopInv :=
  ⟨Nat, fun i => ⟨[(0, encL (encCert 1) 1 xs), (1, .fn 145 [encPMsg 1 (m)]), (7, .int .i64 xs.length), (8, .int .i64 i)], []⟩,
    fun i => i ≤ xs.length ∧ ∀ j, j < i → (fun c => decide (¬ goodC m c)) (xs.getD j default) = false, fun i => xs.length - i⟩
noncomputable def iv167_145 (xs : List Cert) (m : Msg) : Nat → Option LoopInv := fun rg_ => match rg_ with
  | 2 => some (in167_145_2 xs m)
  | _ => none
noncomputable def D167_145 : Nat → Option (Bool × FSpec) := lk [(145, (false, sp145))]
theorem da167_145 : SoundAll Try.prog D167_145 := soundAll_cons so145 (soundAll_nil)
noncomputable def cx167_145 (xs : List Cert) (m : Msg) : Cx := ⟨tt, D167_145, Try.f167.ntmps, [0, 1, 4, 5, 7, 8, 9, 16], [(2, ⟨[(0, none), (1, none), (7, none), (8, none)], []⟩)], [], iv167_145 xs m, [], noM, []⟩
theorem bd167_145 (xs : List Cert) (m : Msg) (hpre : pr167_145 xs m) : bodyP (cx167_145 xs m) Try.f167 0 [encL (encCert 1) 1 (xs), .fn 145 [encPMsg 1 (m)]] (fun rr => VLe rr (rs167_145 xs m)) := by
  have key :
      ((∃ x : Nat, ((SLe
   (AS.mk
   [(0, encL (encCert 1) 1 xs), (1, V.fn (145 : FuncId) [encPMsg 1 m]),
   (7, V.int IntKind.i64 (↑(List.length xs) : Int)), (8, V.int IntKind.i64 (0 : Int))]
   [])
   (AS.mk
   [(0, encL (encCert 1) 1 xs), (1, V.fn (145 : FuncId) [encPMsg 1 m]),
   (7, V.int IntKind.i64 (↑(List.length xs) : Int)), (8, V.int IntKind.i64 (↑x : Int))]
   [])) ∧
   ((x ≤ List.length xs) ∧
   (∀ j : Nat,
   ((j < x) →
   ((decide ¬goodC m (List.getD xs j default)) = false)))))) ∧
   (∀ x : Nat,
   (((x ≤ List.length xs) ∧
   (∀ j : Nat,
   ((j < x) →
   ((decide ¬goodC m (List.getD xs j default)) = false)))) →
   (((decide ((↑x : Int) < (↑(List.length xs) : Int)) = true) →
   ((((0 : Int) ≤ (↑x : Int)) ∧
   ((↑x : Int) < (↑(List.length xs) : Int))) ∧
   (((VLe (encCert 1 (List.getD xs (Int.toNat (↑x : Int)) default))
   (encCert 1 (decCert (encCert 1 (List.getD xs (Int.toNat (↑x : Int)) default))))) ∧
   ((VLe (encPMsg 1 m) (encPMsg 1 (decPMsg (encPMsg 1 m)))) ∧
   (pr145 (decCert (encCert 1 (List.getD xs (Int.toNat (↑x : Int)) default))) (decPMsg (encPMsg 1 m))))) ∧
   ((((decide
   ¬goodC (decPMsg (encPMsg 1 m))
   (decCert (encCert 1 (List.getD xs (Int.toNat (↑x : Int)) default)))) =
   true) →
   (VLe (V.int IntKind.i64 (↑x : Int)) (V.int IntKind.i64 (idxF (fun (c : Cert) ↦ decide ¬goodC m c) xs)))) ∧
   (((decide
   ¬goodC (decPMsg (encPMsg 1 m))
   (decCert (encCert 1 (List.getD xs (Int.toNat (↑x : Int)) default)))) =
   false) →
   ((inK IntKind.i64 ((↑x : Int) + (1 : Int))) ∧
   (∃ y : Nat, ((SLe
   (AS.mk
   [(0, encL (encCert 1) 1 xs), (1, V.fn (145 : FuncId) [encPMsg 1 m]),
   (7, V.int IntKind.i64 (↑(List.length xs) : Int)), (8, V.int IntKind.i64 ((↑x : Int) + (1 : Int)))]
   [])
   (AS.mk
   [(0, encL (encCert 1) 1 xs), (1, V.fn (145 : FuncId) [encPMsg 1 m]),
   (7, V.int IntKind.i64 (↑(List.length xs) : Int)), (8, V.int IntKind.i64 (↑y : Int))]
   [])) ∧
   (((y ≤ List.length xs) ∧
   (∀ j : Nat,
   ((j < y) →
   ((decide ¬goodC m (List.getD xs j default)) = false)))) ∧
   (List.length xs - y < List.length xs - x)))))))))) ∧
   ((decide ((↑x : Int) < (↑(List.length xs) : Int)) = false) →
   (VLe (V.int IntKind.i64 (-1 : Int)) (V.int IntKind.i64 (idxF (fun (c : Cert) ↦ decide ¬goodC m c) xs)))))))) := by
    obtain ⟨hlen, hp⟩ := hpre
    unfold maxLen at hlen
    refine ⟨⟨0, SLe.refl _, by omega, fun j hj => absurd hj (Nat.not_lt_zero j)⟩, ?_⟩
    rintro i ⟨hi, hj⟩
    refine ⟨fun h => ?_, fun h => ?_⟩
    · have hlt : i < xs.length := by simpa using h
      have hin : xs.getD i default ∈ xs := by simp [hlt]
      simp only [Int.toNat_natCast, dec_encCert, dec_encPMsg, dec_encPInt, decL_Msg]
      refine ⟨⟨by omega, by omega⟩, ⟨VLe.refl _, VLe.refl _, hp⟩, fun h2 => vle_int (idxF_some hlt hj h2).symm, fun h2 => ⟨inK64 (by omega), i + 1, SLe.refl _, ⟨by omega, fun j h3 => ?_⟩, by omega⟩⟩
      rcases Nat.lt_or_ge j i with h4 | h4
      · exact hj j h4
      · have : j = i := by omega
        subst this
        exact h2
    · have hge : i = xs.length := by simp at h; omega
      exact vle_int (idxF_none fun j h3 => hj j (by omega)).symm
  exact Eq.mp (by kernel_rfl) key
theorem so167_145 : Sound Try.prog 167 sp167_145 := by
  refine sound_of_body hmix (pol := 0) Try.func167 rfl (by kernel_rfl) fun args bin ob r bout hDe hob => ?_
  unfold sp167_145 at hDe
  split at hDe
  · rename_i a0 a1
    cases hDe
    exact ⟨rfl, rfl, Nat.le_of_ble_eq_true (by kernel_rfl), cx167_145 ((decL decCert) a0) (decPMsg a1), Eq.mp (by kernel_rfl) htt, Eq.mp (by kernel_rfl) da167_145, Eq.mp (by kernel_rfl) (noM_sound (P := Try.prog)), by kernel_rfl, [encL (encCert 1) 1 (((decL decCert) a0)), .fn 145 [encPMsg 1 ((decPMsg a1))]], args_of_vles (⟨hob.1, vle_fn ⟨hob.2.1, trivial⟩, trivial⟩), Eq.mp (by kernel_rfl) (bd167_145 ((decL decCert) a0) (decPMsg a1) (hob.2.2))⟩
  · cases hDe

/-! ### slices.ContainsFunc(()loop.example/g00369/impl.Cert,loop.example/g00369/impl.Cert)@impl.msgFault$1 -/
def pr144_145 (xs : List Cert) (m : Msg) : Prop := xs.length ≤ maxLen ∧ (inR m.view 0 20)
noncomputable def rs144_145 (xs : List Cert) (m : Msg) : V := .bool (xs.any (fun c => decide (¬ goodC m c)))
noncomputable def sp144_145 : FSpec := fun args bin => match args, bin with
  | [a0, .fn 145 [a1]], [] => some (VLe a0 (encL (encCert 1) 1 (((decL decCert) a0))) ∧ VLe a1 (encPMsg 1 ((decPMsg a1))) ∧ pr144_145 ((decL decCert) a0) (decPMsg a1), rs144_145 ((decL decCert) a0) (decPMsg a1), [])
  | _, _ => none
noncomputable def D144_145 : Nat → Option (Bool × FSpec) := lk [(167, (false, sp167_145))]
theorem da144_145 : SoundAll Try.prog D144_145 := soundAll_cons so167_145 (soundAll_nil)
noncomputable def cx144_145 (xs : List Cert) (m : Msg) : Cx := ⟨tt, D144_145, Try.f144.ntmps, [0, 1, 4], [], [], fun _ => none, [], noM, []⟩
theorem bd144_145 (xs : List Cert) (m : Msg) (hpre : pr144_145 xs m) : bodyP (cx144_145 xs m) Try.f144 0 [encL (encCert 1) 1 (xs), .fn 145 [encPMsg 1 (m)]] (fun rr => VLe rr (rs144_145 xs m)) := by
  have key :
      (((VLe (encL (encCert 1) 1 xs)
   (encL (encCert 1) 1 (decL decCert (encL (encCert 1) 1 xs)))) ∧
   ((VLe (encPMsg 1 m) (encPMsg 1 (decPMsg (encPMsg 1 m)))) ∧
   (pr167_145 (decL decCert (encL (encCert 1) 1 xs)) (decPMsg (encPMsg 1 m))))) ∧
   (VLe
   (V.bool
   (decide
   (idxF (fun (c : Cert) ↦ decide ¬goodC (decPMsg (encPMsg 1 m)) c)
   (decL decCert (encL (encCert 1) 1 xs)) ≥
   (0 : Int))))
   (V.bool (List.any xs fun (c : Cert) ↦ decide ¬goodC m c)))) := by
    simp only [decL_ints, decL_Cert, dec_encPMsg, dec_encMsg, dec_encPInt, decL_Msg]
    refine ⟨?_, vle_bool (idxF_nonneg _ _)⟩
    repeat' (first | exact VLe.refl _ | exact hpre | apply And.intro)
  exact Eq.mp (by kernel_rfl) key
theorem so144_145 : Sound Try.prog 144 sp144_145 := by
  refine sound_of_body hmix (pol := 0) Try.func144 rfl (by kernel_rfl) fun args bin ob r bout hDe hob => ?_
  unfold sp144_145 at hDe
  split at hDe
  · rename_i a0 a1
    cases hDe
    exact ⟨rfl, rfl, Nat.le_of_ble_eq_true (by kernel_rfl), cx144_145 ((decL decCert) a0) (decPMsg a1), Eq.mp (by kernel_rfl) htt, Eq.mp (by kernel_rfl) da144_145, Eq.mp (by kernel_rfl) (noM_sound (P := Try.prog)), by kernel_rfl, [encL (encCert 1) 1 (((decL decCert) a0)), .fn 145 [encPMsg 1 ((decPMsg a1))]], args_of_vles (⟨hob.1, vle_fn ⟨hob.2.1, trivial⟩, trivial⟩), Eq.mp (by kernel_rfl) (bd144_145 ((decL decCert) a0) (decPMsg a1) (hob.2.2))⟩
  · cases hDe

/-! ### slices.IndexFunc(()int64,int64)@impl.msgFault$2 -/
def pr154_146 (xs : List Int) : Prop := xs.length ≤ maxLen ∧ (True)
noncomputable def rs154_146 (xs : List Int) : V := .int .i64 (idxF (fun r => decide (¬ goodR r)) xs)
noncomputable def sp154_146 : FSpec := fun args bin => match args, bin with
  | [a0, .fn 146 []], [] => some (VLe a0 (encL encI 1 (((decL decI) a0))) ∧ pr154_146 ((decL decI) a0), rs154_146 ((decL decI) a0), [])
  | _, _ => none
noncomputable def in154_146_2 (xs : List Int) : LoopInv :=
  ⟨Nat, fun i => ⟨[(0, encL encI 1 xs), (1, .fn 146 []), (7, .int .i64 xs.length), (8, .int .i64 i)], []⟩,
    fun i => i ≤ xs.length ∧ ∀ j, j < i → (fun r => decide (¬ goodR r)) (xs.getD j default) = false, fun i => xs.length - i⟩
noncomputable def iv154_146 (xs : List Int) : Nat → Option LoopInv := fun rg_ => match rg_ with
  | 2 => some (in154_146_2 xs)
  | _ => none
noncomputable def D154_146 : Nat → Option (Bool × FSpec) := lk [(146, (false, sp146))]
theorem da154_146 : SoundAll Try.prog D154_146 := soundAll_cons so146 (soundAll_nil)
noncomputable def cx154_146 (xs : List Int) : Cx := ⟨tt, D154_146, Try.f154.ntmps, [0, 1, 4, 5, 7, 8, 9, 16], [(2, ⟨[(0, none), (1, none), (7, none), (8, none)], []⟩)], [], iv154_146 xs, [], noM, []⟩
theorem bd154_146 (xs : List Int) (hpre : pr154_146 xs) : bodyP (cx154_146 xs) Try.f154 0 [encL encI 1 (xs), .fn 146 []] (fun rr => VLe rr (rs154_146 xs)) := by
  have key :
      ((∃ x : Nat, ((SLe
   (AS.mk
   [(0, encL encI 1 xs), (1, V.fn (146 : FuncId) []),
   (7, V.int IntKind.i64 (↑(List.length xs) : Int)), (8, V.int IntKind.i64 (0 : Int))]
   [])
   (AS.mk
   [(0, encL encI 1 xs), (1, V.fn (146 : FuncId) []),
   (7, V.int IntKind.i64 (↑(List.length xs) : Int)), (8, V.int IntKind.i64 (↑x : Int))]
   [])) ∧
   ((x ≤ List.length xs) ∧
   (∀ j : Nat,
   ((j < x) →
   ((decide ¬goodR (List.getD xs j default)) = false)))))) ∧
   (∀ x : Nat,
   (((x ≤ List.length xs) ∧
   (∀ j : Nat,
   ((j < x) →
   ((decide ¬goodR (List.getD xs j default)) = false)))) →
   (((decide ((↑x : Int) < (↑(List.length xs) : Int)) = true) →
   ((((0 : Int) ≤ (↑x : Int)) ∧
   ((↑x : Int) < (↑(List.length xs) : Int))) ∧
   ((pr146 (List.getD xs (Int.toNat (↑x : Int)) default)) ∧
   ((((decide ¬goodR (List.getD xs (Int.toNat (↑x : Int)) default)) = true) →
   (VLe (V.int IntKind.i64 (↑x : Int)) (V.int IntKind.i64 (idxF (fun (r : Int) ↦ decide ¬goodR r) xs)))) ∧
   (((decide ¬goodR (List.getD xs (Int.toNat (↑x : Int)) default)) = false) →
   ((inK IntKind.i64 ((↑x : Int) + (1 : Int))) ∧
   (∃ y : Nat, ((SLe
   (AS.mk
   [(0, encL encI 1 xs), (1, V.fn (146 : FuncId) []),
   (7, V.int IntKind.i64 (↑(List.length xs) : Int)), (8, V.int IntKind.i64 ((↑x : Int) + (1 : Int)))]
   [])
   (AS.mk
   [(0, encL encI 1 xs), (1, V.fn (146 : FuncId) []),
   (7, V.int IntKind.i64 (↑(List.length xs) : Int)), (8, V.int IntKind.i64 (↑y : Int))]
   [])) ∧
   (((y ≤ List.length xs) ∧
   (∀ j : Nat,
   ((j < y) →
   ((decide ¬goodR (List.getD xs j default)) = false)))) ∧
   (List.length xs - y < List.length xs - x)))))))))) ∧
   ((decide ((↑x : Int) < (↑(List.length xs) : Int)) = false) →
   (VLe (V.int IntKind.i64 (-1 : Int)) (V.int IntKind.i64 (idxF (fun (r : Int) ↦ decide ¬goodR r) xs)))))))) := by
    obtain ⟨hlen, hp⟩ := hpre
    unfold maxLen at hlen
    refine ⟨⟨0, SLe.refl _, by omega, fun j hj => absurd hj (Nat.not_lt_zero j)⟩, ?_⟩
    rintro i ⟨hi, hj⟩
    refine ⟨fun h => ?_, fun h => ?_⟩
    · have hlt : i < xs.length := by simpa using h
      have hin : xs.getD i default ∈ xs := by simp [hlt]
      simp only [Int.toNat_natCast, decI_int, dec_encPMsg, dec_encPInt, decL_Msg]
      refine ⟨⟨by omega, by omega⟩, trivial, fun h2 => vle_int (idxF_some hlt hj h2).symm, fun h2 => ⟨inK64 (by omega), i + 1, SLe.refl _, ⟨by omega, fun j h3 => ?_⟩, by omega⟩⟩
      rcases Nat.lt_or_ge j i with h4 | h4
      · exact hj j h4
      · have : j = i := by omega
        subst this
        exact h2
    · have hge : i = xs.length := by simp at h; omega
      exact vle_int (idxF_none fun j h3 => hj j (by omega)).symm
  exact Eq.mp (by kernel_rfl) key
theorem so154_146 : Sound Try.prog 154 sp154_146 := by
  refine sound_of_body hmix (pol := 0) Try.func154 rfl (by kernel_rfl) fun args bin ob r bout hDe hob => ?_
  unfold sp154_146 at hDe
  split at hDe
  · rename_i a0
    cases hDe
    exact ⟨rfl, rfl, Nat.le_of_ble_eq_true (by kernel_rfl), cx154_146 ((decL decI) a0), Eq.mp (by kernel_rfl) htt, Eq.mp (by kernel_rfl) da154_146, Eq.mp (by kernel_rfl) (noM_sound (P := Try.prog)), by kernel_rfl, [encL encI 1 (((decL decI) a0)), .fn 146 []], args_of_vles (⟨hob.1, VLe.refl _, trivial⟩), Eq.mp (by kernel_rfl) (bd154_146 ((decL decI) a0) (hob.2))⟩
  · cases hDe

/-! ### slices.ContainsFunc(()int64,int64)@impl.msgFault$2 -/
def pr105_146 (xs : List Int) : Prop := xs.length ≤ maxLen ∧ (True)
noncomputable def rs105_146 (xs : List Int) : V := .bool (xs.any (fun r => decide (¬ goodR r)))
noncomputable def sp105_146 : FSpec := fun args bin => match args, bin with
  | [a0, .fn 146 []], [] => some (VLe a0 (encL encI 1 (((decL decI) a0))) ∧ pr105_146 ((decL decI) a0), rs105_146 ((decL decI) a0), [])
  | _, _ => none
noncomputable def D105_146 : Nat → Option (Bool × FSpec) := lk [(154, (false, sp154_146))]
theorem da105_146 : SoundAll Try.prog D105_146 := soundAll_cons so154_146 (soundAll_nil)
noncomputable def cx105_146 (xs : List Int) : Cx := ⟨tt, D105_146, Try.f105.ntmps, [0, 1, 4], [], [], fun _ => none, [], noM, []⟩
theorem bd105_146 (xs : List Int) (hpre : pr105_146 xs) : bodyP (cx105_146 xs) Try.f105 0 [encL encI 1 (xs), .fn 146 []] (fun rr => VLe rr (rs105_146 xs)) := by
  have key :
      (((VLe (encL encI 1 xs) (encL encI 1 (decL decI (encL encI 1 xs)))) ∧
   (pr154_146 (decL decI (encL encI 1 xs)))) ∧
   (VLe (V.bool (decide (idxF (fun (r : Int) ↦ decide ¬goodR r) (decL decI (encL encI 1 xs)) ≥ (0 : Int))))
   (V.bool (List.any xs fun (r : Int) ↦ decide ¬goodR r)))) := by
    simp only [decL_ints, decL_Cert, dec_encPMsg, dec_encMsg, dec_encPInt, decL_Msg]
    refine ⟨?_, vle_bool (idxF_nonneg _ _)⟩
    repeat' (first | exact VLe.refl _ | exact hpre | apply And.intro)
  exact Eq.mp (by kernel_rfl) key
theorem so105_146 : Sound Try.prog 105 sp105_146 := by
  refine sound_of_body hmix (pol := 0) Try.func105 rfl (by kernel_rfl) fun args bin ob r bout hDe hob => ?_
  unfold sp105_146 at hDe
  split at hDe
  · rename_i a0
    cases hDe
    exact ⟨rfl, rfl, Nat.le_of_ble_eq_true (by kernel_rfl), cx105_146 ((decL decI) a0), Eq.mp (by kernel_rfl) htt, Eq.mp (by kernel_rfl) da105_146, Eq.mp (by kernel_rfl) (noM_sound (P := Try.prog)), by kernel_rfl, [encL encI 1 (((decL decI) a0)), .fn 146 []], args_of_vles (⟨hob.1, VLe.refl _, trivial⟩), Eq.mp (by kernel_rfl) (bd105_146 ((decL decI) a0) (hob.2))⟩
  · cases hDe

/-! ### spec.l8Lists -/
def pr141 (m : Msg) : Prop := m.bd ∧ inR m.view 0 20
noncomputable def rs141 (m : Msg) : V := .int .i64 (listsFault m)
noncomputable def sp141 : FSpec := fun args bin => match args, bin with
  | [a0], [] => some (VLe a0 (encPMsg 1 ((decPMsg a0))) ∧ pr141 (decPMsg a0), rs141 (decPMsg a0), [])
  | _, _ => none
noncomputable def in141_2 (m : Msg) : LoopInv :=
  ⟨Nat, fun i => ⟨[(0, encPMsg 1 m), (3, .int .i64 i)], []⟩, fun i => 1 ≤ i ∧ (i ≤ m.certs.length ∨ i = 1) ∧ ∀ j, 1 ≤ j → j < i → (m.certs.getD (j - 1) default).slot < (m.certs.getD j default).slot, fun i => m.certs.length - i⟩
noncomputable def in141_7 (m : Msg) : LoopInv :=
  ⟨Nat, fun i => ⟨[(0, encPMsg 1 m), (4, .int .i64 i)], []⟩, fun i => 1 ≤ i ∧ (i ≤ m.refs.length ∨ i = 1) ∧ ∀ j, 1 ≤ j → j < i → m.refs.getD (j - 1) default < m.refs.getD j default, fun i => m.refs.length - i⟩
noncomputable def in141_12 (m : Msg) : LoopInv :=
  ⟨Nat, fun i => ⟨[(0, encPMsg 1 m), (5, .int .i64 i)], []⟩, fun i => i ≤ m.certs.length ∧ ∀ j, j < i → goodC m (m.certs.getD j default), fun i => m.certs.length - i⟩
noncomputable def in141_18 (m : Msg) : LoopInv :=
  ⟨Nat, fun i => ⟨[(0, encPMsg 1 m), (7, .int .i64 i)], []⟩, fun i => i ≤ m.refs.length ∧ ∀ j, j < i → goodR (m.refs.getD j default), fun i => m.refs.length - i⟩
noncomputable def iv141 (m : Msg) : Nat → Option LoopInv := fun rg_ => match rg_ with
  | 2 => some (in141_2 m)
  | 7 => some (in141_7 m)
  | 12 => some (in141_12 m)
  | 18 => some (in141_18 m)
  | _ => none
noncomputable def D141 : Nat → Option (Bool × FSpec) := lk [(82, (false, sp82))]
theorem da141 : SoundAll Try.prog D141 := soundAll_cons so82 (soundAll_nil)
noncomputable def cx141 (m : Msg) : Cx := ⟨tt, D141, Try.f141.ntmps, [0, 2, 3, 4, 5, 6, 7, 14, 34, 41, 59, 66, 96, 103, 114], [(2, ⟨[(0, none), (3, none)], []⟩), (7, ⟨[(0, none), (4, none)], []⟩), (12, ⟨[(0, none), (5, none)], []⟩), (18, ⟨[(0, none), (7, none)], []⟩)], [], iv141 m, [], noM, []⟩
theorem bd141 (m : Msg) (hpre : pr141 m) : bodyP (cx141 m) Try.f141 0 [encPMsg 1 (m)] (fun rr => VLe rr (rs141 m)) := by
  have key :
      ((∃ x : Nat, ((SLe (AS.mk [(0, encPMsg 1 m), (3, V.int IntKind.i64 (1 : Int))] [])
   (AS.mk [(0, encPMsg 1 m), (3, V.int IntKind.i64 (↑x : Int))] [])) ∧
   ((1 ≤ x) ∧
   ((x ≤ List.length (Msg.certs m) ∨ x = 1) ∧
   (∀ j : Nat,
   ((1 ≤ j) →
   ((j < x) →
   (Cert.slot (List.getD (Msg.certs m) (j - 1) default) < Cert.slot (List.getD (Msg.certs m) j default))))))))) ∧
   (∀ x : Nat,
   (((1 ≤ x) ∧
   ((x ≤ List.length (Msg.certs m) ∨ x = 1) ∧
   (∀ j : Nat,
   ((1 ≤ j) →
   ((j < x) →
   (Cert.slot (List.getD (Msg.certs m) (j - 1) default) < Cert.slot (List.getD (Msg.certs m) j default))))))) →
   (((decide ((↑x : Int) < (↑(List.length (Msg.certs m)) : Int)) = true) →
   ((((0 : Int) ≤ (↑x : Int)) ∧
   ((↑x : Int) < (↑(List.length (Msg.certs m)) : Int))) ∧
   ((inK IntKind.i64 ((↑x : Int) - (1 : Int))) ∧
   ((((0 : Int) ≤ (↑x : Int) - (1 : Int)) ∧
   ((↑x : Int) - (1 : Int) < (↑(List.length (Msg.certs m)) : Int))) ∧
   (((decide
   (Cert.slot (List.getD (Msg.certs m) (Int.toNat (↑x : Int)) default) ≤
   Cert.slot (List.getD (Msg.certs m) (Int.toNat ((↑x : Int) - (1 : Int))) default)) =
   true) →
   (VLe (V.int IntKind.i64 (1 : Int)) (V.int IntKind.i64 (listsFault m)))) ∧
   ((decide
   (Cert.slot (List.getD (Msg.certs m) (Int.toNat (↑x : Int)) default) ≤
   Cert.slot (List.getD (Msg.certs m) (Int.toNat ((↑x : Int) - (1 : Int))) default)) =
   false) →
   ((inK IntKind.i64 ((↑x : Int) + (1 : Int))) ∧
   (∃ y : Nat, ((SLe (AS.mk [(0, encPMsg 1 m), (3, V.int IntKind.i64 ((↑x : Int) + (1 : Int)))] [])
   (AS.mk [(0, encPMsg 1 m), (3, V.int IntKind.i64 (↑y : Int))] [])) ∧
   (((1 ≤ y) ∧
   ((y ≤ List.length (Msg.certs m) ∨ y = 1) ∧
   (∀ j : Nat,
   ((1 ≤ j) →
   ((j < y) →
   (Cert.slot (List.getD (Msg.certs m) (j - 1) default) < Cert.slot (List.getD (Msg.certs m) j default))))))) ∧
   (List.length (Msg.certs m) - y < List.length (Msg.certs m) - x))))))))))) ∧
   ((decide ((↑x : Int) < (↑(List.length (Msg.certs m)) : Int)) = false) →
   ((∃ x_1 : Nat, ((SLe (AS.mk [(0, encPMsg 1 m), (4, V.int IntKind.i64 (1 : Int))] [])
   (AS.mk [(0, encPMsg 1 m), (4, V.int IntKind.i64 (↑x_1 : Int))] [])) ∧
   ((1 ≤ x_1) ∧
   ((x_1 ≤ List.length (Msg.refs m) ∨ x_1 = 1) ∧
   (∀ j : Nat,
   ((1 ≤ j) →
   ((j < x_1) →
   (List.getD (Msg.refs m) (j - 1) default < List.getD (Msg.refs m) j default)))))))) ∧
   (∀ x_1 : Nat,
   (((1 ≤ x_1) ∧
   ((x_1 ≤ List.length (Msg.refs m) ∨ x_1 = 1) ∧
   (∀ j : Nat,
   ((1 ≤ j) →
   ((j < x_1) →
   (List.getD (Msg.refs m) (j - 1) default < List.getD (Msg.refs m) j default)))))) →
   (((decide ((↑x_1 : Int) < (↑(List.length (Msg.refs m)) : Int)) = true) →
   ((((0 : Int) ≤ (↑x_1 : Int)) ∧
   ((↑x_1 : Int) < (↑(List.length (Msg.refs m)) : Int))) ∧
   ((inK IntKind.i64 ((↑x_1 : Int) - (1 : Int))) ∧
   ((((0 : Int) ≤ (↑x_1 : Int) - (1 : Int)) ∧
   ((↑x_1 : Int) - (1 : Int) < (↑(List.length (Msg.refs m)) : Int))) ∧
   (((decide
   (List.getD (Msg.refs m) (Int.toNat (↑x_1 : Int)) default ≤
   List.getD (Msg.refs m) (Int.toNat ((↑x_1 : Int) - (1 : Int))) default) =
   true) →
   (VLe (V.int IntKind.i64 (1 : Int)) (V.int IntKind.i64 (listsFault m)))) ∧
   ((decide
   (List.getD (Msg.refs m) (Int.toNat (↑x_1 : Int)) default ≤
   List.getD (Msg.refs m) (Int.toNat ((↑x_1 : Int) - (1 : Int))) default) =
   false) →
   ((inK IntKind.i64 ((↑x_1 : Int) + (1 : Int))) ∧
   (∃ y : Nat, ((SLe (AS.mk [(0, encPMsg 1 m), (4, V.int IntKind.i64 ((↑x_1 : Int) + (1 : Int)))] [])
   (AS.mk [(0, encPMsg 1 m), (4, V.int IntKind.i64 (↑y : Int))] [])) ∧
   (((1 ≤ y) ∧
   ((y ≤ List.length (Msg.refs m) ∨ y = 1) ∧
   (∀ j : Nat,
   ((1 ≤ j) →
   ((j < y) →
   (List.getD (Msg.refs m) (j - 1) default < List.getD (Msg.refs m) j default)))))) ∧
   (List.length (Msg.refs m) - y < List.length (Msg.refs m) - x_1))))))))))) ∧
   ((decide ((↑x_1 : Int) < (↑(List.length (Msg.refs m)) : Int)) = false) →
   ((∃ x_2 : Nat, ((SLe (AS.mk [(0, encPMsg 1 m), (5, V.int IntKind.i64 (0 : Int))] [])
   (AS.mk [(0, encPMsg 1 m), (5, V.int IntKind.i64 (↑x_2 : Int))] [])) ∧
   ((x_2 ≤ List.length (Msg.certs m)) ∧
   (∀ j : Nat,
   ((j < x_2) →
   (goodC m (List.getD (Msg.certs m) j default))))))) ∧
   (∀ x_2 : Nat,
   (((x_2 ≤ List.length (Msg.certs m)) ∧
   (∀ j : Nat,
   ((j < x_2) →
   (goodC m (List.getD (Msg.certs m) j default))))) →
   (((decide ((↑x_2 : Int) < (↑(List.length (Msg.certs m)) : Int)) = true) →
   ((((0 : Int) ≤ (↑x_2 : Int)) ∧
   ((↑x_2 : Int) < (↑(List.length (Msg.certs m)) : Int))) ∧
   ((pr82 (Cert.slot (List.getD (Msg.certs m) (Int.toNat (↑x_2 : Int)) default)) (1 : Int) (30 : Int)) ∧
   ((tq (!!decide (inR (Cert.slot (List.getD (Msg.certs m) (Int.toNat (↑x_2 : Int)) default)) (1 : Int) (30 : Int)))) ∧
   ((tq (!!decide (inR (Cert.slot (List.getD (Msg.certs m) (Int.toNat (↑x_2 : Int)) default)) (1 : Int) (30 : Int)))) ∧
   ((tq (!!decide (inR (Cert.slot (List.getD (Msg.certs m) (Int.toNat (↑x_2 : Int)) default)) (1 : Int) (30 : Int)))) ∧
   ((tq (!!decide (inR (Cert.slot (List.getD (Msg.certs m) (Int.toNat (↑x_2 : Int)) default)) (1 : Int) (30 : Int)))) ∧
   ((tq (!!decide (inR (Cert.slot (List.getD (Msg.certs m) (Int.toNat (↑x_2 : Int)) default)) (1 : Int) (30 : Int)))) ∧
   ((((!!decide (inR (Cert.slot (List.getD (Msg.certs m) (Int.toNat (↑x_2 : Int)) default)) (1 : Int) (30 : Int))) = true) →
   (inK IntKind.i64 (Msg.view m - (1 : Int)))) ∧
   ((tq (!!decide (inR (Cert.slot (List.getD (Msg.certs m) (Int.toNat (↑x_2 : Int)) default)) (1 : Int) (30 : Int)))) ∧
   ((tq (!!decide (inR (Cert.slot (List.getD (Msg.certs m) (Int.toNat (↑x_2 : Int)) default)) (1 : Int) (30 : Int)))) ∧
   ((((!!decide (inR (Cert.slot (List.getD (Msg.certs m) (Int.toNat (↑x_2 : Int)) default)) (1 : Int) (30 : Int))) = true) →
   (pr82 (Cert.view (List.getD (Msg.certs m) (Int.toNat (↑x_2 : Int)) default)) (0 : Int) (Msg.view m - (1 : Int)))) ∧
   ((tq (!!decide (inR (Cert.slot (List.getD (Msg.certs m) (Int.toNat (↑x_2 : Int)) default)) (1 : Int) (30 : Int)))) ∧
   (((true = true) →
   (((!decide (inR (Cert.slot (List.getD (Msg.certs m) (Int.toNat (↑x_2 : Int)) default)) (1 : Int) (30 : Int))) = false) →
   ((!!decide (inR (Cert.slot (List.getD (Msg.certs m) (Int.toNat (↑x_2 : Int)) default)) (1 : Int) (30 : Int))) = true))) ∧
   (∀ b : Bool,
   ((b =
   bif !decide (inR (Cert.slot (List.getD (Msg.certs m) (Int.toNat (↑x_2 : Int)) default)) (1 : Int) (30 : Int)) then
   true
   else
   !decide
   (inR (Cert.view (List.getD (Msg.certs m) (Int.toNat (↑x_2 : Int)) default)) (0 : Int) (Msg.view m - (1 : Int)))) →
   ((tq (!b)) ∧
   ((tq (!b)) ∧
   ((((!b) = true) →
   (pr82 (Cert.value (List.getD (Msg.certs m) (Int.toNat (↑x_2 : Int)) default)) (0 : Int) (12 : Int))) ∧
   ((tq (!b)) ∧
   (((true = true) →
   ((b = false) →
   ((!b) = true))) ∧
   (∀ b_1 : Bool,
   ((b_1 =
   bif b then true
   else !decide (inR (Cert.value (List.getD (Msg.certs m) (Int.toNat (↑x_2 : Int)) default)) (0 : Int) (12 : Int))) →
   (((b_1 = true) →
   (VLe (V.int IntKind.i64 (3 : Int)) (V.int IntKind.i64 (listsFault m)))) ∧
   ((b_1 = false) →
   ((inK IntKind.i64 ((↑x_2 : Int) + (1 : Int))) ∧
   (∃ y : Nat, ((SLe (AS.mk [(0, encPMsg 1 m), (5, V.int IntKind.i64 ((↑x_2 : Int) + (1 : Int)))] [])
   (AS.mk [(0, encPMsg 1 m), (5, V.int IntKind.i64 (↑y : Int))] [])) ∧
   (((y ≤ List.length (Msg.certs m)) ∧
   (∀ j : Nat,
   ((j < y) →
   (goodC m (List.getD (Msg.certs m) j default))))) ∧
   (List.length (Msg.certs m) - y < List.length (Msg.certs m) - x_2)))))))))))))))))))))))))))))) ∧
   ((decide ((↑x_2 : Int) < (↑(List.length (Msg.certs m)) : Int)) = false) →
   ((∃ x_3 : Nat, ((SLe (AS.mk [(0, encPMsg 1 m), (7, V.int IntKind.i64 (0 : Int))] [])
   (AS.mk [(0, encPMsg 1 m), (7, V.int IntKind.i64 (↑x_3 : Int))] [])) ∧
   ((x_3 ≤ List.length (Msg.refs m)) ∧
   (∀ j : Nat,
   ((j < x_3) →
   (goodR (List.getD (Msg.refs m) j default))))))) ∧
   (∀ x_3 : Nat,
   (((x_3 ≤ List.length (Msg.refs m)) ∧
   (∀ j : Nat,
   ((j < x_3) →
   (goodR (List.getD (Msg.refs m) j default))))) →
   (((decide ((↑x_3 : Int) < (↑(List.length (Msg.refs m)) : Int)) = true) →
   ((((0 : Int) ≤ (↑x_3 : Int)) ∧
   ((↑x_3 : Int) < (↑(List.length (Msg.refs m)) : Int))) ∧
   ((pr82 (List.getD (Msg.refs m) (Int.toNat (↑x_3 : Int)) default) (0 : Int) (239 : Int)) ∧
   ((((!decide (inR (List.getD (Msg.refs m) (Int.toNat (↑x_3 : Int)) default) (0 : Int) (239 : Int))) = true) →
   (VLe (V.int IntKind.i64 (3 : Int)) (V.int IntKind.i64 (listsFault m)))) ∧
   (((!decide (inR (List.getD (Msg.refs m) (Int.toNat (↑x_3 : Int)) default) (0 : Int) (239 : Int))) = false) →
   ((inK IntKind.i64 ((↑x_3 : Int) + (1 : Int))) ∧
   (∃ y : Nat, ((SLe (AS.mk [(0, encPMsg 1 m), (7, V.int IntKind.i64 ((↑x_3 : Int) + (1 : Int)))] [])
   (AS.mk [(0, encPMsg 1 m), (7, V.int IntKind.i64 (↑y : Int))] [])) ∧
   (((y ≤ List.length (Msg.refs m)) ∧
   (∀ j : Nat,
   ((j < y) →
   (goodR (List.getD (Msg.refs m) j default))))) ∧
   (List.length (Msg.refs m) - y < List.length (Msg.refs m) - x_3)))))))))) ∧
   ((decide ((↑x_3 : Int) < (↑(List.length (Msg.refs m)) : Int)) = false) →
   (VLe (V.int IntKind.i64 (0 : Int)) (V.int IntKind.i64 (listsFault m))))))))))))))))))))))) := by
    obtain ⟨⟨hc, hr⟩, hv⟩ := hpre
    unfold maxLen at hc hr
    unfold inR at hv
    refine ⟨⟨1, SLe.refl _, by omega, Or.inr rfl, fun j h1 h2 => by omega⟩, ?_⟩
    rintro i ⟨h1, hi, hj⟩
    have e1 : ((i : Int) - 1).toNat = i - 1 := by omega
    simp only [Int.toNat_natCast, e1]
    refine ⟨fun h => ?_, fun h => ?_⟩
    · have hlt : i < m.certs.length := by simpa using h
      refine ⟨⟨by omega, by omega⟩, inK64 (by omega), ⟨by omega, by omega⟩, fun h2 => ?_, fun h2 => ⟨inK64 (by omega), i + 1, SLe.refl _, ⟨by omega, by omega, fun j h3 h4 => ?_⟩, by omega⟩⟩
      · refine vle_int ?_
        have : ¬ (riseC m.certs ∧ riseR m.refs) := fun hh => by
          have h6 := hh.1 i h1 hlt
          have h7 := of_decide_eq_true h2
          omega
        unfold listsFault
        rw [if_pos this]
      · rcases Nat.lt_or_ge j i with h5 | h5
        · exact hj j h3 h5
        · have : j = i := by omega
          subst this
          have h7 := of_decide_eq_false h2
          omega
    · have hge : m.certs.length ≤ i := by simpa using h
      have hrc : riseC m.certs := fun j h3 h4 => hj j h3 (by omega)
      clear hj hi h1 h hge e1 i
      refine ⟨⟨1, SLe.refl _, by omega, Or.inr rfl, fun j h1 h2 => by omega⟩, ?_⟩
      rintro i ⟨h1, hi, hj⟩
      have e1 : ((i : Int) - 1).toNat = i - 1 := by omega
      simp only [Int.toNat_natCast, e1]
      refine ⟨fun h => ?_, fun h => ?_⟩
      · have hlt : i < m.refs.length := by simpa using h
        refine ⟨⟨by omega, by omega⟩, inK64 (by omega), ⟨by omega, by omega⟩, fun h2 => ?_, fun h2 => ⟨inK64 (by omega), i + 1, SLe.refl _, ⟨by omega, by omega, fun j h3 h4 => ?_⟩, by omega⟩⟩
        · refine vle_int ?_
          have : ¬ (riseC m.certs ∧ riseR m.refs) := fun hh => by
            have h6 := hh.2 i h1 hlt
            have h7 := of_decide_eq_true h2
            omega
          unfold listsFault
          rw [if_pos this]
        · rcases Nat.lt_or_ge j i with h5 | h5
          · exact hj j h3 h5
          · have : j = i := by omega
            subst this
            have h7 := of_decide_eq_false h2
            omega
      · have hge : m.refs.length ≤ i := by simpa using h
        have hrr : riseR m.refs := fun j h3 h4 => hj j h3 (by omega)
        clear hj hi h1 h hge e1 i
        refine ⟨⟨0, SLe.refl _, by omega, fun j hj => absurd hj (Nat.not_lt_zero j)⟩, ?_⟩
        rintro i ⟨hi, hj⟩
        try simp only [Int.toNat_natCast]
        refine ⟨fun h => ?_, fun h => ?_⟩
        · have hlt : i < m.certs.length := by simpa using h
          have hin : m.certs.getD i default ∈ m.certs := by simp [hlt]
          refine ⟨⟨by omega, by omega⟩, ?_⟩
          repeat (first | (refine And.intro (fun h _ => h) ?_) | (refine And.intro (fun _ h => h) ?_) | (refine And.intro ?aa ?_; case aa => (simp [pr82]; done)) | (refine And.intro ?aa ?_; case aa => (simp_all [pr82]; done)) | (refine And.intro ?aa ?_; case aa => (intros; exact inK64 (by omega))) | (refine And.intro ?aa ?_; case aa => (intros; simp only [decide_eq_true_eq] at *; omega)) | (intro q hq))
          subst_vars
          refine ⟨fun h2 => ?_, fun h2 => ⟨inK64 (by omega), i + 1, SLe.refl _, ⟨by omega, fun j h3 => ?_⟩, by omega⟩⟩
          · have hb : ¬ goodC m (m.certs.getD i default) := fun hg => by
              obtain ⟨g1, g2, g3⟩ := hg
              simp only [g1, g2, g3, decide_true, Bool.not_true, cond_false, Bool.false_eq_true] at h2
            refine vle_int ?_
            unfold listsFault
            rw [if_neg (by simp [hrc, hrr]), if_pos fun hh => hb (hh.1 _ hin)]
          · rcases Nat.lt_or_ge j i with h4 | h4
            · exact hj j h4
            · have : j = i := by omega
              subst this
              simp at h2
              exact ⟨h2.1.1, h2.1.2, h2.2⟩
        · have hgc : ∀ c ∈ m.certs, goodC m c := fun c hc => by
            obtain ⟨k, hk, rfl⟩ := List.getElem_of_mem hc
            have hge : i = m.certs.length := by simp at h; omega
            have := hj k (by omega)
            simpa [hk] using this
          clear hj hi h i
          refine ⟨⟨0, SLe.refl _, by omega, fun j hj => absurd hj (Nat.not_lt_zero j)⟩, ?_⟩
          rintro i ⟨hi, hj⟩
          try simp only [Int.toNat_natCast]
          refine ⟨fun h => ?_, fun h => ?_⟩
          · have hlt : i < m.refs.length := by simpa using h
            have hin : m.refs.getD i default ∈ m.refs := by simp [hlt]
            refine ⟨⟨by omega, by omega⟩, trivial, fun h2 => ?_, fun h2 => ⟨inK64 (by omega), i + 1, SLe.refl _, ⟨by omega, fun j h3 => ?_⟩, by omega⟩⟩
            · have hb : ¬ goodR (m.refs.getD i default) := fun hg => by
                unfold goodR at hg
                simp only [hg, decide_true, Bool.not_true, Bool.false_eq_true] at h2
              refine vle_int ?_
              unfold listsFault
              rw [if_neg (by simp [hrc, hrr]), if_pos fun hh => hb (hh.2 _ hin)]
            · rcases Nat.lt_or_ge j i with h4 | h4
              · exact hj j h4
              · have : j = i := by omega
                subst this
                unfold goodR
                simpa using h2
          · have hgr : ∀ r ∈ m.refs, goodR r := fun r hr => by
              obtain ⟨k, hk, rfl⟩ := List.getElem_of_mem hr
              have hge : i = m.refs.length := by simp at h; omega
              have := hj k (by omega)
              simpa [hk] using this
            refine vle_int ?_
            unfold listsFault
            rw [if_neg (by simp [hrc, hrr]), if_neg (by simp; exact ⟨hgc, hgr⟩)]
  exact Eq.mp (by kernel_rfl) key
theorem so141 : Sound Try.prog 141 sp141 := by
  refine sound_of_body hmix (pol := 0) Try.func141 rfl (by kernel_rfl) fun args bin ob r bout hDe hob => ?_
  unfold sp141 at hDe
  split at hDe
  · rename_i a0
    cases hDe
    exact ⟨rfl, rfl, Nat.le_of_ble_eq_true (by kernel_rfl), cx141 (decPMsg a0), Eq.mp (by kernel_rfl) htt, Eq.mp (by kernel_rfl) da141, Eq.mp (by kernel_rfl) (noM_sound (P := Try.prog)), by kernel_rfl, [encPMsg 1 ((decPMsg a0))], args_of_vles (⟨hob.1, trivial⟩), Eq.mp (by kernel_rfl) (bd141 (decPMsg a0) (hob.2))⟩
  · cases hDe

/-! ### spec.l8Msg -/
def pr93 (f : Int) (m : Msg) : Prop := okF f ∧ m.bd
noncomputable def rs93 (f : Int) (m : Msg) : V := .int .i64 (msgFault f m)
noncomputable def sp93 : FSpec := fun args bin => match args, bin with
  | [.int .i64 a0, a1], [] => some (VLe a1 (encPMsg 1 ((decPMsg a1))) ∧ pr93 a0 (decPMsg a1), rs93 a0 (decPMsg a1), [])
  | _, _ => none
noncomputable def D93 : Nat → Option (Bool × FSpec) := lk [(140, (false, sp140)), (82, (false, sp82)), (111, (false, sp111)), (141, (false, sp141))]
theorem da93 : SoundAll Try.prog D93 := soundAll_cons so140 (soundAll_cons so82 (soundAll_cons so111 (soundAll_cons so141 (soundAll_nil))))
noncomputable def cx93 (f : Int) (m : Msg) : Cx := ⟨tt, D93, Try.f93.ntmps, [0, 1, 4, 5, 8, 47, 64], [], [], fun _ => none, [], noM, []⟩
theorem bd93 (f : Int) (m : Msg) (hpre : pr93 f m) : bodyP (cx93 f m) Try.f93 0 [.int .i64 (f), encPMsg 1 (m)] (fun rr => VLe rr (rs93 f m)) := by
  have key :
      (((VLe (encPMsg 1 m) (encPMsg 1 (decPMsg (encPMsg 1 m)))) ∧
   (pr140 (decPMsg (encPMsg 1 m)))) ∧
   ((((!decide (bare (decPMsg (encPMsg 1 m)))) = true) →
   (VLe (V.int IntKind.i64 (1 : Int)) (V.int IntKind.i64 (msgFault f m)))) ∧
   (((!decide (bare (decPMsg (encPMsg 1 m)))) = false) →
   ((pr82 (Msg.view m) (0 : Int) (20 : Int)) ∧
   ((tq (!!decide (inR (Msg.view m) (0 : Int) (20 : Int)))) ∧
   ((tq (!!decide (inR (Msg.view m) (0 : Int) (20 : Int)))) ∧
   ((tq (!!decide (inR (Msg.view m) (0 : Int) (20 : Int)))) ∧
   ((tq (!!decide (inR (Msg.view m) (0 : Int) (20 : Int)))) ∧
   ((tq (!!decide (inR (Msg.view m) (0 : Int) (20 : Int)))) ∧
   ((((!!decide (inR (Msg.view m) (0 : Int) (20 : Int))) = true) →
   (pr111 f (Msg.sender m))) ∧
   ((tq (!!decide (inR (Msg.view m) (0 : Int) (20 : Int)))) ∧
   (((true = true) →
   (((!decide (inR (Msg.view m) (0 : Int) (20 : Int))) = false) →
   ((!!decide (inR (Msg.view m) (0 : Int) (20 : Int))) = true))) ∧
   (∀ b : Bool,
   ((b =
   bif !decide (inR (Msg.view m) (0 : Int) (20 : Int)) then true
   else !decide (inR (Msg.sender m) (1 : Int) ((3 : Int) * f + (1 : Int)))) →
   ((tq (!b)) ∧
   ((tq (!b && decide (Msg.kind m ≤ (3 : Int)))) ∧
   ((tq (!b && decide (Msg.kind m ≤ (3 : Int)))) ∧
   ((tq (!b && decide (Msg.kind m ≤ (3 : Int)))) ∧
   ((tq (!b && decide (Msg.kind m ≤ (3 : Int)))) ∧
   ((((!b && decide (Msg.kind m ≤ (3 : Int))) = true) →
   (pr82 (Msg.slot m) (1 : Int) (30 : Int))) ∧
   ((tq (!b && decide (Msg.kind m ≤ (3 : Int)))) ∧
   ((tq (!b && decide (Msg.kind m ≤ (3 : Int)))) ∧
   ((tq (!b && decide (Msg.kind m ≤ (3 : Int)) && !!decide (inR (Msg.slot m) (1 : Int) (30 : Int)))) ∧
   ((tq (!b && decide (Msg.kind m ≤ (3 : Int)) && !!decide (inR (Msg.slot m) (1 : Int) (30 : Int)))) ∧
   ((tq (!b && decide (Msg.kind m ≤ (3 : Int)) && !!decide (inR (Msg.slot m) (1 : Int) (30 : Int)))) ∧
   ((tq (!b && decide (Msg.kind m ≤ (3 : Int)) && !!decide (inR (Msg.slot m) (1 : Int) (30 : Int)))) ∧
   ((((!b && decide (Msg.kind m ≤ (3 : Int)) && !!decide (inR (Msg.slot m) (1 : Int) (30 : Int))) = true) →
   (pr82 (Msg.value m) (0 : Int) (12 : Int))) ∧
   ((tq (!b && decide (Msg.kind m ≤ (3 : Int)) && !!decide (inR (Msg.slot m) (1 : Int) (30 : Int)))) ∧
   ((tq (!b && decide (Msg.kind m ≤ (3 : Int)))) ∧
   ((((!b && decide (Msg.kind m ≤ (3 : Int))) = true) →
   (((!b && decide (Msg.kind m ≤ (3 : Int))) = true) →
   (((!decide (inR (Msg.slot m) (1 : Int) (30 : Int))) = false) →
   ((!b && decide (Msg.kind m ≤ (3 : Int)) && !!decide (inR (Msg.slot m) (1 : Int) (30 : Int))) = true)))) ∧
   (∀ b_1 : Bool,
   ((b_1 =
   bif !decide (inR (Msg.slot m) (1 : Int) (30 : Int)) then true else !decide (inR (Msg.value m) (0 : Int) (12 : Int))) →
   ((tq (!b)) ∧
   ((((!b) = true) →
   (((!b) = true) →
   ((decide (Msg.kind m ≤ (3 : Int)) = true) →
   ((!b && decide (Msg.kind m ≤ (3 : Int))) = true)))) ∧
   (∀ b_2 : Bool,
   ((b_2 = bif decide (Msg.kind m ≤ (3 : Int)) then b_1 else false) →
   (((true = true) →
   ((b = false) →
   ((!b) = true))) ∧
   (∀ b_3 : Bool,
   ((b_3 = bif b then true else b_2) →
   (((b_3 = true) →
   (VLe (V.int IntKind.i64 (3 : Int)) (V.int IntKind.i64 (msgFault f m)))) ∧
   ((b_3 = false) →
   ((tq (!decide ((↑(List.length (Msg.certs m)) : Int) > (30 : Int)))) ∧
   ((tq (!decide ((↑(List.length (Msg.certs m)) : Int) > (30 : Int)))) ∧
   ((tq (!decide ((↑(List.length (Msg.certs m)) : Int) > (30 : Int)))) ∧
   ((tq (!decide ((↑(List.length (Msg.certs m)) : Int) > (30 : Int)))) ∧
   ((tq (!decide ((↑(List.length (Msg.certs m)) : Int) > (30 : Int)))) ∧
   ((((!decide ((↑(List.length (Msg.certs m)) : Int) > (30 : Int))) = true) →
   (inK IntKind.i64 ((3 : Int) * f))) ∧
   ((tq (!decide ((↑(List.length (Msg.certs m)) : Int) > (30 : Int)))) ∧
   ((((!decide ((↑(List.length (Msg.certs m)) : Int) > (30 : Int))) = true) →
   (inK IntKind.i64 ((3 : Int) * f + (1 : Int)))) ∧
   ((tq (!decide ((↑(List.length (Msg.certs m)) : Int) > (30 : Int)))) ∧
   ((tq (!decide ((↑(List.length (Msg.certs m)) : Int) > (30 : Int)))) ∧
   (((true = true) →
   ((decide ((↑(List.length (Msg.certs m)) : Int) > (30 : Int)) = false) →
   ((!decide ((↑(List.length (Msg.certs m)) : Int) > (30 : Int))) = true))) ∧
   (∀ b_4 : Bool,
   ((b_4 =
   bif decide ((↑(List.length (Msg.certs m)) : Int) > (30 : Int)) then true
   else decide ((↑(List.length (Msg.refs m)) : Int) > (3 : Int) * f + (1 : Int))) →
   (((b_4 = true) →
   (VLe (V.int IntKind.i64 (2 : Int)) (V.int IntKind.i64 (msgFault f m)))) ∧
   ((b_4 = false) →
   (((VLe (encPMsg 1 m) (encPMsg 1 (decPMsg (encPMsg 1 m)))) ∧
   (pr141 (decPMsg (encPMsg 1 m)))) ∧
   (VLe (V.int IntKind.i64 (listsFault (decPMsg (encPMsg 1 m)))) (V.int IntKind.i64 (msgFault f m)))))))))))))))))))))))))))))))))))))))))))))))))))))))))))) := by
    obtain ⟨hf, hc, hr⟩ := hpre
    have hf' : 1 ≤ f ∧ f ≤ 2 := by unfold okF at hf; omega
    simp only [dec_encPMsg]
    refine ⟨⟨VLe.refl _, trivial⟩, fun h => ?_, fun h => ?_⟩
    · refine vle_int ?_
      have hn : ¬ bare m := by simpa using h
      unfold msgFault
      rw [if_pos hn]
    · have hb : bare m := by simpa using h
      clear h
      have hk : 1 ≤ m.kind := hb.1.1
      repeat (first | (refine And.intro (fun h _ => h) ?_) | (refine And.intro (fun _ h => h) ?_) | (refine And.intro ?aa ?_; case aa => (simp [hf, pr140, pr82, pr111, pr141]; done)) | (refine And.intro ?aa ?_; case aa => (simp_all [hf, pr140, pr82, pr111, pr141]; done)) | (refine And.intro ?aa ?_; case aa => (intros; exact inK64 (by omega))) | (refine And.intro ?aa ?_; case aa => (intros; simp only [decide_eq_true_eq] at *; omega)) | (intro q hq))
      have e0 : q = decide (¬ ranged f m) := by
        subst_vars
        rw [Bool.eq_iff_iff]
        simp
        try simp only [ranged, inR]
        try omega
      clear hq
      refine ⟨fun h => ?_, fun h => ?_⟩
      · have hn : ¬ ranged f m := by simpa [e0] using h
        refine vle_int ?_
        unfold msgFault
        rw [if_neg (not_not_intro hb), if_pos hn]
      · have hra : ranged f m := by simpa [e0] using h
        clear e0 h
        repeat (first | (refine And.intro (fun h _ => h) ?_) | (refine And.intro (fun _ h => h) ?_) | (refine And.intro ?aa ?_; case aa => (simp [hf, pr140, pr82, pr111, pr141]; done)) | (refine And.intro ?aa ?_; case aa => (simp_all [hf, pr140, pr82, pr111, pr141]; done)) | (refine And.intro ?aa ?_; case aa => (intros; exact inK64 (by omega))) | (refine And.intro ?aa ?_; case aa => (intros; simp only [decide_eq_true_eq] at *; omega)) | (intro q hq))
        have e0 : q = decide (¬ few f m) := by
          subst_vars
          rw [Bool.eq_iff_iff]
          simp
          try simp only [few]
          try omega
        clear hq
        refine ⟨fun h => ?_, fun h => ?_⟩
        · have hn : ¬ few f m := by simpa [e0] using h
          refine vle_int ?_
          unfold msgFault
          rw [if_neg (not_not_intro hb), if_neg (not_not_intro hra), if_pos hn]
        · have hfw : few f m := by simpa [e0] using h
          clear e0 h
          refine ⟨⟨VLe.refl _, ⟨hc, hr⟩, hra.1⟩, vle_int ?_⟩
          unfold msgFault
          rw [if_neg (not_not_intro hb), if_neg (not_not_intro hra), if_neg (not_not_intro hfw)]
  exact Eq.mp (by kernel_rfl) key
theorem so93 : Sound Try.prog 93 sp93 := by
  refine sound_of_body hmix (pol := 0) Try.func93 rfl (by kernel_rfl) fun args bin ob r bout hDe hob => ?_
  unfold sp93 at hDe
  split at hDe
  · rename_i a0 a1
    cases hDe
    exact ⟨rfl, rfl, Nat.le_of_ble_eq_true (by kernel_rfl), cx93 a0 (decPMsg a1), Eq.mp (by kernel_rfl) htt, Eq.mp (by kernel_rfl) da93, Eq.mp (by kernel_rfl) (noM_sound (P := Try.prog)), by kernel_rfl, [.int .i64 (a0), encPMsg 1 ((decPMsg a1))], args_of_vles (⟨VLe.refl _, hob.1, trivial⟩), Eq.mp (by kernel_rfl) (bd93 a0 (decPMsg a1) (hob.2))⟩
  · cases hDe

/-! ### impl.msgFault -/
def pr94 (f : Int) (m : Msg) : Prop := okF f ∧ m.bd
noncomputable def rs94 (f : Int) (m : Msg) : V := .int .i64 (msgFault f m)
noncomputable def sp94 : FSpec := fun args bin => match args, bin with
  | [.int .i64 a0, a1], [] => some (VLe a1 (encMsg 1 ((decMsg a1))) ∧ pr94 a0 (decMsg a1), rs94 a0 (decMsg a1), [])
  | _, _ => none
noncomputable def in94_9 (f : Int) (m : Msg) : LoopInv :=
  ⟨Nat, fun i => ⟨[(0, .int .i64 f), (3, .oref 256 0 0), (95, encL (encCert 1) 1 m.certs), (96, .int .i64 m.certs.length), (97, .int .i64 i)], [(256, .box (encMsg 1 m).cells)]⟩, fun i => i ≤ m.certs.length ∧ ∀ j, 1 ≤ j → j < i → (m.certs.getD (j - 1) default).slot < (m.certs.getD j default).slot, fun i => m.certs.length - i⟩
noncomputable def in94_15 (f : Int) (m : Msg) : LoopInv :=
  ⟨Nat, fun i => ⟨[(3, .oref 256 0 0), (118, encL encI 1 m.refs), (119, .int .i64 m.refs.length), (120, .int .i64 i)], [(256, .box (encMsg 1 m).cells)]⟩, fun i => i ≤ m.refs.length ∧ ∀ j, 1 ≤ j → j < i → m.refs.getD (j - 1) default < m.refs.getD j default, fun i => m.refs.length - i⟩
noncomputable def iv94 (f : Int) (m : Msg) : Nat → Option LoopInv := fun rg_ => match rg_ with
  | 9 => some (in94_9 f m)
  | 15 => some (in94_15 f m)
  | _ => none
noncomputable def D94 : Nat → Option (Bool × FSpec) := lk [(142, (false, sp142)), (107, (false, sp107)), (84, (false, sp84)), (112, (false, sp112)), (130, (false, sp130)), (143, (false, sp143)), (104, (false, sp104)), (144, (false, sp144_145)), (105, (false, sp105_146))]
theorem da94 : SoundAll Try.prog D94 := soundAll_cons so142 (soundAll_cons so107 (soundAll_cons so84 (soundAll_cons so112 (soundAll_cons so130 (soundAll_cons so143 (soundAll_cons so104 (soundAll_cons so144_145 (soundAll_cons so105_146 (soundAll_nil)))))))))
noncomputable def cx94 (f : Int) (m : Msg) : Cx := ⟨tt, D94, Try.f94.ntmps, [0, 1, 3, 4, 5, 6, 7, 8, 9, 13, 54, 81, 95, 96, 97, 98, 115, 118, 119, 120, 121, 136, 141, 144], [(9, ⟨[(0, none), (3, none), (95, none), (96, none), (97, none)], [(256, [])]⟩), (15, ⟨[(3, none), (118, none), (119, none), (120, none)], [(256, [])]⟩)], [], iv94 f m, [], noM, []⟩
theorem bd94 (f : Int) (m : Msg) (hpre : pr94 f m) : bodyP (cx94 f m) Try.f94 0 [.int .i64 (f), encMsg 1 (m)] (fun rr => VLe rr (rs94 f m)) := by
  have key :
      ((pr142 (Msg.kind m)) ∧
   ((pr107 (Msg.kind m) (1 : Int) (5 : Int)) ∧
   ((tq (!!decide (inR (Msg.kind m) (1 : Int) (5 : Int)))) ∧
   ((tq (!!decide (inR (Msg.kind m) (1 : Int) (5 : Int)))) ∧
   ((tq (!!decide (inR (Msg.kind m) (1 : Int) (5 : Int)) && !decide (inR (Msg.kind m) (1 : Int) (3 : Int)))) ∧
   ((tq (!!decide (inR (Msg.kind m) (1 : Int) (5 : Int)) && !decide (inR (Msg.kind m) (1 : Int) (3 : Int)))) ∧
   ((tq (!!decide (inR (Msg.kind m) (1 : Int) (5 : Int)) && !decide (inR (Msg.kind m) (1 : Int) (3 : Int)))) ∧
   ((tq (!!decide (inR (Msg.kind m) (1 : Int) (5 : Int)) && !decide (inR (Msg.kind m) (1 : Int) (3 : Int)) &&
   !Msg.slot m != (0 : Int))) ∧
   ((tq (!!decide (inR (Msg.kind m) (1 : Int) (5 : Int)) && !decide (inR (Msg.kind m) (1 : Int) (3 : Int)) &&
   !Msg.slot m != (0 : Int))) ∧
   ((tq (!!decide (inR (Msg.kind m) (1 : Int) (5 : Int)) && !decide (inR (Msg.kind m) (1 : Int) (3 : Int)))) ∧
   ((((!!decide (inR (Msg.kind m) (1 : Int) (5 : Int)) && !decide (inR (Msg.kind m) (1 : Int) (3 : Int))) = true) →
   (((!!decide (inR (Msg.kind m) (1 : Int) (5 : Int)) && !decide (inR (Msg.kind m) (1 : Int) (3 : Int))) = true) →
   (((Msg.slot m != (0 : Int)) = false) →
   ((!!decide (inR (Msg.kind m) (1 : Int) (5 : Int)) && !decide (inR (Msg.kind m) (1 : Int) (3 : Int)) &&
   !Msg.slot m != (0 : Int)) =
   true)))) ∧
   (∀ b : Bool,
   ((b = bif Msg.slot m != (0 : Int) then true else Msg.value m != (0 : Int)) →
   ((tq (!!decide (inR (Msg.kind m) (1 : Int) (5 : Int)))) ∧
   ((((!!decide (inR (Msg.kind m) (1 : Int) (5 : Int))) = true) →
   (((!!decide (inR (Msg.kind m) (1 : Int) (5 : Int))) = true) →
   (((!decide (inR (Msg.kind m) (1 : Int) (3 : Int))) = true) →
   ((!!decide (inR (Msg.kind m) (1 : Int) (5 : Int)) && !decide (inR (Msg.kind m) (1 : Int) (3 : Int))) = true)))) ∧
   (∀ b_1 : Bool,
   ((b_1 = bif !decide (inR (Msg.kind m) (1 : Int) (3 : Int)) then b else false) →
   (((true = true) →
   (((!decide (inR (Msg.kind m) (1 : Int) (5 : Int))) = false) →
   ((!!decide (inR (Msg.kind m) (1 : Int) (5 : Int))) = true))) ∧
   (∀ b_2 : Bool,
   ((b_2 = bif !decide (inR (Msg.kind m) (1 : Int) (5 : Int)) then true else b_1) →
   ((tq (!b_2)) ∧
   ((tq (!b_2)) ∧
   ((tq (!b_2)) ∧
   ((tq (!b_2 && Msg.kind m != (4 : Int))) ∧
   ((tq (!b_2 && Msg.kind m != (4 : Int))) ∧
   ((tq (!b_2 && Msg.kind m != (4 : Int))) ∧
   ((tq (!b_2)) ∧
   ((((!b_2) = true) →
   (((!b_2) = true) →
   (((Msg.kind m != (4 : Int)) = true) →
   ((!b_2 && Msg.kind m != (4 : Int)) = true)))) ∧
   (∀ b_3 : Bool,
   ((b_3 = bif Msg.kind m != (4 : Int) then decide ((↑(List.length (Msg.certs m)) : Int) > (0 : Int)) else false) →
   (((true = true) →
   ((b_2 = false) →
   ((!b_2) = true))) ∧
   (∀ b_4 : Bool,
   ((b_4 = bif b_2 then true else b_3) →
   ((tq (!b_4)) ∧
   ((tq (!b_4)) ∧
   ((tq (!b_4)) ∧
   ((tq (!b_4 && Msg.kind m != (5 : Int))) ∧
   ((tq (!b_4 && Msg.kind m != (5 : Int))) ∧
   ((tq (!b_4 && Msg.kind m != (5 : Int))) ∧
   ((tq (!b_4)) ∧
   ((((!b_4) = true) →
   (((!b_4) = true) →
   (((Msg.kind m != (5 : Int)) = true) →
   ((!b_4 && Msg.kind m != (5 : Int)) = true)))) ∧
   (∀ b_5 : Bool,
   ((b_5 = bif Msg.kind m != (5 : Int) then decide ((↑(List.length (Msg.refs m)) : Int) > (0 : Int)) else false) →
   (((true = true) →
   ((b_4 = false) →
   ((!b_4) = true))) ∧
   (∀ b_6 : Bool,
   ((b_6 = bif b_4 then true else b_5) →
   (((b_6 = true) →
   (VLe (V.int IntKind.i64 (1 : Int)) (V.int IntKind.i64 (msgFault f m)))) ∧
   ((b_6 = false) →
   ((pr84 (Msg.view m)) ∧
   ((tq (!!decide (inR (Msg.view m) (0 : Int) (20 : Int)))) ∧
   ((tq (!!decide (inR (Msg.view m) (0 : Int) (20 : Int)))) ∧
   ((tq (!!decide (inR (Msg.view m) (0 : Int) (20 : Int)))) ∧
   ((((!!decide (inR (Msg.view m) (0 : Int) (20 : Int))) = true) →
   (pr112 f (Msg.sender m))) ∧
   ((tq (!!decide (inR (Msg.view m) (0 : Int) (20 : Int)))) ∧
   (((true = true) →
   (((!decide (inR (Msg.view m) (0 : Int) (20 : Int))) = false) →
   ((!!decide (inR (Msg.view m) (0 : Int) (20 : Int))) = true))) ∧
   (∀ b_7 : Bool,
   ((b_7 =
   bif !decide (inR (Msg.view m) (0 : Int) (20 : Int)) then true
   else !decide (inR (Msg.sender m) (1 : Int) ((3 : Int) * f + (1 : Int)))) →
   ((tq (!b_7)) ∧
   ((tq (!b_7 && decide (inR (Msg.kind m) (1 : Int) (3 : Int)))) ∧
   ((tq (!b_7 && decide (inR (Msg.kind m) (1 : Int) (3 : Int)))) ∧
   ((((!b_7 && decide (inR (Msg.kind m) (1 : Int) (3 : Int))) = true) →
   (pr130 (Msg.slot m))) ∧
   ((tq (!b_7 && decide (inR (Msg.kind m) (1 : Int) (3 : Int)))) ∧
   ((tq (!b_7 && decide (inR (Msg.kind m) (1 : Int) (3 : Int)))) ∧
   ((tq (!b_7 && decide (inR (Msg.kind m) (1 : Int) (3 : Int)) && !!decide (inR (Msg.slot m) (1 : Int) (30 : Int)))) ∧
   ((tq (!b_7 && decide (inR (Msg.kind m) (1 : Int) (3 : Int)) && !!decide (inR (Msg.slot m) (1 : Int) (30 : Int)))) ∧
   ((((!b_7 && decide (inR (Msg.kind m) (1 : Int) (3 : Int)) && !!decide (inR (Msg.slot m) (1 : Int) (30 : Int))) = true) →
   (pr143 (Msg.value m))) ∧
   ((tq (!b_7 && decide (inR (Msg.kind m) (1 : Int) (3 : Int)) && !!decide (inR (Msg.slot m) (1 : Int) (30 : Int)))) ∧
   ((tq (!b_7 && decide (inR (Msg.kind m) (1 : Int) (3 : Int)))) ∧
   ((((!b_7 && decide (inR (Msg.kind m) (1 : Int) (3 : Int))) = true) →
   (((!b_7 && decide (inR (Msg.kind m) (1 : Int) (3 : Int))) = true) →
   (((!decide (inR (Msg.slot m) (1 : Int) (30 : Int))) = false) →
   ((!b_7 && decide (inR (Msg.kind m) (1 : Int) (3 : Int)) && !!decide (inR (Msg.slot m) (1 : Int) (30 : Int))) = true)))) ∧
   (∀ b_8 : Bool,
   ((b_8 =
   bif !decide (inR (Msg.slot m) (1 : Int) (30 : Int)) then true else !decide (inR (Msg.value m) (0 : Int) (12 : Int))) →
   ((tq (!b_7)) ∧
   ((((!b_7) = true) →
   (((!b_7) = true) →
   ((decide (inR (Msg.kind m) (1 : Int) (3 : Int)) = true) →
   ((!b_7 && decide (inR (Msg.kind m) (1 : Int) (3 : Int))) = true)))) ∧
   (∀ b_9 : Bool,
   ((b_9 = bif decide (inR (Msg.kind m) (1 : Int) (3 : Int)) then b_8 else false) →
   (((true = true) →
   ((b_7 = false) →
   ((!b_7) = true))) ∧
   (∀ b_10 : Bool,
   ((b_10 = bif b_7 then true else b_9) →
   (((b_10 = true) →
   (VLe (V.int IntKind.i64 (3 : Int)) (V.int IntKind.i64 (msgFault f m)))) ∧
   ((b_10 = false) →
   ((tq (!decide ((↑(List.length (Msg.certs m)) : Int) > (30 : Int)))) ∧
   ((tq (!decide ((↑(List.length (Msg.certs m)) : Int) > (30 : Int)))) ∧
   ((tq (!decide ((↑(List.length (Msg.certs m)) : Int) > (30 : Int)))) ∧
   ((((!decide ((↑(List.length (Msg.certs m)) : Int) > (30 : Int))) = true) →
   (pr104 f)) ∧
   ((tq (!decide ((↑(List.length (Msg.certs m)) : Int) > (30 : Int)))) ∧
   ((tq (!decide ((↑(List.length (Msg.certs m)) : Int) > (30 : Int)))) ∧
   (((true = true) →
   ((decide ((↑(List.length (Msg.certs m)) : Int) > (30 : Int)) = false) →
   ((!decide ((↑(List.length (Msg.certs m)) : Int) > (30 : Int))) = true))) ∧
   (∀ b_11 : Bool,
   ((b_11 =
   bif decide ((↑(List.length (Msg.certs m)) : Int) > (30 : Int)) then true
   else decide ((↑(List.length (Msg.refs m)) : Int) > (3 : Int) * f + (1 : Int))) →
   (((b_11 = true) →
   (VLe (V.int IntKind.i64 (2 : Int)) (V.int IntKind.i64 (msgFault f m)))) ∧
   ((b_11 = false) →
   ((∃ x : Nat, ((SLe
   (AS.mk
   [(0, V.int IntKind.i64 f), (3, V.oref 256 0 0),
   (95, encL (encCert 1) 1 (Msg.certs m)),
   (96, V.int IntKind.i64 (↑(List.length (Msg.certs m)) : Int)), (97, V.int IntKind.i64 (0 : Int))]
   [(256,
   Blk.box
   [V.int IntKind.i64 (Msg.kind m), V.int IntKind.i64 (Msg.view m), V.int IntKind.i64 (Msg.sender m),
   V.int IntKind.i64 (Msg.slot m), V.int IntKind.i64 (Msg.value m),
   encL (encCert 1) 1 (Msg.certs m), encL encI 1 (Msg.refs m)])])
   (AS.mk
   [(0, V.int IntKind.i64 f), (3, V.oref 256 0 0),
   (95, encL (encCert 1) 1 (Msg.certs m)),
   (96, V.int IntKind.i64 (↑(List.length (Msg.certs m)) : Int)), (97, V.int IntKind.i64 (↑x : Int))]
   [(256,
   Blk.box
   [V.int IntKind.i64 (Msg.kind m), V.int IntKind.i64 (Msg.view m), V.int IntKind.i64 (Msg.sender m),
   V.int IntKind.i64 (Msg.slot m), V.int IntKind.i64 (Msg.value m),
   encL (encCert 1) 1 (Msg.certs m), encL encI 1 (Msg.refs m)])])) ∧
   ((x ≤ List.length (Msg.certs m)) ∧
   (∀ j : Nat,
   ((1 ≤ j) →
   ((j < x) →
   (Cert.slot (List.getD (Msg.certs m) (j - 1) default) < Cert.slot (List.getD (Msg.certs m) j default)))))))) ∧
   (∀ x : Nat,
   (((x ≤ List.length (Msg.certs m)) ∧
   (∀ j : Nat,
   ((1 ≤ j) →
   ((j < x) →
   (Cert.slot (List.getD (Msg.certs m) (j - 1) default) < Cert.slot (List.getD (Msg.certs m) j default)))))) →
   (((decide ((↑x : Int) < (↑(List.length (Msg.certs m)) : Int)) = true) →
   ((((0 : Int) ≤ (↑x : Int)) ∧
   ((↑x : Int) < (↑(List.length (Msg.certs m)) : Int))) ∧
   ((tq (decide ((↑x : Int) > (0 : Int)))) ∧
   ((tq (decide ((↑x : Int) > (0 : Int)))) ∧
   ((tq (decide ((↑x : Int) > (0 : Int)))) ∧
   (((decide ((↑x : Int) > (0 : Int)) = true) →
   (inK IntKind.i64 ((↑x : Int) - (1 : Int)))) ∧
   ((tq (decide ((↑x : Int) > (0 : Int)))) ∧
   ((tq (decide ((↑x : Int) > (0 : Int)))) ∧
   (((decide ((↑x : Int) > (0 : Int)) = true) →
   (((0 : Int) ≤ (↑x : Int) - (1 : Int)) ∧
   ((↑x : Int) - (1 : Int) < (↑(List.length (Msg.certs m)) : Int)))) ∧
   ((tq (decide ((↑x : Int) > (0 : Int)))) ∧
   ((tq (decide ((↑x : Int) > (0 : Int)))) ∧
   ((tq (decide ((↑x : Int) > (0 : Int)))) ∧
   ((tq (decide ((↑x : Int) > (0 : Int)))) ∧
   (((true = true) →
   ((decide ((↑x : Int) > (0 : Int)) = true) →
   (decide ((↑x : Int) > (0 : Int)) = true))) ∧
   (∀ b_12 : Bool,
   ((b_12 =
   bif decide ((↑x : Int) > (0 : Int)) then
   decide
   (Cert.slot (List.getD (Msg.certs m) (Int.toNat (↑x : Int)) default) ≤
   Cert.slot (List.getD (Msg.certs m) (Int.toNat ((↑x : Int) - (1 : Int))) default))
   else false) →
   (((b_12 = true) →
   (VLe (V.int IntKind.i64 (1 : Int)) (V.int IntKind.i64 (msgFault f m)))) ∧
   ((b_12 = false) →
   ((inK IntKind.i64 ((↑x : Int) + (1 : Int))) ∧
   (∃ y : Nat, ((SLe
   (AS.mk
   [(0, V.int IntKind.i64 f), (3, V.oref 256 0 0),
   (95, encL (encCert 1) 1 (Msg.certs m)),
   (96, V.int IntKind.i64 (↑(List.length (Msg.certs m)) : Int)),
   (97, V.int IntKind.i64 ((↑x : Int) + (1 : Int)))]
   [(256,
   Blk.box
   [V.int IntKind.i64 (Msg.kind m), V.int IntKind.i64 (Msg.view m), V.int IntKind.i64 (Msg.sender m),
   V.int IntKind.i64 (Msg.slot m), V.int IntKind.i64 (Msg.value m),
   encL (encCert 1) 1 (Msg.certs m), encL encI 1 (Msg.refs m)])])
   (AS.mk
   [(0, V.int IntKind.i64 f), (3, V.oref 256 0 0),
   (95, encL (encCert 1) 1 (Msg.certs m)),
   (96, V.int IntKind.i64 (↑(List.length (Msg.certs m)) : Int)), (97, V.int IntKind.i64 (↑y : Int))]
   [(256,
   Blk.box
   [V.int IntKind.i64 (Msg.kind m), V.int IntKind.i64 (Msg.view m), V.int IntKind.i64 (Msg.sender m),
   V.int IntKind.i64 (Msg.slot m), V.int IntKind.i64 (Msg.value m),
   encL (encCert 1) 1 (Msg.certs m), encL encI 1 (Msg.refs m)])])) ∧
   (((y ≤ List.length (Msg.certs m)) ∧
   (∀ j : Nat,
   ((1 ≤ j) →
   ((j < y) →
   (Cert.slot (List.getD (Msg.certs m) (j - 1) default) < Cert.slot (List.getD (Msg.certs m) j default)))))) ∧
   (List.length (Msg.certs m) - y < List.length (Msg.certs m) - x))))))))))))))))))))))) ∧
   ((decide ((↑x : Int) < (↑(List.length (Msg.certs m)) : Int)) = false) →
   ((∃ x_1 : Nat, ((SLe
   (AS.mk
   [(3, V.oref 256 0 0), (118, encL encI 1 (Msg.refs m)),
   (119, V.int IntKind.i64 (↑(List.length (Msg.refs m)) : Int)), (120, V.int IntKind.i64 (0 : Int))]
   [(256,
   Blk.box
   [V.int IntKind.i64 (Msg.kind m), V.int IntKind.i64 (Msg.view m), V.int IntKind.i64 (Msg.sender m),
   V.int IntKind.i64 (Msg.slot m), V.int IntKind.i64 (Msg.value m),
   encL (encCert 1) 1 (Msg.certs m), encL encI 1 (Msg.refs m)])])
   (AS.mk
   [(3, V.oref 256 0 0), (118, encL encI 1 (Msg.refs m)),
   (119, V.int IntKind.i64 (↑(List.length (Msg.refs m)) : Int)),
   (120, V.int IntKind.i64 (↑x_1 : Int))]
   [(256,
   Blk.box
   [V.int IntKind.i64 (Msg.kind m), V.int IntKind.i64 (Msg.view m), V.int IntKind.i64 (Msg.sender m),
   V.int IntKind.i64 (Msg.slot m), V.int IntKind.i64 (Msg.value m),
   encL (encCert 1) 1 (Msg.certs m), encL encI 1 (Msg.refs m)])])) ∧
   ((x_1 ≤ List.length (Msg.refs m)) ∧
   (∀ j : Nat,
   ((1 ≤ j) →
   ((j < x_1) →
   (List.getD (Msg.refs m) (j - 1) default < List.getD (Msg.refs m) j default))))))) ∧
   (∀ x_1 : Nat,
   (((x_1 ≤ List.length (Msg.refs m)) ∧
   (∀ j : Nat,
   ((1 ≤ j) →
   ((j < x_1) →
   (List.getD (Msg.refs m) (j - 1) default < List.getD (Msg.refs m) j default))))) →
   (((decide ((↑x_1 : Int) < (↑(List.length (Msg.refs m)) : Int)) = true) →
   ((((0 : Int) ≤ (↑x_1 : Int)) ∧
   ((↑x_1 : Int) < (↑(List.length (Msg.refs m)) : Int))) ∧
   ((tq (decide ((↑x_1 : Int) > (0 : Int)))) ∧
   ((tq (decide ((↑x_1 : Int) > (0 : Int)))) ∧
   (((decide ((↑x_1 : Int) > (0 : Int)) = true) →
   (inK IntKind.i64 ((↑x_1 : Int) - (1 : Int)))) ∧
   ((tq (decide ((↑x_1 : Int) > (0 : Int)))) ∧
   ((tq (decide ((↑x_1 : Int) > (0 : Int)))) ∧
   (((decide ((↑x_1 : Int) > (0 : Int)) = true) →
   (((0 : Int) ≤ (↑x_1 : Int) - (1 : Int)) ∧
   ((↑x_1 : Int) - (1 : Int) < (↑(List.length (Msg.refs m)) : Int)))) ∧
   ((tq (decide ((↑x_1 : Int) > (0 : Int)))) ∧
   ((tq (decide ((↑x_1 : Int) > (0 : Int)))) ∧
   ((tq (decide ((↑x_1 : Int) > (0 : Int)))) ∧
   (((true = true) →
   ((decide ((↑x_1 : Int) > (0 : Int)) = true) →
   (decide ((↑x_1 : Int) > (0 : Int)) = true))) ∧
   (∀ b_12 : Bool,
   ((b_12 =
   bif decide ((↑x_1 : Int) > (0 : Int)) then
   decide
   (List.getD (Msg.refs m) (Int.toNat (↑x_1 : Int)) default ≤
   List.getD (Msg.refs m) (Int.toNat ((↑x_1 : Int) - (1 : Int))) default)
   else false) →
   (((b_12 = true) →
   (VLe (V.int IntKind.i64 (1 : Int)) (V.int IntKind.i64 (msgFault f m)))) ∧
   ((b_12 = false) →
   ((inK IntKind.i64 ((↑x_1 : Int) + (1 : Int))) ∧
   (∃ y : Nat, ((SLe
   (AS.mk
   [(3, V.oref 256 0 0), (118, encL encI 1 (Msg.refs m)),
   (119, V.int IntKind.i64 (↑(List.length (Msg.refs m)) : Int)),
   (120, V.int IntKind.i64 ((↑x_1 : Int) + (1 : Int)))]
   [(256,
   Blk.box
   [V.int IntKind.i64 (Msg.kind m), V.int IntKind.i64 (Msg.view m), V.int IntKind.i64 (Msg.sender m),
   V.int IntKind.i64 (Msg.slot m), V.int IntKind.i64 (Msg.value m),
   encL (encCert 1) 1 (Msg.certs m), encL encI 1 (Msg.refs m)])])
   (AS.mk
   [(3, V.oref 256 0 0), (118, encL encI 1 (Msg.refs m)),
   (119, V.int IntKind.i64 (↑(List.length (Msg.refs m)) : Int)), (120, V.int IntKind.i64 (↑y : Int))]
   [(256,
   Blk.box
   [V.int IntKind.i64 (Msg.kind m), V.int IntKind.i64 (Msg.view m), V.int IntKind.i64 (Msg.sender m),
   V.int IntKind.i64 (Msg.slot m), V.int IntKind.i64 (Msg.value m),
   encL (encCert 1) 1 (Msg.certs m), encL encI 1 (Msg.refs m)])])) ∧
   (((y ≤ List.length (Msg.refs m)) ∧
   (∀ j : Nat,
   ((1 ≤ j) →
   ((j < y) →
   (List.getD (Msg.refs m) (j - 1) default < List.getD (Msg.refs m) j default))))) ∧
   (List.length (Msg.refs m) - y < List.length (Msg.refs m) - x_1))))))))))))))))))))) ∧
   ((decide ((↑x_1 : Int) < (↑(List.length (Msg.refs m)) : Int)) = false) →
   (((VLe (encL (encCert 1) 1 (Msg.certs m))
   (encL (encCert 1) 1 (decL decCert (encL (encCert 1) 1 (Msg.certs m))))) ∧
   ((VLe (encPMsg 1 m) (encPMsg 1 (decPMsg (encPMsg 1 m)))) ∧
   (pr144_145 (decL decCert (encL (encCert 1) 1 (Msg.certs m))) (decPMsg (encPMsg 1 m))))) ∧
   ((((List.any (decL decCert (encL (encCert 1) 1 (Msg.certs m))) fun (c : Cert) ↦
   decide ¬goodC (decPMsg (encPMsg 1 m)) c) =
   true) →
   (VLe (V.int IntKind.i64 (3 : Int)) (V.int IntKind.i64 (msgFault f m)))) ∧
   (((List.any (decL decCert (encL (encCert 1) 1 (Msg.certs m))) fun (c : Cert) ↦
   decide ¬goodC (decPMsg (encPMsg 1 m)) c) =
   false) →
   (((VLe (encL encI 1 (Msg.refs m)) (encL encI 1 (decL decI (encL encI 1 (Msg.refs m))))) ∧
   (pr105_146 (decL decI (encL encI 1 (Msg.refs m))))) ∧
   ((((List.any (decL decI (encL encI 1 (Msg.refs m))) fun (r : Int) ↦ decide ¬goodR r) = true) →
   (VLe (V.int IntKind.i64 (3 : Int)) (V.int IntKind.i64 (msgFault f m)))) ∧
   (((List.any (decL decI (encL encI 1 (Msg.refs m))) fun (r : Int) ↦ decide ¬goodR r) = false) →
   (VLe (V.int IntKind.i64 (0 : Int)) (V.int IntKind.i64 (msgFault f m)))))))))))))))))))))))))))))))))))))))))))))))))))))))))))))))))))))))))))))))))))))))))))))))))))))))))))))) := by
    obtain ⟨hf, hc, hr⟩ := hpre
    have hf' : 1 ≤ f ∧ f ≤ 2 := by unfold okF at hf; omega
    unfold maxLen at hc hr
    repeat (first | (refine And.intro (fun h _ => h) ?_) | (refine And.intro (fun _ h => h) ?_) | (refine And.intro ?aa ?_; case aa => (simp [hf, pr142, pr107, pr84, pr112, pr130, pr143, pr104, pr144_145, pr105_146]; done)) | (refine And.intro ?aa ?_; case aa => (simp_all [hf, pr142, pr107, pr84, pr112, pr130, pr143, pr104, pr144_145, pr105_146]; done)) | (refine And.intro ?aa ?_; case aa => (intros; exact inK64 (by omega))) | (refine And.intro ?aa ?_; case aa => (intros; simp only [decide_eq_true_eq] at *; omega)) | (intro q hq))
    have e0 : q = decide (¬ bare m) := by
      subst_vars
      rw [Bool.eq_iff_iff]
      simp
      try simp only [bare, inR, ← List.length_eq_zero_iff]
      try omega
    clear hq
    refine ⟨fun h => ?_, fun h => ?_⟩
    · have hn : ¬ bare m := by simpa [e0] using h
      refine vle_int ?_
      unfold msgFault
      rw [if_pos hn]
    · have hb : bare m := by simpa [e0] using h
      clear e0 h
      repeat (first | (refine And.intro (fun h _ => h) ?_) | (refine And.intro (fun _ h => h) ?_) | (refine And.intro ?aa ?_; case aa => (simp [hf, pr142, pr107, pr84, pr112, pr130, pr143, pr104, pr144_145, pr105_146]; done)) | (refine And.intro ?aa ?_; case aa => (simp_all [hf, pr142, pr107, pr84, pr112, pr130, pr143, pr104, pr144_145, pr105_146]; done)) | (refine And.intro ?aa ?_; case aa => (intros; exact inK64 (by omega))) | (refine And.intro ?aa ?_; case aa => (intros; simp only [decide_eq_true_eq] at *; omega)) | (intro q hq))
      have e0 : q = decide (¬ ranged f m) := by
        subst_vars
        rw [Bool.eq_iff_iff]
        simp
        try simp only [ranged, inR]
        try omega
      clear hq
      refine ⟨fun h => ?_, fun h => ?_⟩
      · have hn : ¬ ranged f m := by simpa [e0] using h
        refine vle_int ?_
        unfold msgFault
        rw [if_neg (not_not_intro hb), if_pos hn]
      · have hra : ranged f m := by simpa [e0] using h
        clear e0 h
        repeat (first | (refine And.intro (fun h _ => h) ?_) | (refine And.intro (fun _ h => h) ?_) | (refine And.intro ?aa ?_; case aa => (simp [hf, pr142, pr107, pr84, pr112, pr130, pr143, pr104, pr144_145, pr105_146]; done)) | (refine And.intro ?aa ?_; case aa => (simp_all [hf, pr142, pr107, pr84, pr112, pr130, pr143, pr104, pr144_145, pr105_146]; done)) | (refine And.intro ?aa ?_; case aa => (intros; exact inK64 (by omega))) | (refine And.intro ?aa ?_; case aa => (intros; simp only [decide_eq_true_eq] at *; omega)) | (intro q hq))
        have e0 : q = decide (¬ few f m) := by
          subst_vars
          rw [Bool.eq_iff_iff]
          simp
          try simp only [few]
          try omega
        clear hq
        refine ⟨fun h => ?_, fun h => ?_⟩
        · have hn : ¬ few f m := by simpa [e0] using h
          refine vle_int ?_
          unfold msgFault
          rw [if_neg (not_not_intro hb), if_neg (not_not_intro hra), if_pos hn]
        · have hfw : few f m := by simpa [e0] using h
          clear e0 h
          refine ⟨⟨0, SLe.refl _, by omega, fun j h1 h2 => by omega⟩, ?_⟩
          rintro i ⟨hi, hj⟩
          refine ⟨fun h => ?_, fun h => ?_⟩
          · have hlt : i < m.certs.length := by simpa using h
            clear h
            try simp only [Int.toNat_natCast]
            refine ⟨⟨by omega, by omega⟩, ?_⟩
            repeat (first | (refine And.intro (fun h _ => h) ?_) | (refine And.intro (fun _ h => h) ?_) | (refine And.intro ?aa ?_; case aa => (simp [pr142, pr107, pr84, pr112, pr130, pr143, pr104, pr144_145, pr105_146]; done)) | (refine And.intro ?aa ?_; case aa => (simp_all [pr142, pr107, pr84, pr112, pr130, pr143, pr104, pr144_145, pr105_146]; done)) | (refine And.intro ?aa ?_; case aa => (intros; exact inK64 (by omega))) | (refine And.intro ?aa ?_; case aa => (intros; simp only [decide_eq_true_eq] at *; omega)) | (intro q hq))
            subst_vars
            refine ⟨fun h2 => ?_, fun h2 => ⟨inK64 (by omega), i + 1, SLe.refl _, ⟨by omega, fun j h3 h4 => ?_⟩, by omega⟩⟩
            · simp at h2
              have e1 : ((i : Int) - 1).toNat = i - 1 := by omega
              refine vle_int ?_
              have : ¬ (riseC m.certs ∧ riseR m.refs) := fun hh => by
                have h6 := hh.1 i (by omega) hlt
                have h7 := h2.2
                try simp only [e1] at h7
                simp at h6 h7
                omega
              unfold msgFault listsFault
              rw [if_neg (not_not_intro hb), if_neg (not_not_intro hra), if_neg (not_not_intro hfw), if_pos this]
            · rcases Nat.lt_or_ge j i with h5 | h5
              · exact hj j h3 h5
              · have : j = i := by omega
                subst this
                have e1 : ((j : Int) - 1).toNat = j - 1 := by omega
                have hj0 : (0 : Int) < j := by omega
                simp only [e1, hj0, gt_iff_lt, decide_true, cond_true, decide_eq_false_iff_not] at h2
                omega
          · have hge : m.certs.length ≤ i := by simpa using h
            have hrc : riseC m.certs := fun j h3 h4 => hj j h3 (by omega)
            clear hj hi h hge i
            refine ⟨⟨0, SLe.refl _, by omega, fun j h1 h2 => by omega⟩, ?_⟩
            rintro i ⟨hi, hj⟩
            refine ⟨fun h => ?_, fun h => ?_⟩
            · have hlt : i < m.refs.length := by simpa using h
              clear h
              try simp only [Int.toNat_natCast]
              refine ⟨⟨by omega, by omega⟩, ?_⟩
              repeat (first | (refine And.intro (fun h _ => h) ?_) | (refine And.intro (fun _ h => h) ?_) | (refine And.intro ?aa ?_; case aa => (simp [pr142, pr107, pr84, pr112, pr130, pr143, pr104, pr144_145, pr105_146]; done)) | (refine And.intro ?aa ?_; case aa => (simp_all [pr142, pr107, pr84, pr112, pr130, pr143, pr104, pr144_145, pr105_146]; done)) | (refine And.intro ?aa ?_; case aa => (intros; exact inK64 (by omega))) | (refine And.intro ?aa ?_; case aa => (intros; simp only [decide_eq_true_eq] at *; omega)) | (intro q hq))
              subst_vars
              refine ⟨fun h2 => ?_, fun h2 => ⟨inK64 (by omega), i + 1, SLe.refl _, ⟨by omega, fun j h3 h4 => ?_⟩, by omega⟩⟩
              · simp at h2
                have e1 : ((i : Int) - 1).toNat = i - 1 := by omega
                refine vle_int ?_
                have : ¬ (riseC m.certs ∧ riseR m.refs) := fun hh => by
                  have h6 := hh.2 i (by omega) hlt
                  have h7 := h2.2
                  try simp only [e1] at h7
                  simp at h6 h7
                  omega
                unfold msgFault listsFault
                rw [if_neg (not_not_intro hb), if_neg (not_not_intro hra), if_neg (not_not_intro hfw), if_pos this]
              · rcases Nat.lt_or_ge j i with h5 | h5
                · exact hj j h3 h5
                · have : j = i := by omega
                  subst this
                  have e1 : ((j : Int) - 1).toNat = j - 1 := by omega
                  have hj0 : (0 : Int) < j := by omega
                  simp only [e1, hj0, gt_iff_lt, decide_true, cond_true, decide_eq_false_iff_not] at h2
                  omega
            · have hge : m.refs.length ≤ i := by simpa using h
              have hrr : riseR m.refs := fun j h3 h4 => hj j h3 (by omega)
              clear hj hi h hge i
              simp only [decL_Cert, decL_ints, dec_encPMsg]
              refine ⟨⟨VLe.refl _, VLe.refl _, by unfold maxLen; omega, hra.1⟩, fun h2 => ?_, fun h2 => ⟨⟨VLe.refl _, by unfold maxLen; omega, trivial⟩, fun h3 => ?_, fun h3 => ?_⟩⟩
              · refine vle_int ?_
                unfold msgFault listsFault
                rw [if_neg (not_not_intro hb), if_neg (not_not_intro hra), if_neg (not_not_intro hfw), if_neg (not_not_intro ⟨hrc, hrr⟩), if_pos ?_]
                intro hh
                obtain ⟨c, hc, hg⟩ := List.any_eq_true.1 h2
                exact (of_decide_eq_true hg) (hh.1 c hc)
              · refine vle_int ?_
                unfold msgFault listsFault
                rw [if_neg (not_not_intro hb), if_neg (not_not_intro hra), if_neg (not_not_intro hfw), if_neg (not_not_intro ⟨hrc, hrr⟩), if_pos ?_]
                intro hh
                obtain ⟨c, hc, hg⟩ := List.any_eq_true.1 h3
                exact (of_decide_eq_true hg) (hh.2 c hc)
              · have hA : ∀ c ∈ m.certs, goodC m c := fun c hc => by
                  have := List.any_eq_false.1 h2 c hc
                  simpa using this
                have hB : ∀ r ∈ m.refs, goodR r := fun c hc => by
                  have := List.any_eq_false.1 h3 c hc
                  simpa using this
                refine vle_int ?_
                unfold msgFault listsFault
                rw [if_neg (not_not_intro hb), if_neg (not_not_intro hra), if_neg (not_not_intro hfw), if_neg (not_not_intro ⟨hrc, hrr⟩), if_neg (not_not_intro ⟨hA, hB⟩)]
  exact Eq.mp (by kernel_rfl) key
theorem so94 : Sound Try.prog 94 sp94 := by
  refine sound_of_body hmix (pol := 0) Try.func94 rfl (by kernel_rfl) fun args bin ob r bout hDe hob => ?_
  unfold sp94 at hDe
  split at hDe
  · rename_i a0 a1
    cases hDe
    exact ⟨rfl, rfl, Nat.le_of_ble_eq_true (by kernel_rfl), cx94 a0 (decMsg a1), Eq.mp (by kernel_rfl) htt, Eq.mp (by kernel_rfl) da94, Eq.mp (by kernel_rfl) (noM_sound (P := Try.prog)), by kernel_rfl, [.int .i64 (a0), encMsg 1 ((decMsg a1))], args_of_vles (⟨VLe.refl _, hob.1, trivial⟩), Eq.mp (by kernel_rfl) (bd94 a0 (decMsg a1) (hob.2))⟩
  · cases hDe

/-! ### spec.MsgFault -/
def pr32 (f : Int) (m : Msg) : Prop := m.bd
noncomputable def rs32 (f : Int) (m : Msg) : V := .int .i64 (if okF f then msgFault f m else 3)
noncomputable def sp32 : FSpec := fun args bin => match args, bin with
  | [.int .i64 a0, a1], [] => some (VLe a1 (encMsg 1 ((decMsg a1))) ∧ pr32 a0 (decMsg a1), rs32 a0 (decMsg a1), [])
  | _, _ => none
noncomputable def D32 : Nat → Option (Bool × FSpec) := lk [(79, (false, sp79)), (93, (false, sp93))]
theorem da32 : SoundAll Try.prog D32 := soundAll_cons so79 (soundAll_cons so93 (soundAll_nil))
noncomputable def cx32 (f : Int) (m : Msg) : Cx := ⟨tt, D32, Try.f32.ntmps, [0, 1, 3, 4, 7], [], [], fun _ => none, [], noM, []⟩
theorem bd32 (f : Int) (m : Msg) (hpre : pr32 f m) : bodyP (cx32 f m) Try.f32 0 [.int .i64 (f), encMsg 1 (m)] (fun rr => VLe rr (rs32 f m)) := by
  have key :
      ((pr79 f) ∧
   ((((!decide (okF f)) = true) →
   (VLe (V.int IntKind.i64 (3 : Int)) (V.int IntKind.i64 (if okF f then msgFault f m else (3 : Int))))) ∧
   (((!decide (okF f)) = false) →
   (((VLe (encPMsg 1 m) (encPMsg 1 (decPMsg (encPMsg 1 m)))) ∧
   (pr93 f (decPMsg (encPMsg 1 m)))) ∧
   (VLe (V.int IntKind.i64 (msgFault f (decPMsg (encPMsg 1 m))))
   (V.int IntKind.i64 (if okF f then msgFault f m else (3 : Int)))))))) := by
    simp only [dec_encPMsg]
    refine ⟨trivial, fun h => ?_, fun h => ?_⟩
    · have hf : ¬ okF f := by simpa using h
      simp [hf]
    · have hf : okF f := by simpa using h
      refine ⟨⟨VLe.refl _, hf, hpre⟩, vle_int ?_⟩
      rw [if_pos hf]
  exact Eq.mp (by kernel_rfl) key
theorem so32 : Sound Try.prog 32 sp32 := by
  refine sound_of_body hmix (pol := 0) Try.func32 rfl (by kernel_rfl) fun args bin ob r bout hDe hob => ?_
  unfold sp32 at hDe
  split at hDe
  · rename_i a0 a1
    cases hDe
    exact ⟨rfl, rfl, Nat.le_of_ble_eq_true (by kernel_rfl), cx32 a0 (decMsg a1), Eq.mp (by kernel_rfl) htt, Eq.mp (by kernel_rfl) da32, Eq.mp (by kernel_rfl) (noM_sound (P := Try.prog)), by kernel_rfl, [.int .i64 (a0), encMsg 1 ((decMsg a1))], args_of_vles (⟨VLe.refl _, hob.1, trivial⟩), Eq.mp (by kernel_rfl) (bd32 a0 (decMsg a1) (hob.2))⟩
  · cases hDe

/-! ### impl.MsgFault -/
def pr33 (f : Int) (m : Msg) : Prop := m.bd
noncomputable def rs33 (f : Int) (m : Msg) : V := .int .i64 (if okF f then msgFault f m else 3)
noncomputable def sp33 : FSpec := fun args bin => match args, bin with
  | [.int .i64 a0, a1], [] => some (VLe a1 (encMsg 1 ((decMsg a1))) ∧ pr33 a0 (decMsg a1), rs33 a0 (decMsg a1), [])
  | _, _ => none
noncomputable def D33 : Nat → Option (Bool × FSpec) := lk [(81, (false, sp81)), (94, (false, sp94))]
theorem da33 : SoundAll Try.prog D33 := soundAll_cons so81 (soundAll_cons so94 (soundAll_nil))
noncomputable def cx33 (f : Int) (m : Msg) : Cx := ⟨tt, D33, Try.f33.ntmps, [0, 1, 3, 4, 7], [], [], fun _ => none, [], noM, []⟩
theorem bd33 (f : Int) (m : Msg) (hpre : pr33 f m) : bodyP (cx33 f m) Try.f33 0 [.int .i64 (f), encMsg 1 (m)] (fun rr => VLe rr (rs33 f m)) := by
  have key :
      ((pr81 f) ∧
   ((((!decide (okF f)) = true) →
   (VLe (V.int IntKind.i64 (3 : Int)) (V.int IntKind.i64 (if okF f then msgFault f m else (3 : Int))))) ∧
   (((!decide (okF f)) = false) →
   (((VLe (encMsg 1 m) (encMsg 1 (decMsg (encMsg 1 m)))) ∧
   (pr94 f (decMsg (encMsg 1 m)))) ∧
   (VLe (V.int IntKind.i64 (msgFault f (decMsg (encMsg 1 m))))
   (V.int IntKind.i64 (if okF f then msgFault f m else (3 : Int)))))))) := by
    simp only [dec_encMsg]
    refine ⟨trivial, fun h => ?_, fun h => ?_⟩
    · have hf : ¬ okF f := by simpa using h
      simp [hf]
    · have hf : okF f := by simpa using h
      refine ⟨⟨VLe.refl _, hf, hpre⟩, vle_int ?_⟩
      rw [if_pos hf]
  exact Eq.mp (by kernel_rfl) key
theorem so33 : Sound Try.prog 33 sp33 := by
  refine sound_of_body hmix (pol := 0) Try.func33 rfl (by kernel_rfl) fun args bin ob r bout hDe hob => ?_
  unfold sp33 at hDe
  split at hDe
  · rename_i a0 a1
    cases hDe
    exact ⟨rfl, rfl, Nat.le_of_ble_eq_true (by kernel_rfl), cx33 a0 (decMsg a1), Eq.mp (by kernel_rfl) htt, Eq.mp (by kernel_rfl) da33, Eq.mp (by kernel_rfl) (noM_sound (P := Try.prog)), by kernel_rfl, [.int .i64 (a0), encMsg 1 ((decMsg a1))], args_of_vles (⟨VLe.refl _, hob.1, trivial⟩), Eq.mp (by kernel_rfl) (bd33 a0 (decMsg a1) (hob.2))⟩
  · cases hDe

end Go.Av
