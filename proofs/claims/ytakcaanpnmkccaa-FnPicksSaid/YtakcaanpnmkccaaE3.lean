/- What is wrong with a message: program and reference. -/
import Derived.Test.YtakcaanpnmkccaaE1
import Derived.Test.YtakcaanpnmkccaaP8
namespace Go.Av
open Go.Proofs
set_option maxRecDepth 100000
set_option linter.unusedVariables false
set_option linter.unusedSimpArgs false


/-! ### impl.within -/
def pr52 (n : Int) (lo : Int) (hi : Int) : Prop := True
noncomputable def rs52 (n : Int) (lo : Int) (hi : Int) : V := .bool (decide (inR n lo hi))
noncomputable def sp52 : FSpec := fun args bin => match args, bin with
  | [.int .i64 a0, .int .i64 a1, .int .i64 a2], [] => some (pr52 a0 a1 a2, rs52 a0 a1 a2, [])
  | _, _ => none
noncomputable def D52 : Nat → Option (Bool × FSpec) := lk []
theorem da52 : SoundAll Try.prog D52 := soundAll_nil
noncomputable def cx52 (n : Int) (lo : Int) (hi : Int) : Cx := ⟨tt, D52, Try.f52.ntmps, [0, 1, 2, 6], [], [], fun _ => none, [], noM, []⟩
theorem bd52 (n : Int) (lo : Int) (hi : Int) (hpre : pr52 n lo hi) : bodyP (cx52 n lo hi) Try.f52 0 [.int .i64 (n), .int .i64 (lo), .int .i64 (hi)] (fun rr => VLe rr (rs52 n lo hi)) := by
  have key :
      ((tq (decide (lo ≤ n))) ∧
   ((tq (decide (lo ≤ n))) ∧
   (((true = true) →
   ((decide (lo ≤ n) = true) →
   (decide (lo ≤ n) = true))) ∧
   (∀ b : Bool,
   ((b = bif decide (lo ≤ n) then decide (n ≤ hi) else false) →
   (VLe (V.bool b) (V.bool (decide (inR n lo hi))))))))) := by
    repeat (first | (refine And.intro (fun h _ => h) ?_) | (refine And.intro (fun _ h => h) ?_) | (refine And.intro ?aa ?_; case aa => (simp []; done)) | (refine And.intro ?aa ?_; case aa => (simp_all []; done)) | (refine And.intro ?aa ?_; case aa => (intros; exact inK64 (by omega))) | (refine And.intro ?aa ?_; case aa => (intros; simp only [decide_eq_true_eq] at *; omega)) | (intro q hq))
    subst_vars
    refine vle_bool ?_
    rw [Bool.eq_iff_iff]
    simp
    try simp only [inR]
    try omega
  exact Eq.mp (by kernel_rfl) key
theorem so52 : Sound Try.prog 52 sp52 := by
  refine sound_of_body hmix (pol := 0) Try.func52 rfl (by kernel_rfl) fun args bin ob r bout hDe hob => ?_
  unfold sp52 at hDe
  split at hDe
  · rename_i a0 a1 a2
    cases hDe
    exact ⟨rfl, rfl, Nat.le_of_ble_eq_true (by kernel_rfl), cx52 a0 a1 a2, Eq.mp (by kernel_rfl) htt, Eq.mp (by kernel_rfl) da52, Eq.mp (by kernel_rfl) (noM_sound (P := Try.prog)), by kernel_rfl, [.int .i64 (a0), .int .i64 (a1), .int .i64 (a2)], args_of_vles (⟨VLe.refl _, VLe.refl _, VLe.refl _, trivial⟩), Eq.mp (by kernel_rfl) (bd52 a0 a1 a2 (hob))⟩
  · cases hDe

/-! ### spec.l1In -/
def pr41 (n : Int) (lo : Int) (hi : Int) : Prop := True
noncomputable def rs41 (n : Int) (lo : Int) (hi : Int) : V := .bool (decide (inR n lo hi))
noncomputable def sp41 : FSpec := fun args bin => match args, bin with
  | [.int .i64 a0, .int .i64 a1, .int .i64 a2], [] => some (pr41 a0 a1 a2, rs41 a0 a1 a2, [])
  | _, _ => none
noncomputable def D41 : Nat → Option (Bool × FSpec) := lk []
theorem da41 : SoundAll Try.prog D41 := soundAll_nil
noncomputable def cx41 (n : Int) (lo : Int) (hi : Int) : Cx := ⟨tt, D41, Try.f41.ntmps, [0, 1, 2, 6], [], [], fun _ => none, [], noM, []⟩
theorem bd41 (n : Int) (lo : Int) (hi : Int) (hpre : pr41 n lo hi) : bodyP (cx41 n lo hi) Try.f41 0 [.int .i64 (n), .int .i64 (lo), .int .i64 (hi)] (fun rr => VLe rr (rs41 n lo hi)) := by
  have key :
      ((tq (decide (n ≥ lo))) ∧
   ((tq (decide (n ≥ lo))) ∧
   (((true = true) →
   ((decide (n ≥ lo) = true) →
   (decide (n ≥ lo) = true))) ∧
   (∀ b : Bool,
   ((b = bif decide (n ≥ lo) then decide (n ≤ hi) else false) →
   (VLe (V.bool b) (V.bool (decide (inR n lo hi))))))))) := by
    repeat (first | (refine And.intro (fun h _ => h) ?_) | (refine And.intro (fun _ h => h) ?_) | (refine And.intro ?aa ?_; case aa => (simp []; done)) | (refine And.intro ?aa ?_; case aa => (simp_all []; done)) | (refine And.intro ?aa ?_; case aa => (intros; exact inK64 (by omega))) | (refine And.intro ?aa ?_; case aa => (intros; simp only [decide_eq_true_eq] at *; omega)) | (intro q hq))
    subst_vars
    refine vle_bool ?_
    rw [Bool.eq_iff_iff]
    simp
    try simp only [inR]
    try omega
  exact Eq.mp (by kernel_rfl) key
theorem so41 : Sound Try.prog 41 sp41 := by
  refine sound_of_body hmix (pol := 0) Try.func41 rfl (by kernel_rfl) fun args bin ob r bout hDe hob => ?_
  unfold sp41 at hDe
  split at hDe
  · rename_i a0 a1 a2
    cases hDe
    exact ⟨rfl, rfl, Nat.le_of_ble_eq_true (by kernel_rfl), cx41 a0 a1 a2, Eq.mp (by kernel_rfl) htt, Eq.mp (by kernel_rfl) da41, Eq.mp (by kernel_rfl) (noM_sound (P := Try.prog)), by kernel_rfl, [.int .i64 (a0), .int .i64 (a1), .int .i64 (a2)], args_of_vles (⟨VLe.refl _, VLe.refl _, VLe.refl _, trivial⟩), Eq.mp (by kernel_rfl) (bd41 a0 a1 a2 (hob))⟩
  · cases hDe

/-! ### impl.isF -/
def pr36 (f : Int) : Prop := True
noncomputable def rs36 (f : Int) : V := .bool (decide (okF f))
noncomputable def sp36 : FSpec := fun args bin => match args, bin with
  | [.int .i64 a0], [] => some (pr36 a0, rs36 a0, [])
  | _, _ => none
noncomputable def D36 : Nat → Option (Bool × FSpec) := lk [(52, (false, sp52))]
theorem da36 : SoundAll Try.prog D36 := soundAll_cons so52 (soundAll_nil)
noncomputable def cx36 (f : Int) : Cx := ⟨tt, D36, Try.f36.ntmps, [0, 2], [], [], fun _ => none, [], noM, []⟩
theorem bd36 (f : Int) (hpre : pr36 f) : bodyP (cx36 f) Try.f36 0 [.int .i64 (f)] (fun rr => VLe rr (rs36 f)) := by
  have key :
      ((pr52 f (1 : Int) (2 : Int)) ∧
   (VLe (V.bool (decide (inR f (1 : Int) (2 : Int)))) (V.bool (decide (okF f))))) := by
    repeat (first | (refine And.intro (fun h _ => h) ?_) | (refine And.intro (fun _ h => h) ?_) | (refine And.intro ?aa ?_; case aa => (simp [pr52]; done)) | (refine And.intro ?aa ?_; case aa => (simp_all [pr52]; done)) | (refine And.intro ?aa ?_; case aa => (intros; exact inK64 (by omega))) | (refine And.intro ?aa ?_; case aa => (intros; simp only [decide_eq_true_eq] at *; omega)) | (intro q hq))
    subst_vars
    refine vle_bool ?_
    rw [Bool.eq_iff_iff]
    simp
    try simp only [inR, okF]
    try omega
  exact Eq.mp (by kernel_rfl) key
theorem so36 : Sound Try.prog 36 sp36 := by
  refine sound_of_body hmix (pol := 0) Try.func36 rfl (by kernel_rfl) fun args bin ob r bout hDe hob => ?_
  unfold sp36 at hDe
  split at hDe
  · rename_i a0
    cases hDe
    exact ⟨rfl, rfl, Nat.le_of_ble_eq_true (by kernel_rfl), cx36 a0, Eq.mp (by kernel_rfl) htt, Eq.mp (by kernel_rfl) da36, Eq.mp (by kernel_rfl) (noM_sound (P := Try.prog)), by kernel_rfl, [.int .i64 (a0)], args_of_vles (⟨VLe.refl _, trivial⟩), Eq.mp (by kernel_rfl) (bd36 a0 (hob))⟩
  · cases hDe

/-! ### spec.l8F -/
def pr40 (f : Int) : Prop := True
noncomputable def rs40 (f : Int) : V := .bool (decide (okF f))
noncomputable def sp40 : FSpec := fun args bin => match args, bin with
  | [.int .i64 a0], [] => some (pr40 a0, rs40 a0, [])
  | _, _ => none
noncomputable def D40 : Nat → Option (Bool × FSpec) := lk [(41, (false, sp41))]
theorem da40 : SoundAll Try.prog D40 := soundAll_cons so41 (soundAll_nil)
noncomputable def cx40 (f : Int) : Cx := ⟨tt, D40, Try.f40.ntmps, [0, 2], [], [], fun _ => none, [], noM, []⟩
theorem bd40 (f : Int) (hpre : pr40 f) : bodyP (cx40 f) Try.f40 0 [.int .i64 (f)] (fun rr => VLe rr (rs40 f)) := by
  have key :
      ((pr41 f (1 : Int) (2 : Int)) ∧
   (VLe (V.bool (decide (inR f (1 : Int) (2 : Int)))) (V.bool (decide (okF f))))) := by
    repeat (first | (refine And.intro (fun h _ => h) ?_) | (refine And.intro (fun _ h => h) ?_) | (refine And.intro ?aa ?_; case aa => (simp [pr41]; done)) | (refine And.intro ?aa ?_; case aa => (simp_all [pr41]; done)) | (refine And.intro ?aa ?_; case aa => (intros; exact inK64 (by omega))) | (refine And.intro ?aa ?_; case aa => (intros; simp only [decide_eq_true_eq] at *; omega)) | (intro q hq))
    subst_vars
    refine vle_bool ?_
    rw [Bool.eq_iff_iff]
    simp
    try simp only [inR, okF]
    try omega
  exact Eq.mp (by kernel_rfl) key
theorem so40 : Sound Try.prog 40 sp40 := by
  refine sound_of_body hmix (pol := 0) Try.func40 rfl (by kernel_rfl) fun args bin ob r bout hDe hob => ?_
  unfold sp40 at hDe
  split at hDe
  · rename_i a0
    cases hDe
    exact ⟨rfl, rfl, Nat.le_of_ble_eq_true (by kernel_rfl), cx40 a0, Eq.mp (by kernel_rfl) htt, Eq.mp (by kernel_rfl) da40, Eq.mp (by kernel_rfl) (noM_sound (P := Try.prog)), by kernel_rfl, [.int .i64 (a0)], args_of_vles (⟨VLe.refl _, trivial⟩), Eq.mp (by kernel_rfl) (bd40 a0 (hob))⟩
  · cases hDe

/-! ### impl.many -/
def pr49 (f : Int) : Prop := okF f
noncomputable def rs49 (f : Int) : V := .int .i64 (3 * f + 1)
noncomputable def sp49 : FSpec := fun args bin => match args, bin with
  | [.int .i64 a0], [] => some (pr49 a0, rs49 a0, [])
  | _, _ => none
noncomputable def D49 : Nat → Option (Bool × FSpec) := lk []
theorem da49 : SoundAll Try.prog D49 := soundAll_nil
noncomputable def cx49 (f : Int) : Cx := ⟨tt, D49, Try.f49.ntmps, [0, 2], [], [], fun _ => none, [], noM, []⟩
theorem bd49 (f : Int) (hpre : pr49 f) : bodyP (cx49 f) Try.f49 0 [.int .i64 (f)] (fun rr => VLe rr (rs49 f)) := by
  have key :
      ((inK IntKind.i64 ((3 : Int) * f)) ∧
   ((inK IntKind.i64 ((3 : Int) * f + (1 : Int))) ∧
   (VLe (V.int IntKind.i64 ((3 : Int) * f + (1 : Int))) (V.int IntKind.i64 ((3 : Int) * f + (1 : Int)))))) := by
    unfold pr49 okF at hpre
    exact ⟨inK64 (by omega), inK64 (by omega), VLe.refl _⟩
  exact Eq.mp (by kernel_rfl) key
theorem so49 : Sound Try.prog 49 sp49 := by
  refine sound_of_body hmix (pol := 0) Try.func49 rfl (by kernel_rfl) fun args bin ob r bout hDe hob => ?_
  unfold sp49 at hDe
  split at hDe
  · rename_i a0
    cases hDe
    exact ⟨rfl, rfl, Nat.le_of_ble_eq_true (by kernel_rfl), cx49 a0, Eq.mp (by kernel_rfl) htt, Eq.mp (by kernel_rfl) da49, Eq.mp (by kernel_rfl) (noM_sound (P := Try.prog)), by kernel_rfl, [.int .i64 (a0)], args_of_vles (⟨VLe.refl _, trivial⟩), Eq.mp (by kernel_rfl) (bd49 a0 (hob))⟩
  · cases hDe

/-! ### impl.isReplica -/
def pr63 (f : Int) (id : Int) : Prop := okF f
noncomputable def rs63 (f : Int) (id : Int) : V := .bool (decide (inR id 1 (3 * f + 1)))
noncomputable def sp63 : FSpec := fun args bin => match args, bin with
  | [.int .i64 a0, .int .i64 a1], [] => some (pr63 a0 a1, rs63 a0 a1, [])
  | _, _ => none
noncomputable def D63 : Nat → Option (Bool × FSpec) := lk [(49, (false, sp49)), (52, (false, sp52))]
theorem da63 : SoundAll Try.prog D63 := soundAll_cons so49 (soundAll_cons so52 (soundAll_nil))
noncomputable def cx63 (f : Int) (id : Int) : Cx := ⟨tt, D63, Try.f63.ntmps, [0, 1, 4], [], [], fun _ => none, [], noM, []⟩
theorem bd63 (f : Int) (id : Int) (hpre : pr63 f id) : bodyP (cx63 f id) Try.f63 0 [.int .i64 (f), .int .i64 (id)] (fun rr => VLe rr (rs63 f id)) := by
  have key :
      ((pr49 f) ∧
   ((pr52 id (1 : Int) ((3 : Int) * f + (1 : Int))) ∧
   (VLe (V.bool (decide (inR id (1 : Int) ((3 : Int) * f + (1 : Int)))))
   (V.bool (decide (inR id (1 : Int) ((3 : Int) * f + (1 : Int)))))))) := by
    exact ⟨hpre, trivial, VLe.refl _⟩
  exact Eq.mp (by kernel_rfl) key
theorem so63 : Sound Try.prog 63 sp63 := by
  refine sound_of_body hmix (pol := 0) Try.func63 rfl (by kernel_rfl) fun args bin ob r bout hDe hob => ?_
  unfold sp63 at hDe
  split at hDe
  · rename_i a0 a1
    cases hDe
    exact ⟨rfl, rfl, Nat.le_of_ble_eq_true (by kernel_rfl), cx63 a0 a1, Eq.mp (by kernel_rfl) htt, Eq.mp (by kernel_rfl) da63, Eq.mp (by kernel_rfl) (noM_sound (P := Try.prog)), by kernel_rfl, [.int .i64 (a0), .int .i64 (a1)], args_of_vles (⟨VLe.refl _, VLe.refl _, trivial⟩), Eq.mp (by kernel_rfl) (bd63 a0 a1 (hob))⟩
  · cases hDe

/-! ### spec.l8Id -/
def pr72 (f : Int) (id : Int) : Prop := okF f
noncomputable def rs72 (f : Int) (id : Int) : V := .bool (decide (inR id 1 (3 * f + 1)))
noncomputable def sp72 : FSpec := fun args bin => match args, bin with
  | [.int .i64 a0, .int .i64 a1], [] => some (pr72 a0 a1, rs72 a0 a1, [])
  | _, _ => none
noncomputable def D72 : Nat → Option (Bool × FSpec) := lk [(41, (false, sp41))]
theorem da72 : SoundAll Try.prog D72 := soundAll_cons so41 (soundAll_nil)
noncomputable def cx72 (f : Int) (id : Int) : Cx := ⟨tt, D72, Try.f72.ntmps, [0, 1, 4], [], [], fun _ => none, [], noM, []⟩
theorem bd72 (f : Int) (id : Int) (hpre : pr72 f id) : bodyP (cx72 f id) Try.f72 0 [.int .i64 (f), .int .i64 (id)] (fun rr => VLe rr (rs72 f id)) := by
  have key :
      ((inK IntKind.i64 ((3 : Int) * f)) ∧
   ((inK IntKind.i64 ((3 : Int) * f + (1 : Int))) ∧
   ((pr41 id (1 : Int) ((3 : Int) * f + (1 : Int))) ∧
   (VLe (V.bool (decide (inR id (1 : Int) ((3 : Int) * f + (1 : Int)))))
   (V.bool (decide (inR id (1 : Int) ((3 : Int) * f + (1 : Int))))))))) := by
    unfold pr72 okF at hpre
    exact ⟨inK64 (by omega), inK64 (by omega), trivial, VLe.refl _⟩
  exact Eq.mp (by kernel_rfl) key
theorem so72 : Sound Try.prog 72 sp72 := by
  refine sound_of_body hmix (pol := 0) Try.func72 rfl (by kernel_rfl) fun args bin ob r bout hDe hob => ?_
  unfold sp72 at hDe
  split at hDe
  · rename_i a0 a1
    cases hDe
    exact ⟨rfl, rfl, Nat.le_of_ble_eq_true (by kernel_rfl), cx72 a0 a1, Eq.mp (by kernel_rfl) htt, Eq.mp (by kernel_rfl) da72, Eq.mp (by kernel_rfl) (noM_sound (P := Try.prog)), by kernel_rfl, [.int .i64 (a0), .int .i64 (a1)], args_of_vles (⟨VLe.refl _, VLe.refl _, trivial⟩), Eq.mp (by kernel_rfl) (bd72 a0 a1 (hob))⟩
  · cases hDe

/-! ### impl.isView -/
def pr38 (n : Int) : Prop := True
noncomputable def rs38 (n : Int) : V := .bool (decide (inR n 0 20))
noncomputable def sp38 : FSpec := fun args bin => match args, bin with
  | [.int .i64 a0], [] => some (pr38 a0, rs38 a0, [])
  | _, _ => none
noncomputable def D38 : Nat → Option (Bool × FSpec) := lk [(52, (false, sp52))]
theorem da38 : SoundAll Try.prog D38 := soundAll_cons so52 (soundAll_nil)
noncomputable def cx38 (n : Int) : Cx := ⟨tt, D38, Try.f38.ntmps, [0, 2], [], [], fun _ => none, [], noM, []⟩
theorem bd38 (n : Int) (hpre : pr38 n) : bodyP (cx38 n) Try.f38 0 [.int .i64 (n)] (fun rr => VLe rr (rs38 n)) := by
  have key :
      ((pr52 n (0 : Int) (20 : Int)) ∧
   (VLe (V.bool (decide (inR n (0 : Int) (20 : Int)))) (V.bool (decide (inR n (0 : Int) (20 : Int)))))) := by
    exact ⟨trivial, VLe.refl _⟩
  exact Eq.mp (by kernel_rfl) key
theorem so38 : Sound Try.prog 38 sp38 := by
  refine sound_of_body hmix (pol := 0) Try.func38 rfl (by kernel_rfl) fun args bin ob r bout hDe hob => ?_
  unfold sp38 at hDe
  split at hDe
  · rename_i a0
    cases hDe
    exact ⟨rfl, rfl, Nat.le_of_ble_eq_true (by kernel_rfl), cx38 a0, Eq.mp (by kernel_rfl) htt, Eq.mp (by kernel_rfl) da38, Eq.mp (by kernel_rfl) (noM_sound (P := Try.prog)), by kernel_rfl, [.int .i64 (a0)], args_of_vles (⟨VLe.refl _, trivial⟩), Eq.mp (by kernel_rfl) (bd38 a0 (hob))⟩
  · cases hDe

/-! ### impl.isSlot -/
def pr45 (n : Int) : Prop := True
noncomputable def rs45 (n : Int) : V := .bool (decide (inR n 1 30))
noncomputable def sp45 : FSpec := fun args bin => match args, bin with
  | [.int .i64 a0], [] => some (pr45 a0, rs45 a0, [])
  | _, _ => none
noncomputable def D45 : Nat → Option (Bool × FSpec) := lk [(52, (false, sp52))]
theorem da45 : SoundAll Try.prog D45 := soundAll_cons so52 (soundAll_nil)
noncomputable def cx45 (n : Int) : Cx := ⟨tt, D45, Try.f45.ntmps, [0, 2], [], [], fun _ => none, [], noM, []⟩
theorem bd45 (n : Int) (hpre : pr45 n) : bodyP (cx45 n) Try.f45 0 [.int .i64 (n)] (fun rr => VLe rr (rs45 n)) := by
  have key :
      ((pr52 n (1 : Int) (30 : Int)) ∧
   (VLe (V.bool (decide (inR n (1 : Int) (30 : Int)))) (V.bool (decide (inR n (1 : Int) (30 : Int)))))) := by
    exact ⟨trivial, VLe.refl _⟩
  exact Eq.mp (by kernel_rfl) key
theorem so45 : Sound Try.prog 45 sp45 := by
  refine sound_of_body hmix (pol := 0) Try.func45 rfl (by kernel_rfl) fun args bin ob r bout hDe hob => ?_
  unfold sp45 at hDe
  split at hDe
  · rename_i a0
    cases hDe
    exact ⟨rfl, rfl, Nat.le_of_ble_eq_true (by kernel_rfl), cx45 a0, Eq.mp (by kernel_rfl) htt, Eq.mp (by kernel_rfl) da45, Eq.mp (by kernel_rfl) (noM_sound (P := Try.prog)), by kernel_rfl, [.int .i64 (a0)], args_of_vles (⟨VLe.refl _, trivial⟩), Eq.mp (by kernel_rfl) (bd45 a0 (hob))⟩
  · cases hDe

/-! ### impl.isValue -/
def pr64 (n : Int) : Prop := True
noncomputable def rs64 (n : Int) : V := .bool (decide (inR n 0 12))
noncomputable def sp64 : FSpec := fun args bin => match args, bin with
  | [.int .i64 a0], [] => some (pr64 a0, rs64 a0, [])
  | _, _ => none
noncomputable def D64 : Nat → Option (Bool × FSpec) := lk [(52, (false, sp52))]
theorem da64 : SoundAll Try.prog D64 := soundAll_cons so52 (soundAll_nil)
noncomputable def cx64 (n : Int) : Cx := ⟨tt, D64, Try.f64.ntmps, [0, 2], [], [], fun _ => none, [], noM, []⟩
theorem bd64 (n : Int) (hpre : pr64 n) : bodyP (cx64 n) Try.f64 0 [.int .i64 (n)] (fun rr => VLe rr (rs64 n)) := by
  have key :
      ((pr52 n (0 : Int) (12 : Int)) ∧
   (VLe (V.bool (decide (inR n (0 : Int) (12 : Int)))) (V.bool (decide (inR n (0 : Int) (12 : Int)))))) := by
    exact ⟨trivial, VLe.refl _⟩
  exact Eq.mp (by kernel_rfl) key
theorem so64 : Sound Try.prog 64 sp64 := by
  refine sound_of_body hmix (pol := 0) Try.func64 rfl (by kernel_rfl) fun args bin ob r bout hDe hob => ?_
  unfold sp64 at hDe
  split at hDe
  · rename_i a0
    cases hDe
    exact ⟨rfl, rfl, Nat.le_of_ble_eq_true (by kernel_rfl), cx64 a0, Eq.mp (by kernel_rfl) htt, Eq.mp (by kernel_rfl) da64, Eq.mp (by kernel_rfl) (noM_sound (P := Try.prog)), by kernel_rfl, [.int .i64 (a0)], args_of_vles (⟨VLe.refl _, trivial⟩), Eq.mp (by kernel_rfl) (bd64 a0 (hob))⟩
  · cases hDe

/-! ### impl.isSlotted -/
def pr62 (n : Int) : Prop := True
noncomputable def rs62 (n : Int) : V := .bool (decide (inR n 1 3))
noncomputable def sp62 : FSpec := fun args bin => match args, bin with
  | [.int .i64 a0], [] => some (pr62 a0, rs62 a0, [])
  | _, _ => none
noncomputable def D62 : Nat → Option (Bool × FSpec) := lk [(52, (false, sp52))]
theorem da62 : SoundAll Try.prog D62 := soundAll_cons so52 (soundAll_nil)
noncomputable def cx62 (n : Int) : Cx := ⟨tt, D62, Try.f62.ntmps, [0, 2], [], [], fun _ => none, [], noM, []⟩
theorem bd62 (n : Int) (hpre : pr62 n) : bodyP (cx62 n) Try.f62 0 [.int .i64 (n)] (fun rr => VLe rr (rs62 n)) := by
  have key :
      ((pr52 n (1 : Int) (3 : Int)) ∧
   (VLe (V.bool (decide (inR n (1 : Int) (3 : Int)))) (V.bool (decide (inR n (1 : Int) (3 : Int)))))) := by
    exact ⟨trivial, VLe.refl _⟩
  exact Eq.mp (by kernel_rfl) key
theorem so62 : Sound Try.prog 62 sp62 := by
  refine sound_of_body hmix (pol := 0) Try.func62 rfl (by kernel_rfl) fun args bin ob r bout hDe hob => ?_
  unfold sp62 at hDe
  split at hDe
  · rename_i a0
    cases hDe
    exact ⟨rfl, rfl, Nat.le_of_ble_eq_true (by kernel_rfl), cx62 a0, Eq.mp (by kernel_rfl) htt, Eq.mp (by kernel_rfl) da62, Eq.mp (by kernel_rfl) (noM_sound (P := Try.prog)), by kernel_rfl, [.int .i64 (a0)], args_of_vles (⟨VLe.refl _, trivial⟩), Eq.mp (by kernel_rfl) (bd62 a0 (hob))⟩
  · cases hDe

/-! ### spec.l8Bare -/
def pr71 (m : Msg) : Prop := True
noncomputable def rs71 (m : Msg) : V := .bool (decide (bare m))
noncomputable def sp71 : FSpec := fun args bin => match args, bin with
  | [a0], [] => some (VLe a0 (encPMsg 1 ((decPMsg a0))) ∧ pr71 (decPMsg a0), rs71 (decPMsg a0), [])
  | _, _ => none
noncomputable def D71 : Nat → Option (Bool × FSpec) := lk [(41, (false, sp41))]
theorem da71 : SoundAll Try.prog D71 := soundAll_cons so41 (soundAll_nil)
noncomputable def cx71 (m : Msg) : Cx := ⟨tt, D71, Try.f71.ntmps, [0, 2, 3], [], [], fun _ => none, [], noM, []⟩
theorem bd71 (m : Msg) (hpre : pr71 m) : bodyP (cx71 m) Try.f71 0 [encPMsg 1 (m)] (fun rr => VLe rr (rs71 m)) := by
  have key :
      ((pr41 (Msg.kind m) (1 : Int) (3 : Int)) ∧
   ((pr41 (Msg.kind m) (1 : Int) (5 : Int)) ∧
   ((tq (decide (inR (Msg.kind m) (1 : Int) (5 : Int)))) ∧
   ((tq (decide (inR (Msg.kind m) (1 : Int) (5 : Int)) && !decide (inR (Msg.kind m) (1 : Int) (3 : Int)))) ∧
   ((tq (decide (inR (Msg.kind m) (1 : Int) (5 : Int)) && !decide (inR (Msg.kind m) (1 : Int) (3 : Int)))) ∧
   ((tq (decide (inR (Msg.kind m) (1 : Int) (5 : Int)) && !decide (inR (Msg.kind m) (1 : Int) (3 : Int)))) ∧
   ((tq (decide (inR (Msg.kind m) (1 : Int) (5 : Int)) && !decide (inR (Msg.kind m) (1 : Int) (3 : Int)))) ∧
   ((tq (decide (inR (Msg.kind m) (1 : Int) (5 : Int)) && !decide (inR (Msg.kind m) (1 : Int) (3 : Int)))) ∧
   ((tq (decide (inR (Msg.kind m) (1 : Int) (5 : Int)) && !decide (inR (Msg.kind m) (1 : Int) (3 : Int)) &&
   Msg.slot m == (0 : Int))) ∧
   ((tq (decide (inR (Msg.kind m) (1 : Int) (5 : Int)) && !decide (inR (Msg.kind m) (1 : Int) (3 : Int)) &&
   Msg.slot m == (0 : Int))) ∧
   ((tq (decide (inR (Msg.kind m) (1 : Int) (5 : Int)) && !decide (inR (Msg.kind m) (1 : Int) (3 : Int)) &&
   Msg.slot m == (0 : Int))) ∧
   ((tq (decide (inR (Msg.kind m) (1 : Int) (5 : Int)) && !decide (inR (Msg.kind m) (1 : Int) (3 : Int)) &&
   Msg.slot m == (0 : Int))) ∧
   ((tq (decide (inR (Msg.kind m) (1 : Int) (5 : Int)) && !decide (inR (Msg.kind m) (1 : Int) (3 : Int)))) ∧
   ((((decide (inR (Msg.kind m) (1 : Int) (5 : Int)) && !decide (inR (Msg.kind m) (1 : Int) (3 : Int))) = true) →
   (((decide (inR (Msg.kind m) (1 : Int) (5 : Int)) && !decide (inR (Msg.kind m) (1 : Int) (3 : Int))) = true) →
   (((Msg.slot m == (0 : Int)) = true) →
   ((decide (inR (Msg.kind m) (1 : Int) (5 : Int)) && !decide (inR (Msg.kind m) (1 : Int) (3 : Int)) &&
   Msg.slot m == (0 : Int)) =
   true)))) ∧
   (∀ b : Bool,
   ((b = bif Msg.slot m == (0 : Int) then Msg.value m == (0 : Int) else false) →
   ((tq (decide (inR (Msg.kind m) (1 : Int) (5 : Int)))) ∧
   (((decide (inR (Msg.kind m) (1 : Int) (5 : Int)) = true) →
   ((decide (inR (Msg.kind m) (1 : Int) (5 : Int)) = true) →
   ((decide (inR (Msg.kind m) (1 : Int) (3 : Int)) = false) →
   ((decide (inR (Msg.kind m) (1 : Int) (5 : Int)) && !decide (inR (Msg.kind m) (1 : Int) (3 : Int))) = true)))) ∧
   (∀ b_1 : Bool,
   ((b_1 = bif decide (inR (Msg.kind m) (1 : Int) (3 : Int)) then true else b) →
   (((true = true) →
   ((decide (inR (Msg.kind m) (1 : Int) (5 : Int)) = true) →
   (decide (inR (Msg.kind m) (1 : Int) (5 : Int)) = true))) ∧
   (∀ b_2 : Bool,
   ((b_2 = bif decide (inR (Msg.kind m) (1 : Int) (5 : Int)) then b_1 else false) →
   ((tq (b_2)) ∧
   ((tq (b_2)) ∧
   ((tq (b_2)) ∧
   ((tq (b_2)) ∧
   ((tq (b_2)) ∧
   ((tq (b_2 && !Msg.kind m == (4 : Int))) ∧
   ((tq (b_2 && !Msg.kind m == (4 : Int))) ∧
   ((tq (b_2 && !Msg.kind m == (4 : Int))) ∧
   ((tq (b_2 && !Msg.kind m == (4 : Int))) ∧
   ((tq (b_2 && !Msg.kind m == (4 : Int))) ∧
   ((tq (b_2)) ∧
   (((b_2 = true) →
   ((b_2 = true) →
   (((Msg.kind m == (4 : Int)) = false) →
   ((b_2 && !Msg.kind m == (4 : Int)) = true)))) ∧
   (∀ b_3 : Bool,
   ((b_3 = bif Msg.kind m == (4 : Int) then true else (↑(List.length (Msg.certs m)) : Int) == (0 : Int)) →
   (((true = true) →
   ((b_2 = true) →
   (b_2 = true))) ∧
   (∀ b_4 : Bool,
   ((b_4 = bif b_2 then b_3 else false) →
   ((tq (b_4)) ∧
   ((tq (b_4)) ∧
   ((tq (b_4)) ∧
   ((tq (b_4)) ∧
   ((tq (b_4)) ∧
   ((tq (b_4 && !Msg.kind m == (5 : Int))) ∧
   ((tq (b_4 && !Msg.kind m == (5 : Int))) ∧
   ((tq (b_4 && !Msg.kind m == (5 : Int))) ∧
   ((tq (b_4 && !Msg.kind m == (5 : Int))) ∧
   ((tq (b_4 && !Msg.kind m == (5 : Int))) ∧
   ((tq (b_4)) ∧
   (((b_4 = true) →
   ((b_4 = true) →
   (((Msg.kind m == (5 : Int)) = false) →
   ((b_4 && !Msg.kind m == (5 : Int)) = true)))) ∧
   (∀ b_5 : Bool,
   ((b_5 = bif Msg.kind m == (5 : Int) then true else (↑(List.length (Msg.refs m)) : Int) == (0 : Int)) →
   (((true = true) →
   ((b_4 = true) →
   (b_4 = true))) ∧
   (∀ b_6 : Bool,
   ((b_6 = bif b_4 then b_5 else false) →
   (VLe (V.bool b_6) (V.bool (decide (bare m))))))))))))))))))))))))))))))))))))))))))))))))))))))))))))) := by
    repeat (first | (refine And.intro (fun h _ => h) ?_) | (refine And.intro (fun _ h => h) ?_) | (refine And.intro ?aa ?_; case aa => (simp [pr41]; done)) | (refine And.intro ?aa ?_; case aa => (simp_all [pr41]; done)) | (refine And.intro ?aa ?_; case aa => (intros; exact inK64 (by omega))) | (refine And.intro ?aa ?_; case aa => (intros; simp only [decide_eq_true_eq] at *; omega)) | (intro q hq))
    subst_vars
    refine vle_bool ?_
    rw [Bool.eq_iff_iff]
    simp
    try simp only [bare, inR, List.length_eq_zero_iff, and_assoc]
    try omega
  exact Eq.mp (by kernel_rfl) key
theorem so71 : Sound Try.prog 71 sp71 := by
  refine sound_of_body hmix (pol := 0) Try.func71 rfl (by kernel_rfl) fun args bin ob r bout hDe hob => ?_
  unfold sp71 at hDe
  split at hDe
  · rename_i a0
    cases hDe
    exact ⟨rfl, rfl, Nat.le_of_ble_eq_true (by kernel_rfl), cx71 (decPMsg a0), Eq.mp (by kernel_rfl) htt, Eq.mp (by kernel_rfl) da71, Eq.mp (by kernel_rfl) (noM_sound (P := Try.prog)), by kernel_rfl, [encPMsg 1 ((decPMsg a0))], args_of_vles (⟨hob.1, trivial⟩), Eq.mp (by kernel_rfl) (bd71 (decPMsg a0) (hob.2))⟩
  · cases hDe

/-! ### impl.msgFault$1 -/
def pr66 (c : Cert) (m : Msg) : Prop := inR m.view 0 20
noncomputable def rs66 (c : Cert) (m : Msg) : V := .bool (decide (¬ goodC m c))
noncomputable def sp66 : FSpec := fun args bin => match args, bin with
  | [a0, a1], [] => some (VLe a0 (encCert 1 ((decCert a0))) ∧ VLe a1 (encPMsg 1 ((decPMsg a1))) ∧ pr66 (decCert a0) (decPMsg a1), rs66 (decCert a0) (decPMsg a1), [])
  | _, _ => none
noncomputable def D66 : Nat → Option (Bool × FSpec) := lk [(52, (false, sp52)), (45, (false, sp45)), (64, (false, sp64))]
theorem da66 : SoundAll Try.prog D66 := soundAll_cons so52 (soundAll_cons so45 (soundAll_cons so64 (soundAll_nil)))
noncomputable def cx66 (c : Cert) (m : Msg) : Cx := ⟨tt, D66, Try.f66.ntmps, [0, 1, 2, 3], [], [], fun _ => none, [], noM, []⟩
theorem bd66 (c : Cert) (m : Msg) (hpre : pr66 c m) : bodyP (cx66 c m) Try.f66 0 [encCert 1 (c), encPMsg 1 (m)] (fun rr => VLe rr (rs66 c m)) := by
  have key :
      ((pr45 (Cert.slot c)) ∧
   ((tq (!!decide (inR (Cert.slot c) (1 : Int) (30 : Int)))) ∧
   ((tq (!!decide (inR (Cert.slot c) (1 : Int) (30 : Int)))) ∧
   ((tq (!!decide (inR (Cert.slot c) (1 : Int) (30 : Int)))) ∧
   ((((!!decide (inR (Cert.slot c) (1 : Int) (30 : Int))) = true) →
   (inK IntKind.i64 (Msg.view m - (1 : Int)))) ∧
   ((tq (!!decide (inR (Cert.slot c) (1 : Int) (30 : Int)))) ∧
   ((tq (!!decide (inR (Cert.slot c) (1 : Int) (30 : Int)))) ∧
   ((((!!decide (inR (Cert.slot c) (1 : Int) (30 : Int))) = true) →
   (pr52 (Cert.view c) (0 : Int) (Msg.view m - (1 : Int)))) ∧
   ((tq (!!decide (inR (Cert.slot c) (1 : Int) (30 : Int)))) ∧
   (((true = true) →
   (((!decide (inR (Cert.slot c) (1 : Int) (30 : Int))) = false) →
   ((!!decide (inR (Cert.slot c) (1 : Int) (30 : Int))) = true))) ∧
   (∀ b : Bool,
   ((b =
   bif !decide (inR (Cert.slot c) (1 : Int) (30 : Int)) then true
   else !decide (inR (Cert.view c) (0 : Int) (Msg.view m - (1 : Int)))) →
   ((tq (!b)) ∧
   ((tq (!b)) ∧
   ((((!b) = true) →
   (pr64 (Cert.value c))) ∧
   ((tq (!b)) ∧
   (((true = true) →
   ((b = false) →
   ((!b) = true))) ∧
   (∀ b_1 : Bool,
   ((b_1 = bif b then true else !decide (inR (Cert.value c) (0 : Int) (12 : Int))) →
   (VLe (V.bool b_1) (V.bool (decide ¬goodC m c)))))))))))))))))))))) := by
    unfold pr66 inR at hpre
    repeat (first | (refine And.intro (fun h _ => h) ?_) | (refine And.intro (fun _ h => h) ?_) | (refine And.intro ?aa ?_; case aa => (simp [pr52, pr45, pr64]; done)) | (refine And.intro ?aa ?_; case aa => (simp_all [pr52, pr45, pr64]; done)) | (refine And.intro ?aa ?_; case aa => (intros; exact inK64 (by omega))) | (refine And.intro ?aa ?_; case aa => (intros; simp only [decide_eq_true_eq] at *; omega)) | (intro q hq))
    subst_vars
    refine vle_bool ?_
    rw [Bool.eq_iff_iff]
    simp
    try simp only [goodC, inR]
    try omega
  exact Eq.mp (by kernel_rfl) key
theorem so66 : Sound Try.prog 66 sp66 := by
  refine sound_of_body hmix (pol := 0) Try.func66 rfl (by kernel_rfl) fun args bin ob r bout hDe hob => ?_
  unfold sp66 at hDe
  split at hDe
  · rename_i a0 a1
    cases hDe
    exact ⟨rfl, rfl, Nat.le_of_ble_eq_true (by kernel_rfl), cx66 (decCert a0) (decPMsg a1), Eq.mp (by kernel_rfl) htt, Eq.mp (by kernel_rfl) da66, Eq.mp (by kernel_rfl) (noM_sound (P := Try.prog)), by kernel_rfl, [encCert 1 ((decCert a0)), encPMsg 1 ((decPMsg a1))], args_of_vles (⟨hob.1, hob.2.1, trivial⟩), Eq.mp (by kernel_rfl) (bd66 (decCert a0) (decPMsg a1) (hob.2.2))⟩
  · cases hDe

/-! ### impl.msgFault$2 -/
def pr67 (r : Int) : Prop := True
noncomputable def rs67 (r : Int) : V := .bool (decide (¬ goodR r))
noncomputable def sp67 : FSpec := fun args bin => match args, bin with
  | [.int .i64 a0], [] => some (pr67 a0, rs67 a0, [])
  | _, _ => none
noncomputable def D67 : Nat → Option (Bool × FSpec) := lk [(52, (false, sp52))]
theorem da67 : SoundAll Try.prog D67 := soundAll_cons so52 (soundAll_nil)
noncomputable def cx67 (r : Int) : Cx := ⟨tt, D67, Try.f67.ntmps, [0, 2], [], [], fun _ => none, [], noM, []⟩
theorem bd67 (r : Int) (hpre : pr67 r) : bodyP (cx67 r) Try.f67 0 [.int .i64 (r)] (fun rr => VLe rr (rs67 r)) := by
  have key :
      ((pr52 r (0 : Int) (239 : Int)) ∧
   (VLe (V.bool !decide (inR r (0 : Int) (239 : Int))) (V.bool (decide ¬goodR r)))) := by
    repeat (first | (refine And.intro (fun h _ => h) ?_) | (refine And.intro (fun _ h => h) ?_) | (refine And.intro ?aa ?_; case aa => (simp [pr52]; done)) | (refine And.intro ?aa ?_; case aa => (simp_all [pr52]; done)) | (refine And.intro ?aa ?_; case aa => (intros; exact inK64 (by omega))) | (refine And.intro ?aa ?_; case aa => (intros; simp only [decide_eq_true_eq] at *; omega)) | (intro q hq))
    subst_vars
    refine vle_bool ?_
    rw [Bool.eq_iff_iff]
    simp
    try simp only [goodR, inR]
    try omega
  exact Eq.mp (by kernel_rfl) key
theorem so67 : Sound Try.prog 67 sp67 := by
  refine sound_of_body hmix (pol := 0) Try.func67 rfl (by kernel_rfl) fun args bin ob r bout hDe hob => ?_
  unfold sp67 at hDe
  split at hDe
  · rename_i a0
    cases hDe
    exact ⟨rfl, rfl, Nat.le_of_ble_eq_true (by kernel_rfl), cx67 a0, Eq.mp (by kernel_rfl) htt, Eq.mp (by kernel_rfl) da67, Eq.mp (by kernel_rfl) (noM_sound (P := Try.prog)), by kernel_rfl, [.int .i64 (a0)], args_of_vles (⟨VLe.refl _, trivial⟩), Eq.mp (by kernel_rfl) (bd67 a0 (hob))⟩
  · cases hDe

/-! ### slices.IndexFunc(()loop.example/g00369/impl.Cert,loop.example/g00369/impl.Cert)@impl.msgFault$1 -/
def pr86_66 (xs : List Cert) (m : Msg) : Prop := xs.length ≤ maxLen ∧ (inR m.view 0 20)
noncomputable def rs86_66 (xs : List Cert) (m : Msg) : V := .int .i64 (idxF (fun c => decide (¬ goodC m c)) xs)
noncomputable def sp86_66 : FSpec := fun args bin => match args, bin with
  | [a0, .fn 66 [a1]], [] => some (VLe a0 (encL (encCert 1) 1 (((decL decCert) a0))) ∧ VLe a1 (encPMsg 1 ((decPMsg a1))) ∧ pr86_66 ((decL decCert) a0) (decPMsg a1), rs86_66 ((decL decCert) a0) (decPMsg a1), [])
  | _, _ => none
noncomputable def in86_66_2 (xs : List Cert) (m : Msg) : LoopInv :=
  ⟨Nat, fun i => ⟨[(0, encL (encCert 1) 1 xs), (1, .fn 66 [encPMsg 1 (m)]), (7, .int .i64 xs.length), (8, .int .i64 i)], []⟩,
    fun i => i ≤ xs.length ∧ ∀ j, j < i → (fun c => decide (¬ goodC m c)) (xs.getD j default) = false, fun i => xs.length - i⟩
noncomputable def iv86_66 (xs : List Cert) (m : Msg) : Nat → Option LoopInv := fun rg_ => match rg_ with
  | 2 => some (in86_66_2 xs m)
  | _ => none
noncomputable def D86_66 : Nat → Option (Bool × FSpec) := lk [(66, (false, sp66))]
theorem da86_66 : SoundAll Try.prog D86_66 := soundAll_cons so66 (soundAll_nil)
noncomputable def cx86_66 (xs : List Cert) (m : Msg) : Cx := ⟨tt, D86_66, Try.f86.ntmps, [0, 1, 4, 5, 7, 8, 9, 16], [(2, ⟨[(0, none), (1, none), (7, none), (8, none)], []⟩)], [], iv86_66 xs m, [], noM, []⟩
theorem bd86_66 (xs : List Cert) (m : Msg) (hpre : pr86_66 xs m) : bodyP (cx86_66 xs m) Try.f86 0 [encL (encCert 1) 1 (xs), .fn 66 [encPMsg 1 (m)]] (fun rr => VLe rr (rs86_66 xs m)) := by
  have key :
      ((∃ x : Nat, ((SLe
   (AS.mk
   [(0, encL (encCert 1) 1 xs), (1, V.fn (66 : FuncId) [encPMsg 1 m]),
   (7, V.int IntKind.i64 (↑(List.length xs) : Int)), (8, V.int IntKind.i64 (0 : Int))]
   [])
   (AS.mk
   [(0, encL (encCert 1) 1 xs), (1, V.fn (66 : FuncId) [encPMsg 1 m]),
   (7, V.int IntKind.i64 (↑(List.length xs) : Int)), (8, V.int IntKind.i64 (↑x : Int))]
   [])) ∧
   ((x ≤ List.length xs) ∧
   (∀ j : Nat,
   ((j < x) →
   ((decide ¬goodC m (List.getD xs j default)) = false)))))) ∧
   (∀ x : Nat,
   (((x ≤ List.length xs) ∧
   (∀ j : Nat,
   ((j < x) →
   ((decide ¬goodC m (List.getD xs j default)) = false)))) →
   (((decide ((↑x : Int) < (↑(List.length xs) : Int)) = true) →
   ((((0 : Int) ≤ (↑x : Int)) ∧
   ((↑x : Int) < (↑(List.length xs) : Int))) ∧
   (((VLe (encCert 1 (List.getD xs (Int.toNat (↑x : Int)) default))
   (encCert 1 (decCert (encCert 1 (List.getD xs (Int.toNat (↑x : Int)) default))))) ∧
   ((VLe (encPMsg 1 m) (encPMsg 1 (decPMsg (encPMsg 1 m)))) ∧
   (pr66 (decCert (encCert 1 (List.getD xs (Int.toNat (↑x : Int)) default))) (decPMsg (encPMsg 1 m))))) ∧
   ((((decide
   ¬goodC (decPMsg (encPMsg 1 m))
   (decCert (encCert 1 (List.getD xs (Int.toNat (↑x : Int)) default)))) =
   true) →
   (VLe (V.int IntKind.i64 (↑x : Int)) (V.int IntKind.i64 (idxF (fun (c : Cert) ↦ decide ¬goodC m c) xs)))) ∧
   (((decide
   ¬goodC (decPMsg (encPMsg 1 m))
   (decCert (encCert 1 (List.getD xs (Int.toNat (↑x : Int)) default)))) =
   false) →
   ((inK IntKind.i64 ((↑x : Int) + (1 : Int))) ∧
   (∃ y : Nat, ((SLe
   (AS.mk
   [(0, encL (encCert 1) 1 xs), (1, V.fn (66 : FuncId) [encPMsg 1 m]),
   (7, V.int IntKind.i64 (↑(List.length xs) : Int)), (8, V.int IntKind.i64 ((↑x : Int) + (1 : Int)))]
   [])
   (AS.mk
   [(0, encL (encCert 1) 1 xs), (1, V.fn (66 : FuncId) [encPMsg 1 m]),
   (7, V.int IntKind.i64 (↑(List.length xs) : Int)), (8, V.int IntKind.i64 (↑y : Int))]
   [])) ∧
   (((y ≤ List.length xs) ∧
   (∀ j : Nat,
   ((j < y) →
   ((decide ¬goodC m (List.getD xs j default)) = false)))) ∧
   (List.length xs - y < List.length xs - x)))))))))) ∧
   ((decide ((↑x : Int) < (↑(List.length xs) : Int)) = false) →
   (VLe (V.int IntKind.i64 (-1 : Int)) (V.int IntKind.i64 (idxF (fun (c : Cert) ↦ decide ¬goodC m c) xs)))))))) := by
    obtain ⟨hlen, hp⟩ := hpre
    unfold maxLen at hlen
    refine ⟨⟨0, SLe.refl _, by omega, fun j hj => absurd hj (Nat.not_lt_zero j)⟩, ?_⟩
    rintro i ⟨hi, hj⟩
    refine ⟨fun h => ?_, fun h => ?_⟩
    · have hlt : i < xs.length := by simpa using h
      have hin : xs.getD i default ∈ xs := by simp [hlt]
      simp only [Int.toNat_natCast, dec_encCert, dec_encPMsg, dec_encMsg, decL_Msg, dec_encPInt]
      refine ⟨⟨by omega, by omega⟩, ⟨VLe.refl _, VLe.refl _, hp⟩, fun h2 => vle_int (idxF_some hlt hj h2).symm, fun h2 => ⟨inK64 (by omega), i + 1, SLe.refl _, ⟨by omega, fun j h3 => ?_⟩, by omega⟩⟩
      rcases Nat.lt_or_ge j i with h4 | h4
      · exact hj j h4
      · have : j = i := by omega
        subst this
        exact h2
    · have hge : i = xs.length := by simp at h; omega
      exact vle_int (idxF_none fun j h3 => hj j (by omega)).symm
  exact Eq.mp (by kernel_rfl) key
theorem so86_66 : Sound Try.prog 86 sp86_66 := by
  refine sound_of_body hmix (pol := 0) Try.func86 rfl (by kernel_rfl) fun args bin ob r bout hDe hob => ?_
  unfold sp86_66 at hDe
  split at hDe
  · rename_i a0 a1
    cases hDe
    exact ⟨rfl, rfl, Nat.le_of_ble_eq_true (by kernel_rfl), cx86_66 ((decL decCert) a0) (decPMsg a1), Eq.mp (by kernel_rfl) htt, Eq.mp (by kernel_rfl) da86_66, Eq.mp (by kernel_rfl) (noM_sound (P := Try.prog)), by kernel_rfl, [encL (encCert 1) 1 (((decL decCert) a0)), .fn 66 [encPMsg 1 ((decPMsg a1))]], args_of_vles (⟨hob.1, vle_fn ⟨hob.2.1, trivial⟩, trivial⟩), Eq.mp (by kernel_rfl) (bd86_66 ((decL decCert) a0) (decPMsg a1) (hob.2.2))⟩
  · cases hDe

/-! ### slices.ContainsFunc(()loop.example/g00369/impl.Cert,loop.example/g00369/impl.Cert)@impl.msgFault$1 -/
def pr65_66 (xs : List Cert) (m : Msg) : Prop := xs.length ≤ maxLen ∧ (inR m.view 0 20)
noncomputable def rs65_66 (xs : List Cert) (m : Msg) : V := .bool (xs.any (fun c => decide (¬ goodC m c)))
noncomputable def sp65_66 : FSpec := fun args bin => match args, bin with
  | [a0, .fn 66 [a1]], [] => some (VLe a0 (encL (encCert 1) 1 (((decL decCert) a0))) ∧ VLe a1 (encPMsg 1 ((decPMsg a1))) ∧ pr65_66 ((decL decCert) a0) (decPMsg a1), rs65_66 ((decL decCert) a0) (decPMsg a1), [])
  | _, _ => none
noncomputable def D65_66 : Nat → Option (Bool × FSpec) := lk [(86, (false, sp86_66))]
theorem da65_66 : SoundAll Try.prog D65_66 := soundAll_cons so86_66 (soundAll_nil)
noncomputable def cx65_66 (xs : List Cert) (m : Msg) : Cx := ⟨tt, D65_66, Try.f65.ntmps, [0, 1, 4], [], [], fun _ => none, [], noM, []⟩
theorem bd65_66 (xs : List Cert) (m : Msg) (hpre : pr65_66 xs m) : bodyP (cx65_66 xs m) Try.f65 0 [encL (encCert 1) 1 (xs), .fn 66 [encPMsg 1 (m)]] (fun rr => VLe rr (rs65_66 xs m)) := by
  have key :
      (((VLe (encL (encCert 1) 1 xs)
   (encL (encCert 1) 1 (decL decCert (encL (encCert 1) 1 xs)))) ∧
   ((VLe (encPMsg 1 m) (encPMsg 1 (decPMsg (encPMsg 1 m)))) ∧
   (pr86_66 (decL decCert (encL (encCert 1) 1 xs)) (decPMsg (encPMsg 1 m))))) ∧
   (VLe
   (V.bool
   (decide
   (idxF (fun (c : Cert) ↦ decide ¬goodC (decPMsg (encPMsg 1 m)) c)
   (decL decCert (encL (encCert 1) 1 xs)) ≥
   (0 : Int))))
   (V.bool (List.any xs fun (c : Cert) ↦ decide ¬goodC m c)))) := by
    simp only [decL_ints, decL_Cert, dec_encPMsg, dec_encMsg, decL_Msg, dec_encPInt]
    refine ⟨?_, vle_bool (idxF_nonneg _ _)⟩
    repeat' (first | exact VLe.refl _ | exact hpre | apply And.intro)
  exact Eq.mp (by kernel_rfl) key
theorem so65_66 : Sound Try.prog 65 sp65_66 := by
  refine sound_of_body hmix (pol := 0) Try.func65 rfl (by kernel_rfl) fun args bin ob r bout hDe hob => ?_
  unfold sp65_66 at hDe
  split at hDe
  · rename_i a0 a1
    cases hDe
    exact ⟨rfl, rfl, Nat.le_of_ble_eq_true (by kernel_rfl), cx65_66 ((decL decCert) a0) (decPMsg a1), Eq.mp (by kernel_rfl) htt, Eq.mp (by kernel_rfl) da65_66, Eq.mp (by kernel_rfl) (noM_sound (P := Try.prog)), by kernel_rfl, [encL (encCert 1) 1 (((decL decCert) a0)), .fn 66 [encPMsg 1 ((decPMsg a1))]], args_of_vles (⟨hob.1, vle_fn ⟨hob.2.1, trivial⟩, trivial⟩), Eq.mp (by kernel_rfl) (bd65_66 ((decL decCert) a0) (decPMsg a1) (hob.2.2))⟩
  · cases hDe

/-! ### slices.IndexFunc(()int64,int64)@impl.msgFault$2 -/
def pr78_67 (xs : List Int) : Prop := xs.length ≤ maxLen ∧ (True)
noncomputable def rs78_67 (xs : List Int) : V := .int .i64 (idxF (fun r => decide (¬ goodR r)) xs)
noncomputable def sp78_67 : FSpec := fun args bin => match args, bin with
  | [a0, .fn 67 []], [] => some (VLe a0 (encL encI 1 (((decL decI) a0))) ∧ pr78_67 ((decL decI) a0), rs78_67 ((decL decI) a0), [])
  | _, _ => none
noncomputable def in78_67_2 (xs : List Int) : LoopInv :=
  ⟨Nat, fun i => ⟨[(0, encL encI 1 xs), (1, .fn 67 []), (7, .int .i64 xs.length), (8, .int .i64 i)], []⟩,
    fun i => i ≤ xs.length ∧ ∀ j, j < i → (fun r => decide (¬ goodR r)) (xs.getD j default) = false, fun i => xs.length - i⟩
noncomputable def iv78_67 (xs : List Int) : Nat → Option LoopInv := fun rg_ => match rg_ with
  | 2 => some (in78_67_2 xs)
  | _ => none
noncomputable def D78_67 : Nat → Option (Bool × FSpec) := lk [(67, (false, sp67))]
theorem da78_67 : SoundAll Try.prog D78_67 := soundAll_cons so67 (soundAll_nil)
noncomputable def cx78_67 (xs : List Int) : Cx := ⟨tt, D78_67, Try.f78.ntmps, [0, 1, 4, 5, 7, 8, 9, 16], [(2, ⟨[(0, none), (1, none), (7, none), (8, none)], []⟩)], [], iv78_67 xs, [], noM, []⟩
theorem bd78_67 (xs : List Int) (hpre : pr78_67 xs) : bodyP (cx78_67 xs) Try.f78 0 [encL encI 1 (xs), .fn 67 []] (fun rr => VLe rr (rs78_67 xs)) := by
  have key :
      ((∃ x : Nat, ((SLe
   (AS.mk
   [(0, encL encI 1 xs), (1, V.fn (67 : FuncId) []),
   (7, V.int IntKind.i64 (↑(List.length xs) : Int)), (8, V.int IntKind.i64 (0 : Int))]
   [])
   (AS.mk
   [(0, encL encI 1 xs), (1, V.fn (67 : FuncId) []),
   (7, V.int IntKind.i64 (↑(List.length xs) : Int)), (8, V.int IntKind.i64 (↑x : Int))]
   [])) ∧
   ((x ≤ List.length xs) ∧
   (∀ j : Nat,
   ((j < x) →
   ((decide ¬goodR (List.getD xs j default)) = false)))))) ∧
   (∀ x : Nat,
   (((x ≤ List.length xs) ∧
   (∀ j : Nat,
   ((j < x) →
   ((decide ¬goodR (List.getD xs j default)) = false)))) →
   (((decide ((↑x : Int) < (↑(List.length xs) : Int)) = true) →
   ((((0 : Int) ≤ (↑x : Int)) ∧
   ((↑x : Int) < (↑(List.length xs) : Int))) ∧
   ((pr67 (List.getD xs (Int.toNat (↑x : Int)) default)) ∧
   ((((decide ¬goodR (List.getD xs (Int.toNat (↑x : Int)) default)) = true) →
   (VLe (V.int IntKind.i64 (↑x : Int)) (V.int IntKind.i64 (idxF (fun (r : Int) ↦ decide ¬goodR r) xs)))) ∧
   (((decide ¬goodR (List.getD xs (Int.toNat (↑x : Int)) default)) = false) →
   ((inK IntKind.i64 ((↑x : Int) + (1 : Int))) ∧
   (∃ y : Nat, ((SLe
   (AS.mk
   [(0, encL encI 1 xs), (1, V.fn (67 : FuncId) []),
   (7, V.int IntKind.i64 (↑(List.length xs) : Int)), (8, V.int IntKind.i64 ((↑x : Int) + (1 : Int)))]
   [])
   (AS.mk
   [(0, encL encI 1 xs), (1, V.fn (67 : FuncId) []),
   (7, V.int IntKind.i64 (↑(List.length xs) : Int)), (8, V.int IntKind.i64 (↑y : Int))]
   [])) ∧
   (((y ≤ List.length xs) ∧
   (∀ j : Nat,
   ((j < y) →
   ((decide ¬goodR (List.getD xs j default)) = false)))) ∧
   (List.length xs - y < List.length xs - x)))))))))) ∧
   ((decide ((↑x : Int) < (↑(List.length xs) : Int)) = false) →
   (VLe (V.int IntKind.i64 (-1 : Int)) (V.int IntKind.i64 (idxF (fun (r : Int) ↦ decide ¬goodR r) xs)))))))) := by
    obtain ⟨hlen, hp⟩ := hpre
    unfold maxLen at hlen
    refine ⟨⟨0, SLe.refl _, by omega, fun j hj => absurd hj (Nat.not_lt_zero j)⟩, ?_⟩
    rintro i ⟨hi, hj⟩
    refine ⟨fun h => ?_, fun h => ?_⟩
    · have hlt : i < xs.length := by simpa using h
      have hin : xs.getD i default ∈ xs := by simp [hlt]
      simp only [Int.toNat_natCast, decI_int, dec_encPMsg, dec_encMsg, decL_Msg, dec_encPInt]
      refine ⟨⟨by omega, by omega⟩, trivial, fun h2 => vle_int (idxF_some hlt hj h2).symm, fun h2 => ⟨inK64 (by omega), i + 1, SLe.refl _, ⟨by omega, fun j h3 => ?_⟩, by omega⟩⟩
      rcases Nat.lt_or_ge j i with h4 | h4
      · exact hj j h4
      · have : j = i := by omega
        subst this
        exact h2
    · have hge : i = xs.length := by simp at h; omega
      exact vle_int (idxF_none fun j h3 => hj j (by omega)).symm
  exact Eq.mp (by kernel_rfl) key
theorem so78_67 : Sound Try.prog 78 sp78_67 := by
  refine sound_of_body hmix (pol := 0) Try.func78 rfl (by kernel_rfl) fun args bin ob r bout hDe hob => ?_
  unfold sp78_67 at hDe
  split at hDe
  · rename_i a0
    cases hDe
    exact ⟨rfl, rfl, Nat.le_of_ble_eq_true (by kernel_rfl), cx78_67 ((decL decI) a0), Eq.mp (by kernel_rfl) htt, Eq.mp (by kernel_rfl) da78_67, Eq.mp (by kernel_rfl) (noM_sound (P := Try.prog)), by kernel_rfl, [encL encI 1 (((decL decI) a0)), .fn 67 []], args_of_vles (⟨hob.1, VLe.refl _, trivial⟩), Eq.mp (by kernel_rfl) (bd78_67 ((decL decI) a0) (hob.2))⟩
  · cases hDe

/-! ### slices.ContainsFunc(()int64,int64)@impl.msgFault$2 -/
def pr50_67 (xs : List Int) : Prop := xs.length ≤ maxLen ∧ (True)
noncomputable def rs50_67 (xs : List Int) : V := .bool (xs.any (fun r => decide (¬ goodR r)))
noncomputable def sp50_67 : FSpec := fun args bin => match args, bin with
  | [a0, .fn 67 []], [] => some (VLe a0 (encL encI 1 (((decL decI) a0))) ∧ pr50_67 ((decL decI) a0), rs50_67 ((decL decI) a0), [])
  | _, _ => none
noncomputable def D50_67 : Nat → Option (Bool × FSpec) := lk [(78, (false, sp78_67))]
theorem da50_67 : SoundAll Try.prog D50_67 := soundAll_cons so78_67 (soundAll_nil)
noncomputable def cx50_67 (xs : List Int) : Cx := ⟨tt, D50_67, Try.f50.ntmps, [0, 1, 4], [], [], fun _ => none, [], noM, []⟩
theorem bd50_67 (xs : List Int) (hpre : pr50_67 xs) : bodyP (cx50_67 xs) Try.f50 0 [encL encI 1 (xs), .fn 67 []] (fun rr => VLe rr (rs50_67 xs)) := by
  have key :
      (((VLe (encL encI 1 xs) (encL encI 1 (decL decI (encL encI 1 xs)))) ∧
   (pr78_67 (decL decI (encL encI 1 xs)))) ∧
   (VLe (V.bool (decide (idxF (fun (r : Int) ↦ decide ¬goodR r) (decL decI (encL encI 1 xs)) ≥ (0 : Int))))
   (V.bool (List.any xs fun (r : Int) ↦ decide ¬goodR r)))) := by
    simp only [decL_ints, decL_Cert, dec_encPMsg, dec_encMsg, decL_Msg, dec_encPInt]
    refine ⟨?_, vle_bool (idxF_nonneg _ _)⟩
    repeat' (first | exact VLe.refl _ | exact hpre | apply And.intro)
  exact Eq.mp (by kernel_rfl) key
theorem so50_67 : Sound Try.prog 50 sp50_67 := by
  refine sound_of_body hmix (pol := 0) Try.func50 rfl (by kernel_rfl) fun args bin ob r bout hDe hob => ?_
  unfold sp50_67 at hDe
  split at hDe
  · rename_i a0
    cases hDe
    exact ⟨rfl, rfl, Nat.le_of_ble_eq_true (by kernel_rfl), cx50_67 ((decL decI) a0), Eq.mp (by kernel_rfl) htt, Eq.mp (by kernel_rfl) da50_67, Eq.mp (by kernel_rfl) (noM_sound (P := Try.prog)), by kernel_rfl, [encL encI 1 (((decL decI) a0)), .fn 67 []], args_of_vles (⟨hob.1, VLe.refl _, trivial⟩), Eq.mp (by kernel_rfl) (bd50_67 ((decL decI) a0) (hob.2))⟩
  · cases hDe

/-! ### spec.l8Lists -/
def pr73 (m : Msg) : Prop := m.bd ∧ inR m.view 0 20
noncomputable def rs73 (m : Msg) : V := .int .i64 (listsFault m)
noncomputable def sp73 : FSpec := fun args bin => match args, bin with
  | [a0], [] => some (VLe a0 (encPMsg 1 ((decPMsg a0))) ∧ pr73 (decPMsg a0), rs73 (decPMsg a0), [])
  | _, _ => none
noncomputable def in73_2 (m : Msg) : LoopInv :=
  ⟨Nat, fun i => ⟨[(0, encPMsg 1 m), (3, .int .i64 i)], []⟩, fun i => 1 ≤ i ∧ (i ≤ m.certs.length ∨ i = 1) ∧ ∀ j, 1 ≤ j → j < i → (m.certs.getD (j - 1) default).slot < (m.certs.getD j default).slot, fun i => m.certs.length - i⟩
noncomputable def in73_7 (m : Msg) : LoopInv :=
  ⟨Nat, fun i => ⟨[(0, encPMsg 1 m), (4, .int .i64 i)], []⟩, fun i => 1 ≤ i ∧ (i ≤ m.refs.length ∨ i = 1) ∧ ∀ j, 1 ≤ j → j < i → m.refs.getD (j - 1) default < m.refs.getD j default, fun i => m.refs.length - i⟩
noncomputable def in73_12 (m : Msg) : LoopInv :=
  ⟨Nat, fun i => ⟨[(0, encPMsg 1 m), (5, .int .i64 i)], []⟩, fun i => i ≤ m.certs.length ∧ ∀ j, j < i → goodC m (m.certs.getD j default), fun i => m.certs.length - i⟩
noncomputable def in73_18 (m : Msg) : LoopInv :=
  ⟨Nat, fun i => ⟨[(0, encPMsg 1 m), (7, .int .i64 i)], []⟩, fun i => i ≤ m.refs.length ∧ ∀ j, j < i → goodR (m.refs.getD j default), fun i => m.refs.length - i⟩
noncomputable def iv73 (m : Msg) : Nat → Option LoopInv := fun rg_ => match rg_ with
  | 2 => some (in73_2 m)
  | 7 => some (in73_7 m)
  | 12 => some (in73_12 m)
  | 18 => some (in73_18 m)
  | _ => none
noncomputable def D73 : Nat → Option (Bool × FSpec) := lk [(41, (false, sp41))]
theorem da73 : SoundAll Try.prog D73 := soundAll_cons so41 (soundAll_nil)
noncomputable def cx73 (m : Msg) : Cx := ⟨tt, D73, Try.f73.ntmps, [0, 2, 3, 4, 5, 6, 7, 14, 34, 41, 59, 66, 96, 103, 114], [(2, ⟨[(0, none), (3, none)], []⟩), (7, ⟨[(0, none), (4, none)], []⟩), (12, ⟨[(0, none), (5, none)], []⟩), (18, ⟨[(0, none), (7, none)], []⟩)], [], iv73 m, [], noM, []⟩
theorem bd73 (m : Msg) (hpre : pr73 m) : bodyP (cx73 m) Try.f73 0 [encPMsg 1 (m)] (fun rr => VLe rr (rs73 m)) := by
  have key :
      ((∃ x : Nat, ((SLe (AS.mk [(0, encPMsg 1 m), (3, V.int IntKind.i64 (1 : Int))] [])
   (AS.mk [(0, encPMsg 1 m), (3, V.int IntKind.i64 (↑x : Int))] [])) ∧
   ((1 ≤ x) ∧
   ((x ≤ List.length (Msg.certs m) ∨ x = 1) ∧
   (∀ j : Nat,
   ((1 ≤ j) →
   ((j < x) →
   (Cert.slot (List.getD (Msg.certs m) (j - 1) default) < Cert.slot (List.getD (Msg.certs m) j default))))))))) ∧
   (∀ x : Nat,
   (((1 ≤ x) ∧
   ((x ≤ List.length (Msg.certs m) ∨ x = 1) ∧
   (∀ j : Nat,
   ((1 ≤ j) →
   ((j < x) →
   (Cert.slot (List.getD (Msg.certs m) (j - 1) default) < Cert.slot (List.getD (Msg.certs m) j default))))))) →
   (((decide ((↑x : Int) < (↑(List.length (Msg.certs m)) : Int)) = true) →
   ((((0 : Int) ≤ (↑x : Int)) ∧
   ((↑x : Int) < (↑(List.length (Msg.certs m)) : Int))) ∧
   ((inK IntKind.i64 ((↑x : Int) - (1 : Int))) ∧
   ((((0 : Int) ≤ (↑x : Int) - (1 : Int)) ∧
   ((↑x : Int) - (1 : Int) < (↑(List.length (Msg.certs m)) : Int))) ∧
   (((decide
   (Cert.slot (List.getD (Msg.certs m) (Int.toNat (↑x : Int)) default) ≤
   Cert.slot (List.getD (Msg.certs m) (Int.toNat ((↑x : Int) - (1 : Int))) default)) =
   true) →
   (VLe (V.int IntKind.i64 (1 : Int)) (V.int IntKind.i64 (listsFault m)))) ∧
   ((decide
   (Cert.slot (List.getD (Msg.certs m) (Int.toNat (↑x : Int)) default) ≤
   Cert.slot (List.getD (Msg.certs m) (Int.toNat ((↑x : Int) - (1 : Int))) default)) =
   false) →
   ((inK IntKind.i64 ((↑x : Int) + (1 : Int))) ∧
   (∃ y : Nat, ((SLe (AS.mk [(0, encPMsg 1 m), (3, V.int IntKind.i64 ((↑x : Int) + (1 : Int)))] [])
   (AS.mk [(0, encPMsg 1 m), (3, V.int IntKind.i64 (↑y : Int))] [])) ∧
   (((1 ≤ y) ∧
   ((y ≤ List.length (Msg.certs m) ∨ y = 1) ∧
   (∀ j : Nat,
   ((1 ≤ j) →
   ((j < y) →
   (Cert.slot (List.getD (Msg.certs m) (j - 1) default) < Cert.slot (List.getD (Msg.certs m) j default))))))) ∧
   (List.length (Msg.certs m) - y < List.length (Msg.certs m) - x))))))))))) ∧
   ((decide ((↑x : Int) < (↑(List.length (Msg.certs m)) : Int)) = false) →
   ((∃ x_1 : Nat, ((SLe (AS.mk [(0, encPMsg 1 m), (4, V.int IntKind.i64 (1 : Int))] [])
   (AS.mk [(0, encPMsg 1 m), (4, V.int IntKind.i64 (↑x_1 : Int))] [])) ∧
   ((1 ≤ x_1) ∧
   ((x_1 ≤ List.length (Msg.refs m) ∨ x_1 = 1) ∧
   (∀ j : Nat,
   ((1 ≤ j) →
   ((j < x_1) →
   (List.getD (Msg.refs m) (j - 1) default < List.getD (Msg.refs m) j default)))))))) ∧
   (∀ x_1 : Nat,
   (((1 ≤ x_1) ∧
   ((x_1 ≤ List.length (Msg.refs m) ∨ x_1 = 1) ∧
   (∀ j : Nat,
   ((1 ≤ j) →
   ((j < x_1) →
   (List.getD (Msg.refs m) (j - 1) default < List.getD (Msg.refs m) j default)))))) →
   (((decide ((↑x_1 : Int) < (↑(List.length (Msg.refs m)) : Int)) = true) →
   ((((0 : Int) ≤ (↑x_1 : Int)) ∧
   ((↑x_1 : Int) < (↑(List.length (Msg.refs m)) : Int))) ∧
   ((inK IntKind.i64 ((↑x_1 : Int) - (1 : Int))) ∧
   ((((0 : Int) ≤ (↑x_1 : Int) - (1 : Int)) ∧
   ((↑x_1 : Int) - (1 : Int) < (↑(List.length (Msg.refs m)) : Int))) ∧
   (((decide
   (List.getD (Msg.refs m) (Int.toNat (↑x_1 : Int)) default ≤
   List.getD (Msg.refs m) (Int.toNat ((↑x_1 : Int) - (1 : Int))) default) =
   true) →
   (VLe (V.int IntKind.i64 (1 : Int)) (V.int IntKind.i64 (listsFault m)))) ∧
   ((decide
   (List.getD (Msg.refs m) (Int.toNat (↑x_1 : Int)) default ≤
   List.getD (Msg.refs m) (Int.toNat ((↑x_1 : Int) - (1 : Int))) default) =
   false) →
   ((inK IntKind.i64 ((↑x_1 : Int) + (1 : Int))) ∧
   (∃ y : Nat, ((SLe (AS.mk [(0, encPMsg 1 m), (4, V.int IntKind.i64 ((↑x_1 : Int) + (1 : Int)))] [])
   (AS.mk [(0, encPMsg 1 m), (4, V.int IntKind.i64 (↑y : Int))] [])) ∧
   (((1 ≤ y) ∧
   ((y ≤ List.length (Msg.refs m) ∨ y = 1) ∧
   (∀ j : Nat,
   ((1 ≤ j) →
   ((j < y) →
   (List.getD (Msg.refs m) (j - 1) default < List.getD (Msg.refs m) j default)))))) ∧
   (List.length (Msg.refs m) - y < List.length (Msg.refs m) - x_1))))))))))) ∧
   ((decide ((↑x_1 : Int) < (↑(List.length (Msg.refs m)) : Int)) = false) →
   ((∃ x_2 : Nat, ((SLe (AS.mk [(0, encPMsg 1 m), (5, V.int IntKind.i64 (0 : Int))] [])
   (AS.mk [(0, encPMsg 1 m), (5, V.int IntKind.i64 (↑x_2 : Int))] [])) ∧
   ((x_2 ≤ List.length (Msg.certs m)) ∧
   (∀ j : Nat,
   ((j < x_2) →
   (goodC m (List.getD (Msg.certs m) j default))))))) ∧
   (∀ x_2 : Nat,
   (((x_2 ≤ List.length (Msg.certs m)) ∧
   (∀ j : Nat,
   ((j < x_2) →
   (goodC m (List.getD (Msg.certs m) j default))))) →
   (((decide ((↑x_2 : Int) < (↑(List.length (Msg.certs m)) : Int)) = true) →
   ((((0 : Int) ≤ (↑x_2 : Int)) ∧
   ((↑x_2 : Int) < (↑(List.length (Msg.certs m)) : Int))) ∧
   ((pr41 (Cert.slot (List.getD (Msg.certs m) (Int.toNat (↑x_2 : Int)) default)) (1 : Int) (30 : Int)) ∧
   ((tq (!!decide (inR (Cert.slot (List.getD (Msg.certs m) (Int.toNat (↑x_2 : Int)) default)) (1 : Int) (30 : Int)))) ∧
   ((tq (!!decide (inR (Cert.slot (List.getD (Msg.certs m) (Int.toNat (↑x_2 : Int)) default)) (1 : Int) (30 : Int)))) ∧
   ((tq (!!decide (inR (Cert.slot (List.getD (Msg.certs m) (Int.toNat (↑x_2 : Int)) default)) (1 : Int) (30 : Int)))) ∧
   ((tq (!!decide (inR (Cert.slot (List.getD (Msg.certs m) (Int.toNat (↑x_2 : Int)) default)) (1 : Int) (30 : Int)))) ∧
   ((tq (!!decide (inR (Cert.slot (List.getD (Msg.certs m) (Int.toNat (↑x_2 : Int)) default)) (1 : Int) (30 : Int)))) ∧
   ((((!!decide (inR (Cert.slot (List.getD (Msg.certs m) (Int.toNat (↑x_2 : Int)) default)) (1 : Int) (30 : Int))) = true) →
   (inK IntKind.i64 (Msg.view m - (1 : Int)))) ∧
   ((tq (!!decide (inR (Cert.slot (List.getD (Msg.certs m) (Int.toNat (↑x_2 : Int)) default)) (1 : Int) (30 : Int)))) ∧
   ((tq (!!decide (inR (Cert.slot (List.getD (Msg.certs m) (Int.toNat (↑x_2 : Int)) default)) (1 : Int) (30 : Int)))) ∧
   ((((!!decide (inR (Cert.slot (List.getD (Msg.certs m) (Int.toNat (↑x_2 : Int)) default)) (1 : Int) (30 : Int))) = true) →
   (pr41 (Cert.view (List.getD (Msg.certs m) (Int.toNat (↑x_2 : Int)) default)) (0 : Int) (Msg.view m - (1 : Int)))) ∧
   ((tq (!!decide (inR (Cert.slot (List.getD (Msg.certs m) (Int.toNat (↑x_2 : Int)) default)) (1 : Int) (30 : Int)))) ∧
   (((true = true) →
   (((!decide (inR (Cert.slot (List.getD (Msg.certs m) (Int.toNat (↑x_2 : Int)) default)) (1 : Int) (30 : Int))) = false) →
   ((!!decide (inR (Cert.slot (List.getD (Msg.certs m) (Int.toNat (↑x_2 : Int)) default)) (1 : Int) (30 : Int))) = true))) ∧
   (∀ b : Bool,
   ((b =
   bif !decide (inR (Cert.slot (List.getD (Msg.certs m) (Int.toNat (↑x_2 : Int)) default)) (1 : Int) (30 : Int)) then
   true
   else
   !decide
   (inR (Cert.view (List.getD (Msg.certs m) (Int.toNat (↑x_2 : Int)) default)) (0 : Int) (Msg.view m - (1 : Int)))) →
   ((tq (!b)) ∧
   ((tq (!b)) ∧
   ((((!b) = true) →
   (pr41 (Cert.value (List.getD (Msg.certs m) (Int.toNat (↑x_2 : Int)) default)) (0 : Int) (12 : Int))) ∧
   ((tq (!b)) ∧
   (((true = true) →
   ((b = false) →
   ((!b) = true))) ∧
   (∀ b_1 : Bool,
   ((b_1 =
   bif b then true
   else !decide (inR (Cert.value (List.getD (Msg.certs m) (Int.toNat (↑x_2 : Int)) default)) (0 : Int) (12 : Int))) →
   (((b_1 = true) →
   (VLe (V.int IntKind.i64 (3 : Int)) (V.int IntKind.i64 (listsFault m)))) ∧
   ((b_1 = false) →
   ((inK IntKind.i64 ((↑x_2 : Int) + (1 : Int))) ∧
   (∃ y : Nat, ((SLe (AS.mk [(0, encPMsg 1 m), (5, V.int IntKind.i64 ((↑x_2 : Int) + (1 : Int)))] [])
   (AS.mk [(0, encPMsg 1 m), (5, V.int IntKind.i64 (↑y : Int))] [])) ∧
   (((y ≤ List.length (Msg.certs m)) ∧
   (∀ j : Nat,
   ((j < y) →
   (goodC m (List.getD (Msg.certs m) j default))))) ∧
   (List.length (Msg.certs m) - y < List.length (Msg.certs m) - x_2)))))))))))))))))))))))))))))) ∧
   ((decide ((↑x_2 : Int) < (↑(List.length (Msg.certs m)) : Int)) = false) →
   ((∃ x_3 : Nat, ((SLe (AS.mk [(0, encPMsg 1 m), (7, V.int IntKind.i64 (0 : Int))] [])
   (AS.mk [(0, encPMsg 1 m), (7, V.int IntKind.i64 (↑x_3 : Int))] [])) ∧
   ((x_3 ≤ List.length (Msg.refs m)) ∧
   (∀ j : Nat,
   ((j < x_3) →
   (goodR (List.getD (Msg.refs m) j default))))))) ∧
   (∀ x_3 : Nat,
   (((x_3 ≤ List.length (Msg.refs m)) ∧
   (∀ j : Nat,
   ((j < x_3) →
   (goodR (List.getD (Msg.refs m) j default))))) →
   (((decide ((↑x_3 : Int) < (↑(List.length (Msg.refs m)) : Int)) = true) →
   ((((0 : Int) ≤ (↑x_3 : Int)) ∧
   ((↑x_3 : Int) < (↑(List.length (Msg.refs m)) : Int))) ∧
   ((pr41 (List.getD (Msg.refs m) (Int.toNat (↑x_3 : Int)) default) (0 : Int) (239 : Int)) ∧
   ((((!decide (inR (List.getD (Msg.refs m) (Int.toNat (↑x_3 : Int)) default) (0 : Int) (239 : Int))) = true) →
   (VLe (V.int IntKind.i64 (3 : Int)) (V.int IntKind.i64 (listsFault m)))) ∧
   (((!decide (inR (List.getD (Msg.refs m) (Int.toNat (↑x_3 : Int)) default) (0 : Int) (239 : Int))) = false) →
   ((inK IntKind.i64 ((↑x_3 : Int) + (1 : Int))) ∧
   (∃ y : Nat, ((SLe (AS.mk [(0, encPMsg 1 m), (7, V.int IntKind.i64 ((↑x_3 : Int) + (1 : Int)))] [])
   (AS.mk [(0, encPMsg 1 m), (7, V.int IntKind.i64 (↑y : Int))] [])) ∧
   (((y ≤ List.length (Msg.refs m)) ∧
   (∀ j : Nat,
   ((j < y) →
   (goodR (List.getD (Msg.refs m) j default))))) ∧
   (List.length (Msg.refs m) - y < List.length (Msg.refs m) - x_3)))))))))) ∧
   ((decide ((↑x_3 : Int) < (↑(List.length (Msg.refs m)) : Int)) = false) →
   (VLe (V.int IntKind.i64 (0 : Int)) (V.int IntKind.i64 (listsFault m))))))))))))))))))))))) := by
    obtain ⟨⟨hc, hr⟩, hv⟩ := hpre
    unfold maxLen at hc hr
    unfold inR at hv
    refine ⟨⟨1, SLe.refl _, by omega, Or.inr rfl, fun j h1 h2 => by omega⟩, ?_⟩
    rintro i ⟨h1, hi, hj⟩
    have e1 : ((i : Int) - 1).toNat = i - 1 := by omega
    simp only [Int.toNat_natCast, e1]
    refine ⟨fun h => ?_, fun h => ?_⟩
    · have hlt : i < m.certs.length := by simpa using h
      refine ⟨⟨by omega, by omega⟩, inK64 (by omega), ⟨by omega, by omega⟩, fun h2 => ?_, fun h2 => ⟨inK64 (by omega), i + 1, SLe.refl _, ⟨by omega, by omega, fun j h3 h4 => ?_⟩, by omega⟩⟩
      · refine vle_int ?_
        have : ¬ (riseC m.certs ∧ riseR m.refs) := fun hh => by
          have h6 := hh.1 i h1 hlt
          have h7 := of_decide_eq_true h2
          omega
        unfold listsFault
        rw [if_pos this]
      · rcases Nat.lt_or_ge j i with h5 | h5
        · exact hj j h3 h5
        · have : j = i := by omega
          subst this
          have h7 := of_decide_eq_false h2
          omega
    · have hge : m.certs.length ≤ i := by simpa using h
      have hrc : riseC m.certs := fun j h3 h4 => hj j h3 (by omega)
      clear hj hi h1 h hge e1 i
      refine ⟨⟨1, SLe.refl _, by omega, Or.inr rfl, fun j h1 h2 => by omega⟩, ?_⟩
      rintro i ⟨h1, hi, hj⟩
      have e1 : ((i : Int) - 1).toNat = i - 1 := by omega
      simp only [Int.toNat_natCast, e1]
      refine ⟨fun h => ?_, fun h => ?_⟩
      · have hlt : i < m.refs.length := by simpa using h
        refine ⟨⟨by omega, by omega⟩, inK64 (by omega), ⟨by omega, by omega⟩, fun h2 => ?_, fun h2 => ⟨inK64 (by omega), i + 1, SLe.refl _, ⟨by omega, by omega, fun j h3 h4 => ?_⟩, by omega⟩⟩
        · refine vle_int ?_
          have : ¬ (riseC m.certs ∧ riseR m.refs) := fun hh => by
            have h6 := hh.2 i h1 hlt
            have h7 := of_decide_eq_true h2
            omega
          unfold listsFault
          rw [if_pos this]
        · rcases Nat.lt_or_ge j i with h5 | h5
          · exact hj j h3 h5
          · have : j = i := by omega
            subst this
            have h7 := of_decide_eq_false h2
            omega
      · have hge : m.refs.length ≤ i := by simpa using h
        have hrr : riseR m.refs := fun j h3 h4 => hj j h3 (by omega)
        clear hj hi h1 h hge e1 i
        refine ⟨⟨0, SLe.refl _, by omega, fun j hj => absurd hj (Nat.not_lt_zero j)⟩, ?_⟩
        rintro i ⟨hi, hj⟩
        try simp only [Int.toNat_natCast]
        refine ⟨fun h => ?_, fun h => ?_⟩
        · have hlt : i < m.certs.length := by simpa using h
          have hin : m.certs.getD i default ∈ m.certs := by simp [hlt]
          refine ⟨⟨by omega, by omega⟩, ?_⟩
          repeat (first | (refine And.intro (fun h _ => h) ?_) | (refine And.intro (fun _ h => h) ?_) | (refine And.intro ?aa ?_; case aa => (simp [pr41]; done)) | (refine And.intro ?aa ?_; case aa => (simp_all [pr41]; done)) | (refine And.intro ?aa ?_; case aa => (intros; exact inK64 (by omega))) | (refine And.intro ?aa ?_; case aa => (intros; simp only [decide_eq_true_eq] at *; omega)) | (intro q hq))
          subst_vars
          refine ⟨fun h2 => ?_, fun h2 => ⟨inK64 (by omega), i + 1, SLe.refl _, ⟨by omega, fun j h3 => ?_⟩, by omega⟩⟩
          · have hb : ¬ goodC m (m.certs.getD i default) := fun hg => by
              obtain ⟨g1, g2, g3⟩ := hg
              simp only [g1, g2, g3, decide_true, Bool.not_true, cond_false, Bool.false_eq_true] at h2
            refine vle_int ?_
            unfold listsFault
            rw [if_neg (by simp [hrc, hrr]), if_pos fun hh => hb (hh.1 _ hin)]
          · rcases Nat.lt_or_ge j i with h4 | h4
            · exact hj j h4
            · have : j = i := by omega
              subst this
              simp at h2
              exact ⟨h2.1.1, h2.1.2, h2.2⟩
        · have hgc : ∀ c ∈ m.certs, goodC m c := fun c hc => by
            obtain ⟨k, hk, rfl⟩ := List.getElem_of_mem hc
            have hge : i = m.certs.length := by simp at h; omega
            have := hj k (by omega)
            simpa [hk] using this
          clear hj hi h i
          refine ⟨⟨0, SLe.refl _, by omega, fun j hj => absurd hj (Nat.not_lt_zero j)⟩, ?_⟩
          rintro i ⟨hi, hj⟩
          try simp only [Int.toNat_natCast]
          refine ⟨fun h => ?_, fun h => ?_⟩
          · have hlt : i < m.refs.length := by simpa using h
            have hin : m.refs.getD i default ∈ m.refs := by simp [hlt]
            refine ⟨⟨by omega, by omega⟩, trivial, fun h2 => ?_, fun h2 => ⟨inK64 (by omega), i + 1, SLe.refl _, ⟨by omega, fun j h3 => ?_⟩, by omega⟩⟩
            · have hb : ¬ goodR (m.refs.getD i default) := fun hg => by
                unfold goodR at hg
                simp only [hg, decide_true, Bool.not_true, Bool.false_eq_true] at h2
              refine vle_int ?_
              unfold listsFault
              rw [if_neg (by simp [hrc, hrr]), if_pos fun hh => hb (hh.2 _ hin)]
            · rcases Nat.lt_or_ge j i with h4 | h4
              · exact hj j h4
              · have : j = i := by omega
                subst this
                unfold goodR
                simpa using h2
          · have hgr : ∀ r ∈ m.refs, goodR r := fun r hr => by
              obtain ⟨k, hk, rfl⟩ := List.getElem_of_mem hr
              have hge : i = m.refs.length := by simp at h; omega
              have := hj k (by omega)
              simpa [hk] using this
            refine vle_int ?_
            unfold listsFault
            rw [if_neg (by simp [hrc, hrr]), if_neg (by simp; exact ⟨hgc, hgr⟩)]
  exact Eq.mp (by kernel_rfl) key
theorem so73 : Sound Try.prog 73 sp73 := by
  refine sound_of_body hmix (pol := 0) Try.func73 rfl (by kernel_rfl) fun args bin ob r bout hDe hob => ?_
  unfold sp73 at hDe
  split at hDe
  · rename_i a0
    cases hDe
    exact ⟨rfl, rfl, Nat.le_of_ble_eq_true (by kernel_rfl), cx73 (decPMsg a0), Eq.mp (by kernel_rfl) htt, Eq.mp (by kernel_rfl) da73, Eq.mp (by kernel_rfl) (noM_sound (P := Try.prog)), by kernel_rfl, [encPMsg 1 ((decPMsg a0))], args_of_vles (⟨hob.1, trivial⟩), Eq.mp (by kernel_rfl) (bd73 (decPMsg a0) (hob.2))⟩
  · cases hDe

/-! ### spec.l8Msg -/
def pr34 (f : Int) (m : Msg) : Prop := okF f ∧ m.bd
noncomputable def rs34 (f : Int) (m : Msg) : V := .int .i64 (msgFault f m)
noncomputable def sp34 : FSpec := fun args bin => match args, bin with
  | [.int .i64 a0, a1], [] => some (VLe a1 (encPMsg 1 ((decPMsg a1))) ∧ pr34 a0 (decPMsg a1), rs34 a0 (decPMsg a1), [])
  | _, _ => none
noncomputable def D34 : Nat → Option (Bool × FSpec) := lk [(71, (false, sp71)), (41, (false, sp41)), (72, (false, sp72)), (73, (false, sp73))]
theorem da34 : SoundAll Try.prog D34 := soundAll_cons so71 (soundAll_cons so41 (soundAll_cons so72 (soundAll_cons so73 (soundAll_nil))))
noncomputable def cx34 (f : Int) (m : Msg) : Cx := ⟨tt, D34, Try.f34.ntmps, [0, 1, 4, 5, 8, 47, 64], [], [], fun _ => none, [], noM, []⟩
theorem bd34 (f : Int) (m : Msg) (hpre : pr34 f m) : bodyP (cx34 f m) Try.f34 0 [.int .i64 (f), encPMsg 1 (m)] (fun rr => VLe rr (rs34 f m)) := by
  have key :
      (((VLe (encPMsg 1 m) (encPMsg 1 (decPMsg (encPMsg 1 m)))) ∧
   (pr71 (decPMsg (encPMsg 1 m)))) ∧
   ((((!decide (bare (decPMsg (encPMsg 1 m)))) = true) →
   (VLe (V.int IntKind.i64 (1 : Int)) (V.int IntKind.i64 (msgFault f m)))) ∧
   (((!decide (bare (decPMsg (encPMsg 1 m)))) = false) →
   ((pr41 (Msg.view m) (0 : Int) (20 : Int)) ∧
   ((tq (!!decide (inR (Msg.view m) (0 : Int) (20 : Int)))) ∧
   ((tq (!!decide (inR (Msg.view m) (0 : Int) (20 : Int)))) ∧
   ((tq (!!decide (inR (Msg.view m) (0 : Int) (20 : Int)))) ∧
   ((tq (!!decide (inR (Msg.view m) (0 : Int) (20 : Int)))) ∧
   ((tq (!!decide (inR (Msg.view m) (0 : Int) (20 : Int)))) ∧
   ((((!!decide (inR (Msg.view m) (0 : Int) (20 : Int))) = true) →
   (pr72 f (Msg.sender m))) ∧
   ((tq (!!decide (inR (Msg.view m) (0 : Int) (20 : Int)))) ∧
   (((true = true) →
   (((!decide (inR (Msg.view m) (0 : Int) (20 : Int))) = false) →
   ((!!decide (inR (Msg.view m) (0 : Int) (20 : Int))) = true))) ∧
   (∀ b : Bool,
   ((b =
   bif !decide (inR (Msg.view m) (0 : Int) (20 : Int)) then true
   else !decide (inR (Msg.sender m) (1 : Int) ((3 : Int) * f + (1 : Int)))) →
   ((tq (!b)) ∧
   ((tq (!b && decide (Msg.kind m ≤ (3 : Int)))) ∧
   ((tq (!b && decide (Msg.kind m ≤ (3 : Int)))) ∧
   ((tq (!b && decide (Msg.kind m ≤ (3 : Int)))) ∧
   ((tq (!b && decide (Msg.kind m ≤ (3 : Int)))) ∧
   ((((!b && decide (Msg.kind m ≤ (3 : Int))) = true) →
   (pr41 (Msg.slot m) (1 : Int) (30 : Int))) ∧
   ((tq (!b && decide (Msg.kind m ≤ (3 : Int)))) ∧
   ((tq (!b && decide (Msg.kind m ≤ (3 : Int)))) ∧
   ((tq (!b && decide (Msg.kind m ≤ (3 : Int)) && !!decide (inR (Msg.slot m) (1 : Int) (30 : Int)))) ∧
   ((tq (!b && decide (Msg.kind m ≤ (3 : Int)) && !!decide (inR (Msg.slot m) (1 : Int) (30 : Int)))) ∧
   ((tq (!b && decide (Msg.kind m ≤ (3 : Int)) && !!decide (inR (Msg.slot m) (1 : Int) (30 : Int)))) ∧
   ((tq (!b && decide (Msg.kind m ≤ (3 : Int)) && !!decide (inR (Msg.slot m) (1 : Int) (30 : Int)))) ∧
   ((((!b && decide (Msg.kind m ≤ (3 : Int)) && !!decide (inR (Msg.slot m) (1 : Int) (30 : Int))) = true) →
   (pr41 (Msg.value m) (0 : Int) (12 : Int))) ∧
   ((tq (!b && decide (Msg.kind m ≤ (3 : Int)) && !!decide (inR (Msg.slot m) (1 : Int) (30 : Int)))) ∧
   ((tq (!b && decide (Msg.kind m ≤ (3 : Int)))) ∧
   ((((!b && decide (Msg.kind m ≤ (3 : Int))) = true) →
   (((!b && decide (Msg.kind m ≤ (3 : Int))) = true) →
   (((!decide (inR (Msg.slot m) (1 : Int) (30 : Int))) = false) →
   ((!b && decide (Msg.kind m ≤ (3 : Int)) && !!decide (inR (Msg.slot m) (1 : Int) (30 : Int))) = true)))) ∧
   (∀ b_1 : Bool,
   ((b_1 =
   bif !decide (inR (Msg.slot m) (1 : Int) (30 : Int)) then true else !decide (inR (Msg.value m) (0 : Int) (12 : Int))) →
   ((tq (!b)) ∧
   ((((!b) = true) →
   (((!b) = true) →
   ((decide (Msg.kind m ≤ (3 : Int)) = true) →
   ((!b && decide (Msg.kind m ≤ (3 : Int))) = true)))) ∧
   (∀ b_2 : Bool,
   ((b_2 = bif decide (Msg.kind m ≤ (3 : Int)) then b_1 else false) →
   (((true = true) →
   ((b = false) →
   ((!b) = true))) ∧
   (∀ b_3 : Bool,
   ((b_3 = bif b then true else b_2) →
   (((b_3 = true) →
   (VLe (V.int IntKind.i64 (3 : Int)) (V.int IntKind.i64 (msgFault f m)))) ∧
   ((b_3 = false) →
   ((tq (!decide ((↑(List.length (Msg.certs m)) : Int) > (30 : Int)))) ∧
   ((tq (!decide ((↑(List.length (Msg.certs m)) : Int) > (30 : Int)))) ∧
   ((tq (!decide ((↑(List.length (Msg.certs m)) : Int) > (30 : Int)))) ∧
   ((tq (!decide ((↑(List.length (Msg.certs m)) : Int) > (30 : Int)))) ∧
   ((tq (!decide ((↑(List.length (Msg.certs m)) : Int) > (30 : Int)))) ∧
   ((((!decide ((↑(List.length (Msg.certs m)) : Int) > (30 : Int))) = true) →
   (inK IntKind.i64 ((3 : Int) * f))) ∧
   ((tq (!decide ((↑(List.length (Msg.certs m)) : Int) > (30 : Int)))) ∧
   ((((!decide ((↑(List.length (Msg.certs m)) : Int) > (30 : Int))) = true) →
   (inK IntKind.i64 ((3 : Int) * f + (1 : Int)))) ∧
   ((tq (!decide ((↑(List.length (Msg.certs m)) : Int) > (30 : Int)))) ∧
   ((tq (!decide ((↑(List.length (Msg.certs m)) : Int) > (30 : Int)))) ∧
   (((true = true) →
   ((decide ((↑(List.length (Msg.certs m)) : Int) > (30 : Int)) = false) →
   ((!decide ((↑(List.length (Msg.certs m)) : Int) > (30 : Int))) = true))) ∧
   (∀ b_4 : Bool,
   ((b_4 =
   bif decide ((↑(List.length (Msg.certs m)) : Int) > (30 : Int)) then true
   else decide ((↑(List.length (Msg.refs m)) : Int) > (3 : Int) * f + (1 : Int))) →
   (((b_4 = true) →
   (VLe (V.int IntKind.i64 (2 : Int)) (V.int IntKind.i64 (msgFault f m)))) ∧
   ((b_4 = false) →
   (((VLe (encPMsg 1 m) (encPMsg 1 (decPMsg (encPMsg 1 m)))) ∧
   (pr73 (decPMsg (encPMsg 1 m)))) ∧
   (VLe (V.int IntKind.i64 (listsFault (decPMsg (encPMsg 1 m)))) (V.int IntKind.i64 (msgFault f m)))))))))))))))))))))))))))))))))))))))))))))))))))))))))))) := by
    obtain ⟨hf, hc, hr⟩ := hpre
    have hf' : 1 ≤ f ∧ f ≤ 2 := by unfold okF at hf; omega
    simp only [dec_encPMsg]
    refine ⟨⟨VLe.refl _, trivial⟩, fun h => ?_, fun h => ?_⟩
    · refine vle_int ?_
      have hn : ¬ bare m := by simpa using h
      unfold msgFault
      rw [if_pos hn]
    · have hb : bare m := by simpa using h
      clear h
      have hk : 1 ≤ m.kind := hb.1.1
      repeat (first | (refine And.intro (fun h _ => h) ?_) | (refine And.intro (fun _ h => h) ?_) | (refine And.intro ?aa ?_; case aa => (simp [hf, pr71, pr41, pr72, pr73]; done)) | (refine And.intro ?aa ?_; case aa => (simp_all [hf, pr71, pr41, pr72, pr73]; done)) | (refine And.intro ?aa ?_; case aa => (intros; exact inK64 (by omega))) | (refine And.intro ?aa ?_; case aa => (intros; simp only [decide_eq_true_eq] at *; omega)) | (intro q hq))
      have e0 : q = decide (¬ ranged f m) := by
        subst_vars
        rw [Bool.eq_iff_iff]
        simp
        try simp only [ranged, inR]
        try omega
      clear hq
      refine ⟨fun h => ?_, fun h => ?_⟩
      · have hn : ¬ ranged f m := by simpa [e0] using h
        refine vle_int ?_
        unfold msgFault
        rw [if_neg (not_not_intro hb), if_pos hn]
      · have hra : ranged f m := by simpa [e0] using h
        clear e0 h
        repeat (first | (refine And.intro (fun h _ => h) ?_) | (refine And.intro (fun _ h => h) ?_) | (refine And.intro ?aa ?_; case aa => (simp [hf, pr71, pr41, pr72, pr73]; done)) | (refine And.intro ?aa ?_; case aa => (simp_all [hf, pr71, pr41, pr72, pr73]; done)) | (refine And.intro ?aa ?_; case aa => (intros; exact inK64 (by omega))) | (refine And.intro ?aa ?_; case aa => (intros; simp only [decide_eq_true_eq] at *; omega)) | (intro q hq))
        have e0 : q = decide (¬ few f m) := by
          subst_vars
          rw [Bool.eq_iff_iff]
          simp
          try simp only [few]
          try omega
        clear hq
        refine ⟨fun h => ?_, fun h => ?_⟩
        · have hn : ¬ few f m := by simpa [e0] using h
          refine vle_int ?_
          unfold msgFault
          rw [if_neg (not_not_intro hb), if_neg (not_not_intro hra), if_pos hn]
        · have hfw : few f m := by simpa [e0] using h
          clear e0 h
          refine ⟨⟨VLe.refl _, ⟨hc, hr⟩, hra.1⟩, vle_int ?_⟩
          unfold msgFault
          rw [if_neg (not_not_intro hb), if_neg (not_not_intro hra), if_neg (not_not_intro hfw)]
  exact Eq.mp (by kernel_rfl) key
theorem so34 : Sound Try.prog 34 sp34 := by
  refine sound_of_body hmix (pol := 0) Try.func34 rfl (by kernel_rfl) fun args bin ob r bout hDe hob => ?_
  unfold sp34 at hDe
  split at hDe
  · rename_i a0 a1
    cases hDe
    exact ⟨rfl, rfl, Nat.le_of_ble_eq_true (by kernel_rfl), cx34 a0 (decPMsg a1), Eq.mp (by kernel_rfl) htt, Eq.mp (by kernel_rfl) da34, Eq.mp (by kernel_rfl) (noM_sound (P := Try.prog)), by kernel_rfl, [.int .i64 (a0), encPMsg 1 ((decPMsg a1))], args_of_vles (⟨VLe.refl _, hob.1, trivial⟩), Eq.mp (by kernel_rfl) (bd34 a0 (decPMsg a1) (hob.2))⟩
  · cases hDe

/-! ### impl.msgFault -/
def pr31 (f : Int) (m : Msg) : Prop := okF f ∧ m.bd
noncomputable def rs31 (f : Int) (m : Msg) : V := .int .i64 (msgFault f m)
noncomputable def sp31 : FSpec := fun args bin => match args, bin with
  | [.int .i64 a0, a1], [] => some (VLe a1 (encMsg 1 ((decMsg a1))) ∧ pr31 a0 (decMsg a1), rs31 a0 (decMsg a1), [])
  | _, _ => none
noncomputable def in31_9 (f : Int) (m : Msg) : LoopInv :=
  ⟨Nat, fun i => ⟨[(0, .int .i64 f), (3, .oref 256 0 0), (95, encL (encCert 1) 1 m.certs), (96, .int .i64 m.certs.length), (97, .int .i64 i)], [(256, .box (encMsg 1 m).cells)]⟩, fun i => i ≤ m.certs.length ∧ ∀ j, 1 ≤ j → j < i → (m.certs.getD (j - 1) default).slot < (m.certs.getD j default).slot, fun i => m.certs.length - i⟩
noncomputable def in31_15 (f : Int) (m : Msg) : LoopInv :=
  ⟨Nat, fun i => ⟨[(3, .oref 256 0 0), (118, encL encI 1 m.refs), (119, .int .i64 m.refs.length), (120, .int .i64 i)], [(256, .box (encMsg 1 m).cells)]⟩, fun i => i ≤ m.refs.length ∧ ∀ j, 1 ≤ j → j < i → m.refs.getD (j - 1) default < m.refs.getD j default, fun i => m.refs.length - i⟩
noncomputable def iv31 (f : Int) (m : Msg) : Nat → Option LoopInv := fun rg_ => match rg_ with
  | 9 => some (in31_9 f m)
  | 15 => some (in31_15 f m)
  | _ => none
noncomputable def D31 : Nat → Option (Bool × FSpec) := lk [(62, (false, sp62)), (52, (false, sp52)), (38, (false, sp38)), (63, (false, sp63)), (45, (false, sp45)), (64, (false, sp64)), (49, (false, sp49)), (65, (false, sp65_66)), (50, (false, sp50_67))]
theorem da31 : SoundAll Try.prog D31 := soundAll_cons so62 (soundAll_cons so52 (soundAll_cons so38 (soundAll_cons so63 (soundAll_cons so45 (soundAll_cons so64 (soundAll_cons so49 (soundAll_cons so65_66 (soundAll_cons so50_67 (soundAll_nil)))))))))
noncomputable def cx31 (f : Int) (m : Msg) : Cx := ⟨tt, D31, Try.f31.ntmps, [0, 1, 3, 4, 5, 6, 7, 8, 9, 13, 54, 81, 95, 96, 97, 98, 115, 118, 119, 120, 121, 136, 141, 144], [(9, ⟨[(0, none), (3, none), (95, none), (96, none), (97, none)], [(256, [])]⟩), (15, ⟨[(3, none), (118, none), (119, none), (120, none)], [(256, [])]⟩)], [], iv31 f m, [], noM, []⟩
theorem bd31 (f : Int) (m : Msg) (hpre : pr31 f m) : bodyP (cx31 f m) Try.f31 0 [.int .i64 (f), encMsg 1 (m)] (fun rr => VLe rr (rs31 f m)) := by
  have key :
      ((pr62 (Msg.kind m)) ∧
   ((pr52 (Msg.kind m) (1 : Int) (5 : Int)) ∧
   ((tq (!!decide (inR (Msg.kind m) (1 : Int) (5 : Int)))) ∧
   ((tq (!!decide (inR (Msg.kind m) (1 : Int) (5 : Int)))) ∧
   ((tq (!!decide (inR (Msg.kind m) (1 : Int) (5 : Int)) && !decide (inR (Msg.kind m) (1 : Int) (3 : Int)))) ∧
   ((tq (!!decide (inR (Msg.kind m) (1 : Int) (5 : Int)) && !decide (inR (Msg.kind m) (1 : Int) (3 : Int)))) ∧
   ((tq (!!decide (inR (Msg.kind m) (1 : Int) (5 : Int)) && !decide (inR (Msg.kind m) (1 : Int) (3 : Int)))) ∧
   ((tq (!!decide (inR (Msg.kind m) (1 : Int) (5 : Int)) && !decide (inR (Msg.kind m) (1 : Int) (3 : Int)) &&
   !Msg.slot m != (0 : Int))) ∧
   ((tq (!!decide (inR (Msg.kind m) (1 : Int) (5 : Int)) && !decide (inR (Msg.kind m) (1 : Int) (3 : Int)) &&
   !Msg.slot m != (0 : Int))) ∧
   ((tq (!!decide (inR (Msg.kind m) (1 : Int) (5 : Int)) && !decide (inR (Msg.kind m) (1 : Int) (3 : Int)))) ∧
   ((((!!decide (inR (Msg.kind m) (1 : Int) (5 : Int)) && !decide (inR (Msg.kind m) (1 : Int) (3 : Int))) = true) →
   (((!!decide (inR (Msg.kind m) (1 : Int) (5 : Int)) && !decide (inR (Msg.kind m) (1 : Int) (3 : Int))) = true) →
   (((Msg.slot m != (0 : Int)) = false) →
   ((!!decide (inR (Msg.kind m) (1 : Int) (5 : Int)) && !decide (inR (Msg.kind m) (1 : Int) (3 : Int)) &&
   !Msg.slot m != (0 : Int)) =
   true)))) ∧
   (∀ b : Bool,
   ((b = bif Msg.slot m != (0 : Int) then true else Msg.value m != (0 : Int)) →
   ((tq (!!decide (inR (Msg.kind m) (1 : Int) (5 : Int)))) ∧
   ((((!!decide (inR (Msg.kind m) (1 : Int) (5 : Int))) = true) →
   (((!!decide (inR (Msg.kind m) (1 : Int) (5 : Int))) = true) →
   (((!decide (inR (Msg.kind m) (1 : Int) (3 : Int))) = true) →
   ((!!decide (inR (Msg.kind m) (1 : Int) (5 : Int)) && !decide (inR (Msg.kind m) (1 : Int) (3 : Int))) = true)))) ∧
   (∀ b_1 : Bool,
   ((b_1 = bif !decide (inR (Msg.kind m) (1 : Int) (3 : Int)) then b else false) →
   (((true = true) →
   (((!decide (inR (Msg.kind m) (1 : Int) (5 : Int))) = false) →
   ((!!decide (inR (Msg.kind m) (1 : Int) (5 : Int))) = true))) ∧
   (∀ b_2 : Bool,
   ((b_2 = bif !decide (inR (Msg.kind m) (1 : Int) (5 : Int)) then true else b_1) →
   ((tq (!b_2)) ∧
   ((tq (!b_2)) ∧
   ((tq (!b_2)) ∧
   ((tq (!b_2 && Msg.kind m != (4 : Int))) ∧
   ((tq (!b_2 && Msg.kind m != (4 : Int))) ∧
   ((tq (!b_2 && Msg.kind m != (4 : Int))) ∧
   ((tq (!b_2)) ∧
   ((((!b_2) = true) →
   (((!b_2) = true) →
   (((Msg.kind m != (4 : Int)) = true) →
   ((!b_2 && Msg.kind m != (4 : Int)) = true)))) ∧
   (∀ b_3 : Bool,
   ((b_3 = bif Msg.kind m != (4 : Int) then decide ((↑(List.length (Msg.certs m)) : Int) > (0 : Int)) else false) →
   (((true = true) →
   ((b_2 = false) →
   ((!b_2) = true))) ∧
   (∀ b_4 : Bool,
   ((b_4 = bif b_2 then true else b_3) →
   ((tq (!b_4)) ∧
   ((tq (!b_4)) ∧
   ((tq (!b_4)) ∧
   ((tq (!b_4 && Msg.kind m != (5 : Int))) ∧
   ((tq (!b_4 && Msg.kind m != (5 : Int))) ∧
   ((tq (!b_4 && Msg.kind m != (5 : Int))) ∧
   ((tq (!b_4)) ∧
   ((((!b_4) = true) →
   (((!b_4) = true) →
   (((Msg.kind m != (5 : Int)) = true) →
   ((!b_4 && Msg.kind m != (5 : Int)) = true)))) ∧
   (∀ b_5 : Bool,
   ((b_5 = bif Msg.kind m != (5 : Int) then decide ((↑(List.length (Msg.refs m)) : Int) > (0 : Int)) else false) →
   (((true = true) →
   ((b_4 = false) →
   ((!b_4) = true))) ∧
   (∀ b_6 : Bool,
   ((b_6 = bif b_4 then true else b_5) →
   (((b_6 = true) →
   (VLe (V.int IntKind.i64 (1 : Int)) (V.int IntKind.i64 (msgFault f m)))) ∧
   ((b_6 = false) →
   ((pr38 (Msg.view m)) ∧
   ((tq (!!decide (inR (Msg.view m) (0 : Int) (20 : Int)))) ∧
   ((tq (!!decide (inR (Msg.view m) (0 : Int) (20 : Int)))) ∧
   ((tq (!!decide (inR (Msg.view m) (0 : Int) (20 : Int)))) ∧
   ((((!!decide (inR (Msg.view m) (0 : Int) (20 : Int))) = true) →
   (pr63 f (Msg.sender m))) ∧
   ((tq (!!decide (inR (Msg.view m) (0 : Int) (20 : Int)))) ∧
   (((true = true) →
   (((!decide (inR (Msg.view m) (0 : Int) (20 : Int))) = false) →
   ((!!decide (inR (Msg.view m) (0 : Int) (20 : Int))) = true))) ∧
   (∀ b_7 : Bool,
   ((b_7 =
   bif !decide (inR (Msg.view m) (0 : Int) (20 : Int)) then true
   else !decide (inR (Msg.sender m) (1 : Int) ((3 : Int) * f + (1 : Int)))) →
   ((tq (!b_7)) ∧
   ((tq (!b_7 && decide (inR (Msg.kind m) (1 : Int) (3 : Int)))) ∧
   ((tq (!b_7 && decide (inR (Msg.kind m) (1 : Int) (3 : Int)))) ∧
   ((((!b_7 && decide (inR (Msg.kind m) (1 : Int) (3 : Int))) = true) →
   (pr45 (Msg.slot m))) ∧
   ((tq (!b_7 && decide (inR (Msg.kind m) (1 : Int) (3 : Int)))) ∧
   ((tq (!b_7 && decide (inR (Msg.kind m) (1 : Int) (3 : Int)))) ∧
   ((tq (!b_7 && decide (inR (Msg.kind m) (1 : Int) (3 : Int)) && !!decide (inR (Msg.slot m) (1 : Int) (30 : Int)))) ∧
   ((tq (!b_7 && decide (inR (Msg.kind m) (1 : Int) (3 : Int)) && !!decide (inR (Msg.slot m) (1 : Int) (30 : Int)))) ∧
   ((((!b_7 && decide (inR (Msg.kind m) (1 : Int) (3 : Int)) && !!decide (inR (Msg.slot m) (1 : Int) (30 : Int))) = true) →
   (pr64 (Msg.value m))) ∧
   ((tq (!b_7 && decide (inR (Msg.kind m) (1 : Int) (3 : Int)) && !!decide (inR (Msg.slot m) (1 : Int) (30 : Int)))) ∧
   ((tq (!b_7 && decide (inR (Msg.kind m) (1 : Int) (3 : Int)))) ∧
   ((((!b_7 && decide (inR (Msg.kind m) (1 : Int) (3 : Int))) = true) →
   (((!b_7 && decide (inR (Msg.kind m) (1 : Int) (3 : Int))) = true) →
   (((!decide (inR (Msg.slot m) (1 : Int) (30 : Int))) = false) →
   ((!b_7 && decide (inR (Msg.kind m) (1 : Int) (3 : Int)) && !!decide (inR (Msg.slot m) (1 : Int) (30 : Int))) = true)))) ∧
   (∀ b_8 : Bool,
   ((b_8 =
   bif !decide (inR (Msg.slot m) (1 : Int) (30 : Int)) then true else !decide (inR (Msg.value m) (0 : Int) (12 : Int))) →
   ((tq (!b_7)) ∧
   ((((!b_7) = true) →
   (((!b_7) = true) →
   ((decide (inR (Msg.kind m) (1 : Int) (3 : Int)) = true) →
   ((!b_7 && decide (inR (Msg.kind m) (1 : Int) (3 : Int))) = true)))) ∧
   (∀ b_9 : Bool,
   ((b_9 = bif decide (inR (Msg.kind m) (1 : Int) (3 : Int)) then b_8 else false) →
   (((true = true) →
   ((b_7 = false) →
   ((!b_7) = true))) ∧
   (∀ b_10 : Bool,
   ((b_10 = bif b_7 then true else b_9) →
   (((b_10 = true) →
   (VLe (V.int IntKind.i64 (3 : Int)) (V.int IntKind.i64 (msgFault f m)))) ∧
   ((b_10 = false) →
   ((tq (!decide ((↑(List.length (Msg.certs m)) : Int) > (30 : Int)))) ∧
   ((tq (!decide ((↑(List.length (Msg.certs m)) : Int) > (30 : Int)))) ∧
   ((tq (!decide ((↑(List.length (Msg.certs m)) : Int) > (30 : Int)))) ∧
   ((((!decide ((↑(List.length (Msg.certs m)) : Int) > (30 : Int))) = true) →
   (pr49 f)) ∧
   ((tq (!decide ((↑(List.length (Msg.certs m)) : Int) > (30 : Int)))) ∧
   ((tq (!decide ((↑(List.length (Msg.certs m)) : Int) > (30 : Int)))) ∧
   (((true = true) →
   ((decide ((↑(List.length (Msg.certs m)) : Int) > (30 : Int)) = false) →
   ((!decide ((↑(List.length (Msg.certs m)) : Int) > (30 : Int))) = true))) ∧
   (∀ b_11 : Bool,
   ((b_11 =
   bif decide ((↑(List.length (Msg.certs m)) : Int) > (30 : Int)) then true
   else decide ((↑(List.length (Msg.refs m)) : Int) > (3 : Int) * f + (1 : Int))) →
   (((b_11 = true) →
   (VLe (V.int IntKind.i64 (2 : Int)) (V.int IntKind.i64 (msgFault f m)))) ∧
   ((b_11 = false) →
   ((∃ x : Nat, ((SLe
   (AS.mk
   [(0, V.int IntKind.i64 f), (3, V.oref 256 0 0),
   (95, encL (encCert 1) 1 (Msg.certs m)),
   (96, V.int IntKind.i64 (↑(List.length (Msg.certs m)) : Int)), (97, V.int IntKind.i64 (0 : Int))]
   [(256,
   Blk.box
   [V.int IntKind.i64 (Msg.kind m), V.int IntKind.i64 (Msg.view m), V.int IntKind.i64 (Msg.sender m),
   V.int IntKind.i64 (Msg.slot m), V.int IntKind.i64 (Msg.value m),
   encL (encCert 1) 1 (Msg.certs m), encL encI 1 (Msg.refs m)])])
   (AS.mk
   [(0, V.int IntKind.i64 f), (3, V.oref 256 0 0),
   (95, encL (encCert 1) 1 (Msg.certs m)),
   (96, V.int IntKind.i64 (↑(List.length (Msg.certs m)) : Int)), (97, V.int IntKind.i64 (↑x : Int))]
   [(256,
   Blk.box
   [V.int IntKind.i64 (Msg.kind m), V.int IntKind.i64 (Msg.view m), V.int IntKind.i64 (Msg.sender m),
   V.int IntKind.i64 (Msg.slot m), V.int IntKind.i64 (Msg.value m),
   encL (encCert 1) 1 (Msg.certs m), encL encI 1 (Msg.refs m)])])) ∧
   ((x ≤ List.length (Msg.certs m)) ∧
   (∀ j : Nat,
   ((1 ≤ j) →
   ((j < x) →
   (Cert.slot (List.getD (Msg.certs m) (j - 1) default) < Cert.slot (List.getD (Msg.certs m) j default)))))))) ∧
   (∀ x : Nat,
   (((x ≤ List.length (Msg.certs m)) ∧
   (∀ j : Nat,
   ((1 ≤ j) →
   ((j < x) →
   (Cert.slot (List.getD (Msg.certs m) (j - 1) default) < Cert.slot (List.getD (Msg.certs m) j default)))))) →
   (((decide ((↑x : Int) < (↑(List.length (Msg.certs m)) : Int)) = true) →
   ((((0 : Int) ≤ (↑x : Int)) ∧
   ((↑x : Int) < (↑(List.length (Msg.certs m)) : Int))) ∧
   ((tq (decide ((↑x : Int) > (0 : Int)))) ∧
   ((tq (decide ((↑x : Int) > (0 : Int)))) ∧
   ((tq (decide ((↑x : Int) > (0 : Int)))) ∧
   (((decide ((↑x : Int) > (0 : Int)) = true) →
   (inK IntKind.i64 ((↑x : Int) - (1 : Int)))) ∧
   ((tq (decide ((↑x : Int) > (0 : Int)))) ∧
   ((tq (decide ((↑x : Int) > (0 : Int)))) ∧
   (((decide ((↑x : Int) > (0 : Int)) = true) →
   (((0 : Int) ≤ (↑x : Int) - (1 : Int)) ∧
   ((↑x : Int) - (1 : Int) < (↑(List.length (Msg.certs m)) : Int)))) ∧
   ((tq (decide ((↑x : Int) > (0 : Int)))) ∧
   ((tq (decide ((↑x : Int) > (0 : Int)))) ∧
   ((tq (decide ((↑x : Int) > (0 : Int)))) ∧
   ((tq (decide ((↑x : Int) > (0 : Int)))) ∧
   (((true = true) →
   ((decide ((↑x : Int) > (0 : Int)) = true) →
   (decide ((↑x : Int) > (0 : Int)) = true))) ∧
   (∀ b_12 : Bool,
   ((b_12 =
   bif decide ((↑x : Int) > (0 : Int)) then
   decide
   (Cert.slot (List.getD (Msg.certs m) (Int.toNat (↑x : Int)) default) ≤
   Cert.slot (List.getD (Msg.certs m) (Int.toNat ((↑x : Int) - (1 : Int))) default))
   else false) →
   (((b_12 = true) →
   (VLe (V.int IntKind.i64 (1 : Int)) (V.int IntKind.i64 (msgFault f m)))) ∧
   ((b_12 = false) →
   ((inK IntKind.i64 ((↑x : Int) + (1 : Int))) ∧
   (∃ y : Nat, ((SLe
   (AS.mk
   [(0, V.int IntKind.i64 f), (3, V.oref 256 0 0),
   (95, encL (encCert 1) 1 (Msg.certs m)),
   (96, V.int IntKind.i64 (↑(List.length (Msg.certs m)) : Int)),
   (97, V.int IntKind.i64 ((↑x : Int) + (1 : Int)))]
   [(256,
   Blk.box
   [V.int IntKind.i64 (Msg.kind m), V.int IntKind.i64 (Msg.view m), V.int IntKind.i64 (Msg.sender m),
   V.int IntKind.i64 (Msg.slot m), V.int IntKind.i64 (Msg.value m),
   encL (encCert 1) 1 (Msg.certs m), encL encI 1 (Msg.refs m)])])
   (AS.mk
   [(0, V.int IntKind.i64 f), (3, V.oref 256 0 0),
   (95, encL (encCert 1) 1 (Msg.certs m)),
   (96, V.int IntKind.i64 (↑(List.length (Msg.certs m)) : Int)), (97, V.int IntKind.i64 (↑y : Int))]
   [(256,
   Blk.box
   [V.int IntKind.i64 (Msg.kind m), V.int IntKind.i64 (Msg.view m), V.int IntKind.i64 (Msg.sender m),
   V.int IntKind.i64 (Msg.slot m), V.int IntKind.i64 (Msg.value m),
   encL (encCert 1) 1 (Msg.certs m), encL encI 1 (Msg.refs m)])])) ∧
   (((y ≤ List.length (Msg.certs m)) ∧
   (∀ j : Nat,
   ((1 ≤ j) →
   ((j < y) →
   (Cert.slot (List.getD (Msg.certs m) (j - 1) default) < Cert.slot (List.getD (Msg.certs m) j default)))))) ∧
   (List.length (Msg.certs m) - y < List.length (Msg.certs m) - x))))))))))))))))))))))) ∧
   ((decide ((↑x : Int) < (↑(List.length (Msg.certs m)) : Int)) = false) →
   ((∃ x_1 : Nat, ((SLe
   (AS.mk
   [(3, V.oref 256 0 0), (118, encL encI 1 (Msg.refs m)),
   (119, V.int IntKind.i64 (↑(List.length (Msg.refs m)) : Int)), (120, V.int IntKind.i64 (0 : Int))]
   [(256,
   Blk.box
   [V.int IntKind.i64 (Msg.kind m), V.int IntKind.i64 (Msg.view m), V.int IntKind.i64 (Msg.sender m),
   V.int IntKind.i64 (Msg.slot m), V.int IntKind.i64 (Msg.value m),
   encL (encCert 1) 1 (Msg.certs m), encL encI 1 (Msg.refs m)])])
   (AS.mk
   [(3, V.oref 256 0 0), (118, encL encI 1 (Msg.refs m)),
   (119, V.int IntKind.i64 (↑(List.length (Msg.refs m)) : Int)),
   (120, V.int IntKind.i64 (↑x_1 : Int))]
   [(256,
   Blk.box
   [V.int IntKind.i64 (Msg.kind m), V.int IntKind.i64 (Msg.view m), V.int IntKind.i64 (Msg.sender m),
   V.int IntKind.i64 (Msg.slot m), V.int IntKind.i64 (Msg.value m),
   encL (encCert 1) 1 (Msg.certs m), encL encI 1 (Msg.refs m)])])) ∧
   ((x_1 ≤ List.length (Msg.refs m)) ∧
   (∀ j : Nat,
   ((1 ≤ j) →
   ((j < x_1) →
   (List.getD (Msg.refs m) (j - 1) default < List.getD (Msg.refs m) j default))))))) ∧
   (∀ x_1 : Nat,
   (((x_1 ≤ List.length (Msg.refs m)) ∧
   (∀ j : Nat,
   ((1 ≤ j) →
   ((j < x_1) →
   (List.getD (Msg.refs m) (j - 1) default < List.getD (Msg.refs m) j default))))) →
   (((decide ((↑x_1 : Int) < (↑(List.length (Msg.refs m)) : Int)) = true) →
   ((((0 : Int) ≤ (↑x_1 : Int)) ∧
   ((↑x_1 : Int) < (↑(List.length (Msg.refs m)) : Int))) ∧
   ((tq (decide ((↑x_1 : Int) > (0 : Int)))) ∧
   ((tq (decide ((↑x_1 : Int) > (0 : Int)))) ∧
   (((decide ((↑x_1 : Int) > (0 : Int)) = true) →
   (inK IntKind.i64 ((↑x_1 : Int) - (1 : Int)))) ∧
   ((tq (decide ((↑x_1 : Int) > (0 : Int)))) ∧
   ((tq (decide ((↑x_1 : Int) > (0 : Int)))) ∧
   (((decide ((↑x_1 : Int) > (0 : Int)) = true) →
   (((0 : Int) ≤ (↑x_1 : Int) - (1 : Int)) ∧
   ((↑x_1 : Int) - (1 : Int) < (↑(List.length (Msg.refs m)) : Int)))) ∧
   ((tq (decide ((↑x_1 : Int) > (0 : Int)))) ∧
   ((tq (decide ((↑x_1 : Int) > (0 : Int)))) ∧
   ((tq (decide ((↑x_1 : Int) > (0 : Int)))) ∧
   (((true = true) →
   ((decide ((↑x_1 : Int) > (0 : Int)) = true) →
   (decide ((↑x_1 : Int) > (0 : Int)) = true))) ∧
   (∀ b_12 : Bool,
   ((b_12 =
   bif decide ((↑x_1 : Int) > (0 : Int)) then
   decide
   (List.getD (Msg.refs m) (Int.toNat (↑x_1 : Int)) default ≤
   List.getD (Msg.refs m) (Int.toNat ((↑x_1 : Int) - (1 : Int))) default)
   else false) →
   (((b_12 = true) →
   (VLe (V.int IntKind.i64 (1 : Int)) (V.int IntKind.i64 (msgFault f m)))) ∧
   ((b_12 = false) →
   ((inK IntKind.i64 ((↑x_1 : Int) + (1 : Int))) ∧
   (∃ y : Nat, ((SLe
   (AS.mk
   [(3, V.oref 256 0 0), (118, encL encI 1 (Msg.refs m)),
   (119, V.int IntKind.i64 (↑(List.length (Msg.refs m)) : Int)),
   (120, V.int IntKind.i64 ((↑x_1 : Int) + (1 : Int)))]
   [(256,
   Blk.box
   [V.int IntKind.i64 (Msg.kind m), V.int IntKind.i64 (Msg.view m), V.int IntKind.i64 (Msg.sender m),
   V.int IntKind.i64 (Msg.slot m), V.int IntKind.i64 (Msg.value m),
   encL (encCert 1) 1 (Msg.certs m), encL encI 1 (Msg.refs m)])])
   (AS.mk
   [(3, V.oref 256 0 0), (118, encL encI 1 (Msg.refs m)),
   (119, V.int IntKind.i64 (↑(List.length (Msg.refs m)) : Int)), (120, V.int IntKind.i64 (↑y : Int))]
   [(256,
   Blk.box
   [V.int IntKind.i64 (Msg.kind m), V.int IntKind.i64 (Msg.view m), V.int IntKind.i64 (Msg.sender m),
   V.int IntKind.i64 (Msg.slot m), V.int IntKind.i64 (Msg.value m),
   encL (encCert 1) 1 (Msg.certs m), encL encI 1 (Msg.refs m)])])) ∧
   (((y ≤ List.length (Msg.refs m)) ∧
   (∀ j : Nat,
   ((1 ≤ j) →
   ((j < y) →
   (List.getD (Msg.refs m) (j - 1) default < List.getD (Msg.refs m) j default))))) ∧
   (List.length (Msg.refs m) - y < List.length (Msg.refs m) - x_1))))))))))))))))))))) ∧
   ((decide ((↑x_1 : Int) < (↑(List.length (Msg.refs m)) : Int)) = false) →
   (((VLe (encL (encCert 1) 1 (Msg.certs m))
   (encL (encCert 1) 1 (decL decCert (encL (encCert 1) 1 (Msg.certs m))))) ∧
   ((VLe (encPMsg 1 m) (encPMsg 1 (decPMsg (encPMsg 1 m)))) ∧
   (pr65_66 (decL decCert (encL (encCert 1) 1 (Msg.certs m))) (decPMsg (encPMsg 1 m))))) ∧
   ((((List.any (decL decCert (encL (encCert 1) 1 (Msg.certs m))) fun (c : Cert) ↦
   decide ¬goodC (decPMsg (encPMsg 1 m)) c) =
   true) →
   (VLe (V.int IntKind.i64 (3 : Int)) (V.int IntKind.i64 (msgFault f m)))) ∧
   (((List.any (decL decCert (encL (encCert 1) 1 (Msg.certs m))) fun (c : Cert) ↦
   decide ¬goodC (decPMsg (encPMsg 1 m)) c) =
   false) →
   (((VLe (encL encI 1 (Msg.refs m)) (encL encI 1 (decL decI (encL encI 1 (Msg.refs m))))) ∧
   (pr50_67 (decL decI (encL encI 1 (Msg.refs m))))) ∧
   ((((List.any (decL decI (encL encI 1 (Msg.refs m))) fun (r : Int) ↦ decide ¬goodR r) = true) →
   (VLe (V.int IntKind.i64 (3 : Int)) (V.int IntKind.i64 (msgFault f m)))) ∧
   (((List.any (decL decI (encL encI 1 (Msg.refs m))) fun (r : Int) ↦ decide ¬goodR r) = false) →
   (VLe (V.int IntKind.i64 (0 : Int)) (V.int IntKind.i64 (msgFault f m)))))))))))))))))))))))))))))))))))))))))))))))))))))))))))))))))))))))))))))))))))))))))))))))))))))))))))))) := by
    obtain ⟨hf, hc, hr⟩ := hpre
    have hf' : 1 ≤ f ∧ f ≤ 2 := by unfold okF at hf; omega
    unfold maxLen at hc hr
    repeat (first | (refine And.intro (fun h _ => h) ?_) | (refine And.intro (fun _ h => h) ?_) | (refine And.intro ?aa ?_; case aa => (simp [hf, pr62, pr52, pr38, pr63, pr45, pr64, pr49, pr65_66, pr50_67]; done)) | (refine And.intro ?aa ?_; case aa => (simp_all [hf, pr62, pr52, pr38, pr63, pr45, pr64, pr49, pr65_66, pr50_67]; done)) | (refine And.intro ?aa ?_; case aa => (intros; exact inK64 (by omega))) | (refine And.intro ?aa ?_; case aa => (intros; simp only [decide_eq_true_eq] at *; omega)) | (intro q hq))
    have e0 : q = decide (¬ bare m) := by
      subst_vars
      rw [Bool.eq_iff_iff]
      simp
      try simp only [bare, inR, ← List.length_eq_zero_iff]
      try omega
    clear hq
    refine ⟨fun h => ?_, fun h => ?_⟩
    · have hn : ¬ bare m := by simpa [e0] using h
      refine vle_int ?_
      unfold msgFault
      rw [if_pos hn]
    · have hb : bare m := by simpa [e0] using h
      clear e0 h
      repeat (first | (refine And.intro (fun h _ => h) ?_) | (refine And.intro (fun _ h => h) ?_) | (refine And.intro ?aa ?_; case aa => (simp [hf, pr62, pr52, pr38, pr63, pr45, pr64, pr49, pr65_66, pr50_67]; done)) | (refine And.intro ?aa ?_; case aa => (simp_all [hf, pr62, pr52, pr38, pr63, pr45, pr64, pr49, pr65_66, pr50_67]; done)) | (refine And.intro ?aa ?_; case aa => (intros; exact inK64 (by omega))) | (refine And.intro ?aa ?_; case aa => (intros; simp only [decide_eq_true_eq] at *; omega)) | (intro q hq))
      have e0 : q = decide (¬ ranged f m) := by
        subst_vars
        rw [Bool.eq_iff_iff]
        simp
        try simp only [ranged, inR]
        try omega
      clear hq
      refine ⟨fun h => ?_, fun h => ?_⟩
      · have hn : ¬ ranged f m := by simpa [e0] using h
        refine vle_int ?_
        unfold msgFault
        rw [if_neg (not_not_intro hb), if_pos hn]
      · have hra : ranged f m := by simpa [e0] using h
        clear e0 h
        repeat (first | (refine And.intro (fun h _ => h) ?_) | (refine And.intro (fun _ h => h) ?_) | (refine And.intro ?aa ?_; case aa => (simp [hf, pr62, pr52, pr38, pr63, pr45, pr64, pr49, pr65_66, pr50_67]; done)) | (refine And.intro ?aa ?_; case aa => (simp_all [hf, pr62, pr52, pr38, pr63, pr45, pr64, pr49, pr65_66, pr50_67]; done)) | (refine And.intro ?aa ?_; case aa => (intros; exact inK64 (by omega))) | (refine And.intro ?aa ?_; case aa => (intros; simp only [decide_eq_true_eq] at *; omega)) | (intro q hq))
        have e0 : q = decide (¬ few f m) := by
          subst_vars
          rw [Bool.eq_iff_iff]
          simp
          try simp only [few]
          try omega
        clear hq
        refine ⟨fun h => ?_, fun h => ?_⟩
        · have hn : ¬ few f m := by simpa [e0] using h
          refine vle_int ?_
          unfold msgFault
          rw [if_neg (not_not_intro hb), if_neg (not_not_intro hra), if_pos hn]
        · have hfw : few f m := by simpa [e0] using h
          clear e0 h
          refine ⟨⟨0, SLe.refl _, by omega, fun j h1 h2 => by omega⟩, ?_⟩
          rintro i ⟨hi, hj⟩
          refine ⟨fun h => ?_, fun h => ?_⟩
          · have hlt : i < m.certs.length := by simpa using h
            clear h
            try simp only [Int.toNat_natCast]
            refine ⟨⟨by omega, by omega⟩, ?_⟩
            repeat (first | (refine And.intro (fun h _ => h) ?_) | (refine And.intro (fun _ h => h) ?_) | (refine And.intro ?aa ?_; case aa => (simp [pr62, pr52, pr38, pr63, pr45, pr64, pr49, pr65_66, pr50_67]; done)) | (refine And.intro ?aa ?_; case aa => (simp_all [pr62, pr52, pr38, pr63, pr45, pr64, pr49, pr65_66, pr50_67]; done)) | (refine And.intro ?aa ?_; case aa => (intros; exact inK64 (by omega))) | (refine And.intro ?aa ?_; case aa => (intros; simp only [decide_eq_true_eq] at *; omega)) | (intro q hq))
            subst_vars
            refine ⟨fun h2 => ?_, fun h2 => ⟨inK64 (by omega), i + 1, SLe.refl _, ⟨by omega, fun j h3 h4 => ?_⟩, by omega⟩⟩
            · simp at h2
              have e1 : ((i : Int) - 1).toNat = i - 1 := by omega
              refine vle_int ?_
              have : ¬ (riseC m.certs ∧ riseR m.refs) := fun hh => by
                have h6 := hh.1 i (by omega) hlt
                have h7 := h2.2
                try simp only [e1] at h7
                simp at h6 h7
                omega
              unfold msgFault listsFault
              rw [if_neg (not_not_intro hb), if_neg (not_not_intro hra), if_neg (not_not_intro hfw), if_pos this]
            · rcases Nat.lt_or_ge j i with h5 | h5
              · exact hj j h3 h5
              · have : j = i := by omega
                subst this
                have e1 : ((j : Int) - 1).toNat = j - 1 := by omega
                have hj0 : (0 : Int) < j := by omega
                simp only [e1, hj0, gt_iff_lt, decide_true, cond_true, decide_eq_false_iff_not] at h2
                omega
          · have hge : m.certs.length ≤ i := by simpa using h
            have hrc : riseC m.certs := fun j h3 h4 => hj j h3 (by omega)
            clear hj hi h hge i
            refine ⟨⟨0, SLe.refl _, by omega, fun j h1 h2 => by omega⟩, ?_⟩
            rintro i ⟨hi, hj⟩
            refine ⟨fun h => ?_, fun h => ?_⟩
            · have hlt : i < m.refs.length := by simpa using h
              clear h
              try simp only [Int.toNat_natCast]
              refine ⟨⟨by omega, by omega⟩, ?_⟩
              repeat (first | (refine And.intro (fun h _ => h) ?_) | (refine And.intro (fun _ h => h) ?_) | (refine And.intro ?aa ?_; case aa => (simp [pr62, pr52, pr38, pr63, pr45, pr64, pr49, pr65_66, pr50_67]; done)) | (refine And.intro ?aa ?_; case aa => (simp_all [pr62, pr52, pr38, pr63, pr45, pr64, pr49, pr65_66, pr50_67]; done)) | (refine And.intro ?aa ?_; case aa => (intros; exact inK64 (by omega))) | (refine And.intro ?aa ?_; case aa => (intros; simp only [decide_eq_true_eq] at *; omega)) | (intro q hq))
              subst_vars
              refine ⟨fun h2 => ?_, fun h2 => ⟨inK64 (by omega), i + 1, SLe.refl _, ⟨by omega, fun j h3 h4 => ?_⟩, by omega⟩⟩
              · simp at h2
                have e1 : ((i : Int) - 1).toNat = i - 1 := by omega
                refine vle_int ?_
                have : ¬ (riseC m.certs ∧ riseR m.refs) := fun hh => by
                  have h6 := hh.2 i (by omega) hlt
                  have h7 := h2.2
                  try simp only [e1] at h7
                  simp at h6 h7
                  omega
                unfold msgFault listsFault
                rw [if_neg (not_not_intro hb), if_neg (not_not_intro hra), if_neg (not_not_intro hfw), if_pos this]
              · rcases Nat.lt_or_ge j i with h5 | h5
                · exact hj j h3 h5
                · have : j = i := by omega
                  subst this
                  have e1 : ((j : Int) - 1).toNat = j - 1 := by omega
                  have hj0 : (0 : Int) < j := by omega
                  simp only [e1, hj0, gt_iff_lt, decide_true, cond_true, decide_eq_false_iff_not] at h2
                  omega
            · have hge : m.refs.length ≤ i := by simpa using h
              have hrr : riseR m.refs := fun j h3 h4 => hj j h3 (by omega)
              clear hj hi h hge i
              simp only [decL_Cert, decL_ints, dec_encPMsg]
              refine ⟨⟨VLe.refl _, VLe.refl _, by unfold maxLen; omega, hra.1⟩, fun h2 => ?_, fun h2 => ⟨⟨VLe.refl _, by unfold maxLen; omega, trivial⟩, fun h3 => ?_, fun h3 => ?_⟩⟩
              · refine vle_int ?_
                unfold msgFault listsFault
                rw [if_neg (not_not_intro hb), if_neg (not_not_intro hra), if_neg (not_not_intro hfw), if_neg (not_not_intro ⟨hrc, hrr⟩), if_pos ?_]
                intro hh
                obtain ⟨c, hc, hg⟩ := List.any_eq_true.1 h2
                exact (of_decide_eq_true hg) (hh.1 c hc)
              · refine vle_int ?_
                unfold msgFault listsFault
                rw [if_neg (not_not_intro hb), if_neg (not_not_intro hra), if_neg (not_not_intro hfw), if_neg (not_not_intro ⟨hrc, hrr⟩), if_pos ?_]
                intro hh
                obtain ⟨c, hc, hg⟩ := List.any_eq_true.1 h3
                exact (of_decide_eq_true hg) (hh.2 c hc)
              · have hA : ∀ c ∈ m.certs, goodC m c := fun c hc => by
                  have := List.any_eq_false.1 h2 c hc
                  simpa using this
                have hB : ∀ r ∈ m.refs, goodR r := fun c hc => by
                  have := List.any_eq_false.1 h3 c hc
                  simpa using this
                refine vle_int ?_
                unfold msgFault listsFault
                rw [if_neg (not_not_intro hb), if_neg (not_not_intro hra), if_neg (not_not_intro hfw), if_neg (not_not_intro ⟨hrc, hrr⟩), if_neg (not_not_intro ⟨hA, hB⟩)]
  exact Eq.mp (by kernel_rfl) key
theorem so31 : Sound Try.prog 31 sp31 := by
  refine sound_of_body hmix (pol := 0) Try.func31 rfl (by kernel_rfl) fun args bin ob r bout hDe hob => ?_
  unfold sp31 at hDe
  split at hDe
  · rename_i a0 a1
    cases hDe
    exact ⟨rfl, rfl, Nat.le_of_ble_eq_true (by kernel_rfl), cx31 a0 (decMsg a1), Eq.mp (by kernel_rfl) htt, Eq.mp (by kernel_rfl) da31, Eq.mp (by kernel_rfl) (noM_sound (P := Try.prog)), by kernel_rfl, [.int .i64 (a0), encMsg 1 ((decMsg a1))], args_of_vles (⟨VLe.refl _, hob.1, trivial⟩), Eq.mp (by kernel_rfl) (bd31 a0 (decMsg a1) (hob.2))⟩
  · cases hDe

end Go.Av
