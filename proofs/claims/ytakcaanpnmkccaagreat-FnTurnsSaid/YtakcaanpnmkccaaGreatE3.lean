/- What is wrong with a message: program and reference. -/
import Derived.Test.YtakcaanpnmkccaaGreatE1
import Derived.Test.YtakcaanpnmkccaaGreatP8
namespace Go.Av
open Go.Proofs
set_option maxRecDepth 100000
set_option linter.unusedVariables false
set_option linter.unusedSimpArgs false


/-! ### impl.within -/
def pr41 (n : Int) (lo : Int) (hi : Int) : Prop := True
noncomputable def rs41 (n : Int) (lo : Int) (hi : Int) : V := .bool (decide (inR n lo hi))
noncomputable def sp41 : FSpec := fun args bin => match args, bin with
  | [.int .i64 a0, .int .i64 a1, .int .i64 a2], [] => some (pr41 a0 a1 a2, rs41 a0 a1 a2, [])
  | _, _ => none
noncomputable def D41 : Nat → Option (Bool × FSpec) := lk []
theorem da41 : SoundAll Tryz.prog D41 := soundAll_nil
noncomputable def cx41 (n : Int) (lo : Int) (hi : Int) : Cx := ⟨tt, D41, Tryz.f41.ntmps, [0, 1, 2, 6], [], [], fun _ => none, [], noM, []⟩
theorem bd41 (n : Int) (lo : Int) (hi : Int) (hpre : pr41 n lo hi) : bodyP (cx41 n lo hi) Tryz.f41 0 [.int .i64 (n), .int .i64 (lo), .int .i64 (hi)] (fun rr => VLe rr (rs41 n lo hi)) := by
  have key : ((tq (decide (lo ≤ n))) ∧ ((tq (decide (lo ≤ n))) ∧ (((true = true) → ((decide (lo ≤ n) = true) → (decide (lo ≤ n) = true))) ∧ (∀ b : Bool, ((b = bif decide (lo ≤ n) then decide (n ≤ hi) else false) → (VLe (V.bool b) (V.bool (decide (inR n lo hi))))))))) := by
    repeat (first | (refine And.intro (fun h _ => h) ?_) | (refine And.intro (fun _ h => h) ?_) | (refine And.intro ?aa ?_; case aa => (simp []; done)) | (refine And.intro ?aa ?_; case aa => (simp_all []; done)) | (refine And.intro ?aa ?_; case aa => (intros; exact inK64 (by omega))) | (refine And.intro ?aa ?_; case aa => (intros; simp only [decide_eq_true_eq] at *; omega)) | (intro q hq))
    subst_vars
    refine vle_bool ?_
    rw [Bool.eq_iff_iff]
    simp
    try simp only [inR]
    try omega
  exact Eq.mp (by kernel_rfl) key
theorem so41 : Sound Tryz.prog 41 sp41 := by
  refine sound_of_body hmix (pol := 0) Tryz.func41 rfl (by kernel_rfl) fun args bin ob r bout hDe hob => ?_
  unfold sp41 at hDe
  split at hDe
  · rename_i a0 a1 a2
    cases hDe
    exact ⟨rfl, rfl, Nat.le_of_ble_eq_true (by kernel_rfl), cx41 a0 a1 a2, Eq.mp (by kernel_rfl) htt, Eq.mp (by kernel_rfl) da41, Eq.mp (by kernel_rfl) (noM_sound (P := Tryz.prog)), by kernel_rfl, [.int .i64 (a0), .int .i64 (a1), .int .i64 (a2)], args_of_vles (⟨VLe.refl _, VLe.refl _, VLe.refl _, trivial⟩), Eq.mp (by kernel_rfl) (bd41 a0 a1 a2 (hob))⟩
  · cases hDe

/-! ### spec.l1In -/
def pr33 (n : Int) (lo : Int) (hi : Int) : Prop := True
noncomputable def rs33 (n : Int) (lo : Int) (hi : Int) : V := .bool (decide (inR n lo hi))
noncomputable def sp33 : FSpec := fun args bin => match args, bin with
  | [.int .i64 a0, .int .i64 a1, .int .i64 a2], [] => some (pr33 a0 a1 a2, rs33 a0 a1 a2, [])
  | _, _ => none
noncomputable def D33 : Nat → Option (Bool × FSpec) := lk []
theorem da33 : SoundAll Tryz.prog D33 := soundAll_nil
noncomputable def cx33 (n : Int) (lo : Int) (hi : Int) : Cx := ⟨tt, D33, Tryz.f33.ntmps, [0, 1, 2, 6], [], [], fun _ => none, [], noM, []⟩
theorem bd33 (n : Int) (lo : Int) (hi : Int) (hpre : pr33 n lo hi) : bodyP (cx33 n lo hi) Tryz.f33 0 [.int .i64 (n), .int .i64 (lo), .int .i64 (hi)] (fun rr => VLe rr (rs33 n lo hi)) := by
  have key : ((tq (decide (n ≥ lo))) ∧ ((tq (decide (n ≥ lo))) ∧ (((true = true) → ((decide (n ≥ lo) = true) → (decide (n ≥ lo) = true))) ∧ (∀ b : Bool, ((b = bif decide (n ≥ lo) then decide (n ≤ hi) else false) → (VLe (V.bool b) (V.bool (decide (inR n lo hi))))))))) := by
    repeat (first | (refine And.intro (fun h _ => h) ?_) | (refine And.intro (fun _ h => h) ?_) | (refine And.intro ?aa ?_; case aa => (simp []; done)) | (refine And.intro ?aa ?_; case aa => (simp_all []; done)) | (refine And.intro ?aa ?_; case aa => (intros; exact inK64 (by omega))) | (refine And.intro ?aa ?_; case aa => (intros; simp only [decide_eq_true_eq] at *; omega)) | (intro q hq))
    subst_vars
    refine vle_bool ?_
    rw [Bool.eq_iff_iff]
    simp
    try simp only [inR]
    try omega
  exact Eq.mp (by kernel_rfl) key
theorem so33 : Sound Tryz.prog 33 sp33 := by
  refine sound_of_body hmix (pol := 0) Tryz.func33 rfl (by kernel_rfl) fun args bin ob r bout hDe hob => ?_
  unfold sp33 at hDe
  split at hDe
  · rename_i a0 a1 a2
    cases hDe
    exact ⟨rfl, rfl, Nat.le_of_ble_eq_true (by kernel_rfl), cx33 a0 a1 a2, Eq.mp (by kernel_rfl) htt, Eq.mp (by kernel_rfl) da33, Eq.mp (by kernel_rfl) (noM_sound (P := Tryz.prog)), by kernel_rfl, [.int .i64 (a0), .int .i64 (a1), .int .i64 (a2)], args_of_vles (⟨VLe.refl _, VLe.refl _, VLe.refl _, trivial⟩), Eq.mp (by kernel_rfl) (bd33 a0 a1 a2 (hob))⟩
  · cases hDe

/-! ### impl.isF -/
def pr36 (f : Int) : Prop := True
noncomputable def rs36 (f : Int) : V := .bool (decide (okF f))
noncomputable def sp36 : FSpec := fun args bin => match args, bin with
  | [.int .i64 a0], [] => some (pr36 a0, rs36 a0, [])
  | _, _ => none
noncomputable def D36 : Nat → Option (Bool × FSpec) := lk [(41, (false, sp41))]
theorem da36 : SoundAll Tryz.prog D36 := soundAll_cons so41 (soundAll_nil)
noncomputable def cx36 (f : Int) : Cx := ⟨tt, D36, Tryz.f36.ntmps, [0, 2], [], [], fun _ => none, [], noM, []⟩
theorem bd36 (f : Int) (hpre : pr36 f) : bodyP (cx36 f) Tryz.f36 0 [.int .i64 (f)] (fun rr => VLe rr (rs36 f)) := by
  have key : ((pr41 f (1 : Int) (2 : Int)) ∧ (VLe (V.bool (decide (inR f (1 : Int) (2 : Int)))) (V.bool (decide (okF f))))) := by
    repeat (first | (refine And.intro (fun h _ => h) ?_) | (refine And.intro (fun _ h => h) ?_) | (refine And.intro ?aa ?_; case aa => (simp [pr41]; done)) | (refine And.intro ?aa ?_; case aa => (simp_all [pr41]; done)) | (refine And.intro ?aa ?_; case aa => (intros; exact inK64 (by omega))) | (refine And.intro ?aa ?_; case aa => (intros; simp only [decide_eq_true_eq] at *; omega)) | (intro q hq))
    subst_vars
    refine vle_bool ?_
    rw [Bool.eq_iff_iff]
    simp
    try simp only [inR, okF]
    try omega
  exact Eq.mp (by kernel_rfl) key
theorem so36 : Sound Tryz.prog 36 sp36 := by
  refine sound_of_body hmix (pol := 0) Tryz.func36 rfl (by kernel_rfl) fun args bin ob r bout hDe hob => ?_
  unfold sp36 at hDe
  split at hDe
  · rename_i a0
    cases hDe
    exact ⟨rfl, rfl, Nat.le_of_ble_eq_true (by kernel_rfl), cx36 a0, Eq.mp (by kernel_rfl) htt, Eq.mp (by kernel_rfl) da36, Eq.mp (by kernel_rfl) (noM_sound (P := Tryz.prog)), by kernel_rfl, [.int .i64 (a0)], args_of_vles (⟨VLe.refl _, trivial⟩), Eq.mp (by kernel_rfl) (bd36 a0 (hob))⟩
  · cases hDe

/-! ### spec.l8F -/
def pr64 (f : Int) : Prop := True
noncomputable def rs64 (f : Int) : V := .bool (decide (okF f))
noncomputable def sp64 : FSpec := fun args bin => match args, bin with
  | [.int .i64 a0], [] => some (pr64 a0, rs64 a0, [])
  | _, _ => none
noncomputable def D64 : Nat → Option (Bool × FSpec) := lk [(33, (false, sp33))]
theorem da64 : SoundAll Tryz.prog D64 := soundAll_cons so33 (soundAll_nil)
noncomputable def cx64 (f : Int) : Cx := ⟨tt, D64, Tryz.f64.ntmps, [0, 2], [], [], fun _ => none, [], noM, []⟩
theorem bd64 (f : Int) (hpre : pr64 f) : bodyP (cx64 f) Tryz.f64 0 [.int .i64 (f)] (fun rr => VLe rr (rs64 f)) := by
  have key : ((pr33 f (1 : Int) (2 : Int)) ∧ (VLe (V.bool (decide (inR f (1 : Int) (2 : Int)))) (V.bool (decide (okF f))))) := by
    repeat (first | (refine And.intro (fun h _ => h) ?_) | (refine And.intro (fun _ h => h) ?_) | (refine And.intro ?aa ?_; case aa => (simp [pr33]; done)) | (refine And.intro ?aa ?_; case aa => (simp_all [pr33]; done)) | (refine And.intro ?aa ?_; case aa => (intros; exact inK64 (by omega))) | (refine And.intro ?aa ?_; case aa => (intros; simp only [decide_eq_true_eq] at *; omega)) | (intro q hq))
    subst_vars
    refine vle_bool ?_
    rw [Bool.eq_iff_iff]
    simp
    try simp only [inR, okF]
    try omega
  exact Eq.mp (by kernel_rfl) key
theorem so64 : Sound Tryz.prog 64 sp64 := by
  refine sound_of_body hmix (pol := 0) Tryz.func64 rfl (by kernel_rfl) fun args bin ob r bout hDe hob => ?_
  unfold sp64 at hDe
  split at hDe
  · rename_i a0
    cases hDe
    exact ⟨rfl, rfl, Nat.le_of_ble_eq_true (by kernel_rfl), cx64 a0, Eq.mp (by kernel_rfl) htt, Eq.mp (by kernel_rfl) da64, Eq.mp (by kernel_rfl) (noM_sound (P := Tryz.prog)), by kernel_rfl, [.int .i64 (a0)], args_of_vles (⟨VLe.refl _, trivial⟩), Eq.mp (by kernel_rfl) (bd64 a0 (hob))⟩
  · cases hDe

/-! ### impl.many -/
def pr38 (f : Int) : Prop := okF f
noncomputable def rs38 (f : Int) : V := .int .i64 (3 * f + 1)
noncomputable def sp38 : FSpec := fun args bin => match args, bin with
  | [.int .i64 a0], [] => some (pr38 a0, rs38 a0, [])
  | _, _ => none
noncomputable def D38 : Nat → Option (Bool × FSpec) := lk []
theorem da38 : SoundAll Tryz.prog D38 := soundAll_nil
noncomputable def cx38 (f : Int) : Cx := ⟨tt, D38, Tryz.f38.ntmps, [0, 2], [], [], fun _ => none, [], noM, []⟩
theorem bd38 (f : Int) (hpre : pr38 f) : bodyP (cx38 f) Tryz.f38 0 [.int .i64 (f)] (fun rr => VLe rr (rs38 f)) := by
  have key : ((inK IntKind.i64 ((3 : Int) * f)) ∧ ((inK IntKind.i64 ((3 : Int) * f + (1 : Int))) ∧ (VLe (vi ((3 : Int) * f + (1 : Int))) (vi ((3 : Int) * f + (1 : Int)))))) := by
    delta vi
    unfold pr38 okF at hpre
    exact ⟨inK64 (by omega), inK64 (by omega), VLe.refl _⟩
  exact Eq.mp (by kernel_rfl) key
theorem so38 : Sound Tryz.prog 38 sp38 := by
  refine sound_of_body hmix (pol := 0) Tryz.func38 rfl (by kernel_rfl) fun args bin ob r bout hDe hob => ?_
  unfold sp38 at hDe
  split at hDe
  · rename_i a0
    cases hDe
    exact ⟨rfl, rfl, Nat.le_of_ble_eq_true (by kernel_rfl), cx38 a0, Eq.mp (by kernel_rfl) htt, Eq.mp (by kernel_rfl) da38, Eq.mp (by kernel_rfl) (noM_sound (P := Tryz.prog)), by kernel_rfl, [.int .i64 (a0)], args_of_vles (⟨VLe.refl _, trivial⟩), Eq.mp (by kernel_rfl) (bd38 a0 (hob))⟩
  · cases hDe

/-! ### impl.isReplica -/
def pr50 (f : Int) (id : Int) : Prop := okF f
noncomputable def rs50 (f : Int) (id : Int) : V := .bool (decide (inR id 1 (3 * f + 1)))
noncomputable def sp50 : FSpec := fun args bin => match args, bin with
  | [.int .i64 a0, .int .i64 a1], [] => some (pr50 a0 a1, rs50 a0 a1, [])
  | _, _ => none
noncomputable def D50 : Nat → Option (Bool × FSpec) := lk [(38, (false, sp38)), (41, (false, sp41))]
theorem da50 : SoundAll Tryz.prog D50 := soundAll_cons so38 (soundAll_cons so41 (soundAll_nil))
noncomputable def cx50 (f : Int) (id : Int) : Cx := ⟨tt, D50, Tryz.f50.ntmps, [0, 1, 4], [], [], fun _ => none, [], noM, []⟩
theorem bd50 (f : Int) (id : Int) (hpre : pr50 f id) : bodyP (cx50 f id) Tryz.f50 0 [.int .i64 (f), .int .i64 (id)] (fun rr => VLe rr (rs50 f id)) := by
  have key : ((pr38 f) ∧ ((pr41 id (1 : Int) ((3 : Int) * f + (1 : Int))) ∧ (VLe (V.bool (decide (inR id (1 : Int) ((3 : Int) * f + (1 : Int))))) (V.bool (decide (inR id (1 : Int) ((3 : Int) * f + (1 : Int)))))))) := by
    exact ⟨hpre, trivial, VLe.refl _⟩
  exact Eq.mp (by kernel_rfl) key
theorem so50 : Sound Tryz.prog 50 sp50 := by
  refine sound_of_body hmix (pol := 0) Tryz.func50 rfl (by kernel_rfl) fun args bin ob r bout hDe hob => ?_
  unfold sp50 at hDe
  split at hDe
  · rename_i a0 a1
    cases hDe
    exact ⟨rfl, rfl, Nat.le_of_ble_eq_true (by kernel_rfl), cx50 a0 a1, Eq.mp (by kernel_rfl) htt, Eq.mp (by kernel_rfl) da50, Eq.mp (by kernel_rfl) (noM_sound (P := Tryz.prog)), by kernel_rfl, [.int .i64 (a0), .int .i64 (a1)], args_of_vles (⟨VLe.refl _, VLe.refl _, trivial⟩), Eq.mp (by kernel_rfl) (bd50 a0 a1 (hob))⟩
  · cases hDe

/-! ### spec.l8Id -/
def pr96 (f : Int) (id : Int) : Prop := okF f
noncomputable def rs96 (f : Int) (id : Int) : V := .bool (decide (inR id 1 (3 * f + 1)))
noncomputable def sp96 : FSpec := fun args bin => match args, bin with
  | [.int .i64 a0, .int .i64 a1], [] => some (pr96 a0 a1, rs96 a0 a1, [])
  | _, _ => none
noncomputable def D96 : Nat → Option (Bool × FSpec) := lk [(33, (false, sp33))]
theorem da96 : SoundAll Tryz.prog D96 := soundAll_cons so33 (soundAll_nil)
noncomputable def cx96 (f : Int) (id : Int) : Cx := ⟨tt, D96, Tryz.f96.ntmps, [0, 1, 4], [], [], fun _ => none, [], noM, []⟩
theorem bd96 (f : Int) (id : Int) (hpre : pr96 f id) : bodyP (cx96 f id) Tryz.f96 0 [.int .i64 (f), .int .i64 (id)] (fun rr => VLe rr (rs96 f id)) := by
  have key : ((inK IntKind.i64 ((3 : Int) * f)) ∧ ((inK IntKind.i64 ((3 : Int) * f + (1 : Int))) ∧ ((pr33 id (1 : Int) ((3 : Int) * f + (1 : Int))) ∧ (VLe (V.bool (decide (inR id (1 : Int) ((3 : Int) * f + (1 : Int))))) (V.bool (decide (inR id (1 : Int) ((3 : Int) * f + (1 : Int))))))))) := by
    unfold pr96 okF at hpre
    exact ⟨inK64 (by omega), inK64 (by omega), trivial, VLe.refl _⟩
  exact Eq.mp (by kernel_rfl) key
theorem so96 : Sound Tryz.prog 96 sp96 := by
  refine sound_of_body hmix (pol := 0) Tryz.func96 rfl (by kernel_rfl) fun args bin ob r bout hDe hob => ?_
  unfold sp96 at hDe
  split at hDe
  · rename_i a0 a1
    cases hDe
    exact ⟨rfl, rfl, Nat.le_of_ble_eq_true (by kernel_rfl), cx96 a0 a1, Eq.mp (by kernel_rfl) htt, Eq.mp (by kernel_rfl) da96, Eq.mp (by kernel_rfl) (noM_sound (P := Tryz.prog)), by kernel_rfl, [.int .i64 (a0), .int .i64 (a1)], args_of_vles (⟨VLe.refl _, VLe.refl _, trivial⟩), Eq.mp (by kernel_rfl) (bd96 a0 a1 (hob))⟩
  · cases hDe

/-! ### impl.isView -/
def pr31 (n : Int) : Prop := True
noncomputable def rs31 (n : Int) : V := .bool (decide (inR n 0 20))
noncomputable def sp31 : FSpec := fun args bin => match args, bin with
  | [.int .i64 a0], [] => some (pr31 a0, rs31 a0, [])
  | _, _ => none
noncomputable def D31 : Nat → Option (Bool × FSpec) := lk [(41, (false, sp41))]
theorem da31 : SoundAll Tryz.prog D31 := soundAll_cons so41 (soundAll_nil)
noncomputable def cx31 (n : Int) : Cx := ⟨tt, D31, Tryz.f31.ntmps, [0, 2], [], [], fun _ => none, [], noM, []⟩
theorem bd31 (n : Int) (hpre : pr31 n) : bodyP (cx31 n) Tryz.f31 0 [.int .i64 (n)] (fun rr => VLe rr (rs31 n)) := by
  have key : ((pr41 n (0 : Int) (20 : Int)) ∧ (VLe (V.bool (decide (inR n (0 : Int) (20 : Int)))) (V.bool (decide (inR n (0 : Int) (20 : Int)))))) := by
    exact ⟨trivial, VLe.refl _⟩
  exact Eq.mp (by kernel_rfl) key
theorem so31 : Sound Tryz.prog 31 sp31 := by
  refine sound_of_body hmix (pol := 0) Tryz.func31 rfl (by kernel_rfl) fun args bin ob r bout hDe hob => ?_
  unfold sp31 at hDe
  split at hDe
  · rename_i a0
    cases hDe
    exact ⟨rfl, rfl, Nat.le_of_ble_eq_true (by kernel_rfl), cx31 a0, Eq.mp (by kernel_rfl) htt, Eq.mp (by kernel_rfl) da31, Eq.mp (by kernel_rfl) (noM_sound (P := Tryz.prog)), by kernel_rfl, [.int .i64 (a0)], args_of_vles (⟨VLe.refl _, trivial⟩), Eq.mp (by kernel_rfl) (bd31 a0 (hob))⟩
  · cases hDe

/-! ### impl.isSlot -/
def pr78 (n : Int) : Prop := True
noncomputable def rs78 (n : Int) : V := .bool (decide (inR n 1 30))
noncomputable def sp78 : FSpec := fun args bin => match args, bin with
  | [.int .i64 a0], [] => some (pr78 a0, rs78 a0, [])
  | _, _ => none
noncomputable def D78 : Nat → Option (Bool × FSpec) := lk [(41, (false, sp41))]
theorem da78 : SoundAll Tryz.prog D78 := soundAll_cons so41 (soundAll_nil)
noncomputable def cx78 (n : Int) : Cx := ⟨tt, D78, Tryz.f78.ntmps, [0, 2], [], [], fun _ => none, [], noM, []⟩
theorem bd78 (n : Int) (hpre : pr78 n) : bodyP (cx78 n) Tryz.f78 0 [.int .i64 (n)] (fun rr => VLe rr (rs78 n)) := by
  have key : ((pr41 n (1 : Int) (30 : Int)) ∧ (VLe (V.bool (decide (inR n (1 : Int) (30 : Int)))) (V.bool (decide (inR n (1 : Int) (30 : Int)))))) := by
    exact ⟨trivial, VLe.refl _⟩
  exact Eq.mp (by kernel_rfl) key
theorem so78 : Sound Tryz.prog 78 sp78 := by
  refine sound_of_body hmix (pol := 0) Tryz.func78 rfl (by kernel_rfl) fun args bin ob r bout hDe hob => ?_
  unfold sp78 at hDe
  split at hDe
  · rename_i a0
    cases hDe
    exact ⟨rfl, rfl, Nat.le_of_ble_eq_true (by kernel_rfl), cx78 a0, Eq.mp (by kernel_rfl) htt, Eq.mp (by kernel_rfl) da78, Eq.mp (by kernel_rfl) (noM_sound (P := Tryz.prog)), by kernel_rfl, [.int .i64 (a0)], args_of_vles (⟨VLe.refl _, trivial⟩), Eq.mp (by kernel_rfl) (bd78 a0 (hob))⟩
  · cases hDe

/-! ### impl.isValue -/
def pr79 (n : Int) : Prop := True
noncomputable def rs79 (n : Int) : V := .bool (decide (inR n 0 12))
noncomputable def sp79 : FSpec := fun args bin => match args, bin with
  | [.int .i64 a0], [] => some (pr79 a0, rs79 a0, [])
  | _, _ => none
noncomputable def D79 : Nat → Option (Bool × FSpec) := lk [(41, (false, sp41))]
theorem da79 : SoundAll Tryz.prog D79 := soundAll_cons so41 (soundAll_nil)
noncomputable def cx79 (n : Int) : Cx := ⟨tt, D79, Tryz.f79.ntmps, [0, 2], [], [], fun _ => none, [], noM, []⟩
theorem bd79 (n : Int) (hpre : pr79 n) : bodyP (cx79 n) Tryz.f79 0 [.int .i64 (n)] (fun rr => VLe rr (rs79 n)) := by
  have key : ((pr41 n (0 : Int) (12 : Int)) ∧ (VLe (V.bool (decide (inR n (0 : Int) (12 : Int)))) (V.bool (decide (inR n (0 : Int) (12 : Int)))))) := by
    exact ⟨trivial, VLe.refl _⟩
  exact Eq.mp (by kernel_rfl) key
theorem so79 : Sound Tryz.prog 79 sp79 := by
  refine sound_of_body hmix (pol := 0) Tryz.func79 rfl (by kernel_rfl) fun args bin ob r bout hDe hob => ?_
  unfold sp79 at hDe
  split at hDe
  · rename_i a0
    cases hDe
    exact ⟨rfl, rfl, Nat.le_of_ble_eq_true (by kernel_rfl), cx79 a0, Eq.mp (by kernel_rfl) htt, Eq.mp (by kernel_rfl) da79, Eq.mp (by kernel_rfl) (noM_sound (P := Tryz.prog)), by kernel_rfl, [.int .i64 (a0)], args_of_vles (⟨VLe.refl _, trivial⟩), Eq.mp (by kernel_rfl) (bd79 a0 (hob))⟩
  · cases hDe

/-! ### impl.isSlotted -/
def pr77 (n : Int) : Prop := True
noncomputable def rs77 (n : Int) : V := .bool (decide (inR n 1 3))
noncomputable def sp77 : FSpec := fun args bin => match args, bin with
  | [.int .i64 a0], [] => some (pr77 a0, rs77 a0, [])
  | _, _ => none
noncomputable def D77 : Nat → Option (Bool × FSpec) := lk [(41, (false, sp41))]
theorem da77 : SoundAll Tryz.prog D77 := soundAll_cons so41 (soundAll_nil)
noncomputable def cx77 (n : Int) : Cx := ⟨tt, D77, Tryz.f77.ntmps, [0, 2], [], [], fun _ => none, [], noM, []⟩
theorem bd77 (n : Int) (hpre : pr77 n) : bodyP (cx77 n) Tryz.f77 0 [.int .i64 (n)] (fun rr => VLe rr (rs77 n)) := by
  have key : ((pr41 n (1 : Int) (3 : Int)) ∧ (VLe (V.bool (decide (inR n (1 : Int) (3 : Int)))) (V.bool (decide (inR n (1 : Int) (3 : Int)))))) := by
    exact ⟨trivial, VLe.refl _⟩
  exact Eq.mp (by kernel_rfl) key
theorem so77 : Sound Tryz.prog 77 sp77 := by
  refine sound_of_body hmix (pol := 0) Tryz.func77 rfl (by kernel_rfl) fun args bin ob r bout hDe hob => ?_
  unfold sp77 at hDe
  split at hDe
  · rename_i a0
    cases hDe
    exact ⟨rfl, rfl, Nat.le_of_ble_eq_true (by kernel_rfl), cx77 a0, Eq.mp (by kernel_rfl) htt, Eq.mp (by kernel_rfl) da77, Eq.mp (by kernel_rfl) (noM_sound (P := Tryz.prog)), by kernel_rfl, [.int .i64 (a0)], args_of_vles (⟨VLe.refl _, trivial⟩), Eq.mp (by kernel_rfl) (bd77 a0 (hob))⟩
  · cases hDe

/-! ### spec.l8Bare -/
def pr102 (m : Msg) : Prop := True
noncomputable def rs102 (m : Msg) : V := .bool (decide (bare m))
noncomputable def sp102 : FSpec := fun args bin => match args, bin with
  | [a0], [] => some (VLe a0 (encPMsg 1 ((decPMsg a0))) ∧ pr102 (decPMsg a0), rs102 (decPMsg a0), [])
  | _, _ => none
noncomputable def D102 : Nat → Option (Bool × FSpec) := lk [(33, (false, sp33))]
theorem da102 : SoundAll Tryz.prog D102 := soundAll_cons so33 (soundAll_nil)
noncomputable def cx102 (m : Msg) : Cx := ⟨tt, D102, Tryz.f102.ntmps, [0, 2, 3], [], [], fun _ => none, [], noM, []⟩
theorem bd102 (m : Msg) (hpre : pr102 m) : bodyP (cx102 m) Tryz.f102 0 [encPMsg 1 (m)] (fun rr => VLe rr (rs102 m)) := by
  have key : ((pr33 (Msg.kind m) (1 : Int) (3 : Int)) ∧ ((pr33 (Msg.kind m) (1 : Int) (5 : Int)) ∧ ((tq (decide (inR (Msg.kind m) (1 : Int) (5 : Int)))) ∧ ((tq (decide (inR (Msg.kind m) (1 : Int) (5 : Int)) && !decide (inR (Msg.kind m) (1 : Int) (3 : Int)))) ∧ ((tq (decide (inR (Msg.kind m) (1 : Int) (5 : Int)) && !decide (inR (Msg.kind m) (1 : Int) (3 : Int)))) ∧ ((tq (decide (inR (Msg.kind m) (1 : Int) (5 : Int)) && !decide (inR (Msg.kind m) (1 : Int) (3 : Int)))) ∧ ((tq (decide (inR (Msg.kind m) (1 : Int) (5 : Int)) && !decide (inR (Msg.kind m) (1 : Int) (3 : Int)))) ∧ ((tq (decide (inR (Msg.kind m) (1 : Int) (5 : Int)) && !decide (inR (Msg.kind m) (1 : Int) (3 : Int)))) ∧ ((tq (decide (inR (Msg.kind m) (1 : Int) (5 : Int)) && !decide (inR (Msg.kind m) (1 : Int) (3 : Int)) && Msg.slot m == (0 : Int))) ∧ ((tq (decide (inR (Msg.kind m) (1 : Int) (5 : Int)) && !decide (inR (Msg.kind m) (1 : Int) (3 : Int)) && Msg.slot m == (0 : Int))) ∧ ((tq (decide (inR (Msg.kind m) (1 : Int) (5 : Int)) && !decide (inR (Msg.kind m) (1 : Int) (3 : Int)) && Msg.slot m == (0 : Int))) ∧ ((tq (decide (inR (Msg.kind m) (1 : Int) (5 : Int)) && !decide (inR (Msg.kind m) (1 : Int) (3 : Int)) && Msg.slot m == (0 : Int))) ∧ ((tq (decide (inR (Msg.kind m) (1 : Int) (5 : Int)) && !decide (inR (Msg.kind m) (1 : Int) (3 : Int)))) ∧ ((((decide (inR (Msg.kind m) (1 : Int) (5 : Int)) && !decide (inR (Msg.kind m) (1 : Int) (3 : Int))) = true) → (((decide (inR (Msg.kind m) (1 : Int) (5 : Int)) && !decide (inR (Msg.kind m) (1 : Int) (3 : Int))) = true) → (((Msg.slot m == (0 : Int)) = true) → ((decide (inR (Msg.kind m) (1 : Int) (5 : Int)) && !decide (inR (Msg.kind m) (1 : Int) (3 : Int)) && Msg.slot m == (0 : Int)) = true)))) ∧ (∀ b : Bool, ((b = bif Msg.slot m == (0 : Int) then Msg.value m == (0 : Int) else false) → ((tq (decide (inR (Msg.kind m) (1 : Int) (5 : Int)))) ∧ (((decide (inR (Msg.kind m) (1 : Int) (5 : Int)) = true) → ((decide (inR (Msg.kind m) (1 : Int) (5 : Int)) = true) → ((decide (inR (Msg.kind m) (1 : Int) (3 : Int)) = false) → ((decide (inR (Msg.kind m) (1 : Int) (5 : Int)) && !decide (inR (Msg.kind m) (1 : Int) (3 : Int))) = true)))) ∧ (∀ b_1 : Bool, ((b_1 = bif decide (inR (Msg.kind m) (1 : Int) (3 : Int)) then true else b) → (((true = true) → ((decide (inR (Msg.kind m) (1 : Int) (5 : Int)) = true) → (decide (inR (Msg.kind m) (1 : Int) (5 : Int)) = true))) ∧ (∀ b_2 : Bool, ((b_2 = bif decide (inR (Msg.kind m) (1 : Int) (5 : Int)) then b_1 else false) → ((tq (b_2)) ∧ ((tq (b_2)) ∧ ((tq (b_2)) ∧ ((tq (b_2)) ∧ ((tq (b_2)) ∧ ((tq (b_2 && !Msg.kind m == (4 : Int))) ∧ ((tq (b_2 && !Msg.kind m == (4 : Int))) ∧ ((tq (b_2 && !Msg.kind m == (4 : Int))) ∧ ((tq (b_2 && !Msg.kind m == (4 : Int))) ∧ ((tq (b_2 && !Msg.kind m == (4 : Int))) ∧ ((tq (b_2)) ∧ (((b_2 = true) → ((b_2 = true) → (((Msg.kind m == (4 : Int)) = false) → ((b_2 && !Msg.kind m == (4 : Int)) = true)))) ∧ (∀ b_3 : Bool, ((b_3 = bif Msg.kind m == (4 : Int) then true else (↑(List.length (Msg.certs m)) : Int) == (0 : Int)) → (((true = true) → ((b_2 = true) → (b_2 = true))) ∧ (∀ b_4 : Bool, ((b_4 = bif b_2 then b_3 else false) → ((tq (b_4)) ∧ ((tq (b_4)) ∧ ((tq (b_4)) ∧ ((tq (b_4)) ∧ ((tq (b_4)) ∧ ((tq (b_4 && !Msg.kind m == (5 : Int))) ∧ ((tq (b_4 && !Msg.kind m == (5 : Int))) ∧ ((tq (b_4 && !Msg.kind m == (5 : Int))) ∧ ((tq (b_4 && !Msg.kind m == (5 : Int))) ∧ ((tq (b_4 && !Msg.kind m == (5 : Int))) ∧ ((tq (b_4)) ∧ (((b_4 = true) → ((b_4 = true) → (((Msg.kind m == (5 : Int)) = false) → ((b_4 && !Msg.kind m == (5 : Int)) = true)))) ∧ (∀ b_5 : Bool, ((b_5 = bif Msg.kind m == (5 : Int) then true else (↑(List.length (Msg.refs m)) : Int) == (0 : Int)) → (((true = true) → ((b_4 = true) → (b_4 = true))) ∧ (∀ b_6 : Bool, ((b_6 = bif b_4 then b_5 else false) → (VLe (V.bool b_6) (V.bool (decide (bare m))))))))))))))))))))))))))))))))))))))))))))))))))))))))))))) := by
    repeat (first | (refine And.intro (fun h _ => h) ?_) | (refine And.intro (fun _ h => h) ?_) | (refine And.intro ?aa ?_; case aa => (simp [pr33]; done)) | (refine And.intro ?aa ?_; case aa => (simp_all [pr33]; done)) | (refine And.intro ?aa ?_; case aa => (intros; exact inK64 (by omega))) | (refine And.intro ?aa ?_; case aa => (intros; simp only [decide_eq_true_eq] at *; omega)) | (intro q hq))
    subst_vars
    refine vle_bool ?_
    rw [Bool.eq_iff_iff]
    simp
    try simp only [bare, inR, List.length_eq_zero_iff, and_assoc]
    try omega
  exact Eq.mp (by kernel_rfl) key
theorem so102 : Sound Tryz.prog 102 sp102 := by
  refine sound_of_body hmix (pol := 0) Tryz.func102 rfl (by kernel_rfl) fun args bin ob r bout hDe hob => ?_
  unfold sp102 at hDe
  split at hDe
  · rename_i a0
    cases hDe
    exact ⟨rfl, rfl, Nat.le_of_ble_eq_true (by kernel_rfl), cx102 (decPMsg a0), Eq.mp (by kernel_rfl) htt, Eq.mp (by kernel_rfl) da102, Eq.mp (by kernel_rfl) (noM_sound (P := Tryz.prog)), by kernel_rfl, [encPMsg 1 ((decPMsg a0))], args_of_vles (⟨hob.1, trivial⟩), Eq.mp (by kernel_rfl) (bd102 (decPMsg a0) (hob.2))⟩
  · cases hDe

/-! ### impl.msgFault$1 -/
def pr80 (c : Cert) (m : Msg) : Prop := inR m.view 0 20
noncomputable def rs80 (c : Cert) (m : Msg) : V := .bool (decide (¬ goodC m c))
noncomputable def sp80 : FSpec := fun args bin => match args, bin with
  | [a0, a1], [] => some (VLe a0 (encCert 1 ((decCert a0))) ∧ VLe a1 (encPMsg 1 ((decPMsg a1))) ∧ pr80 (decCert a0) (decPMsg a1), rs80 (decCert a0) (decPMsg a1), [])
  | _, _ => none
noncomputable def D80 : Nat → Option (Bool × FSpec) := lk [(41, (false, sp41)), (78, (false, sp78)), (79, (false, sp79))]
theorem da80 : SoundAll Tryz.prog D80 := soundAll_cons so41 (soundAll_cons so78 (soundAll_cons so79 (soundAll_nil)))
noncomputable def cx80 (c : Cert) (m : Msg) : Cx := ⟨tt, D80, Tryz.f80.ntmps, [0, 1, 2, 3], [], [], fun _ => none, [], noM, []⟩
theorem bd80 (c : Cert) (m : Msg) (hpre : pr80 c m) : bodyP (cx80 c m) Tryz.f80 0 [encCert 1 (c), encPMsg 1 (m)] (fun rr => VLe rr (rs80 c m)) := by
  have key : ((pr78 (Cert.slot c)) ∧ ((tq (!!decide (inR (Cert.slot c) (1 : Int) (30 : Int)))) ∧ ((tq (!!decide (inR (Cert.slot c) (1 : Int) (30 : Int)))) ∧ ((tq (!!decide (inR (Cert.slot c) (1 : Int) (30 : Int)))) ∧ ((((!!decide (inR (Cert.slot c) (1 : Int) (30 : Int))) = true) → (inK IntKind.i64 (Msg.view m - (1 : Int)))) ∧ ((tq (!!decide (inR (Cert.slot c) (1 : Int) (30 : Int)))) ∧ ((tq (!!decide (inR (Cert.slot c) (1 : Int) (30 : Int)))) ∧ ((((!!decide (inR (Cert.slot c) (1 : Int) (30 : Int))) = true) → (pr41 (Cert.view c) (0 : Int) (Msg.view m - (1 : Int)))) ∧ ((tq (!!decide (inR (Cert.slot c) (1 : Int) (30 : Int)))) ∧ (((true = true) → (((!decide (inR (Cert.slot c) (1 : Int) (30 : Int))) = false) → ((!!decide (inR (Cert.slot c) (1 : Int) (30 : Int))) = true))) ∧ (∀ b : Bool, ((b = bif !decide (inR (Cert.slot c) (1 : Int) (30 : Int)) then true else !decide (inR (Cert.view c) (0 : Int) (Msg.view m - (1 : Int)))) → ((tq (!b)) ∧ ((tq (!b)) ∧ ((((!b) = true) → (pr79 (Cert.value c))) ∧ ((tq (!b)) ∧ (((true = true) → ((b = false) → ((!b) = true))) ∧ (∀ b_1 : Bool, ((b_1 = bif b then true else !decide (inR (Cert.value c) (0 : Int) (12 : Int))) → (VLe (V.bool b_1) (V.bool (decide ¬goodC m c)))))))))))))))))))))) := by
    unfold pr80 inR at hpre
    repeat (first | (refine And.intro (fun h _ => h) ?_) | (refine And.intro (fun _ h => h) ?_) | (refine And.intro ?aa ?_; case aa => (simp [pr41, pr78, pr79]; done)) | (refine And.intro ?aa ?_; case aa => (simp_all [pr41, pr78, pr79]; done)) | (refine And.intro ?aa ?_; case aa => (intros; exact inK64 (by omega))) | (refine And.intro ?aa ?_; case aa => (intros; simp only [decide_eq_true_eq] at *; omega)) | (intro q hq))
    subst_vars
    refine vle_bool ?_
    rw [Bool.eq_iff_iff]
    simp
    try simp only [goodC, inR]
    try omega
  exact Eq.mp (by kernel_rfl) key
theorem so80 : Sound Tryz.prog 80 sp80 := by
  refine sound_of_body hmix (pol := 0) Tryz.func80 rfl (by kernel_rfl) fun args bin ob r bout hDe hob => ?_
  unfold sp80 at hDe
  split at hDe
  · rename_i a0 a1
    cases hDe
    exact ⟨rfl, rfl, Nat.le_of_ble_eq_true (by kernel_rfl), cx80 (decCert a0) (decPMsg a1), Eq.mp (by kernel_rfl) htt, Eq.mp (by kernel_rfl) da80, Eq.mp (by kernel_rfl) (noM_sound (P := Tryz.prog)), by kernel_rfl, [encCert 1 ((decCert a0)), encPMsg 1 ((decPMsg a1))], args_of_vles (⟨hob.1, hob.2.1, trivial⟩), Eq.mp (by kernel_rfl) (bd80 (decCert a0) (decPMsg a1) (hob.2.2))⟩
  · cases hDe

/-! ### impl.msgFault$2 -/
def pr81 (r : Int) : Prop := True
noncomputable def rs81 (r : Int) : V := .bool (decide (¬ goodR r))
noncomputable def sp81 : FSpec := fun args bin => match args, bin with
  | [.int .i64 a0], [] => some (pr81 a0, rs81 a0, [])
  | _, _ => none
noncomputable def D81 : Nat → Option (Bool × FSpec) := lk [(41, (false, sp41))]
theorem da81 : SoundAll Tryz.prog D81 := soundAll_cons so41 (soundAll_nil)
noncomputable def cx81 (r : Int) : Cx := ⟨tt, D81, Tryz.f81.ntmps, [0, 2], [], [], fun _ => none, [], noM, []⟩
theorem bd81 (r : Int) (hpre : pr81 r) : bodyP (cx81 r) Tryz.f81 0 [.int .i64 (r)] (fun rr => VLe rr (rs81 r)) := by
  have key : ((pr41 r (0 : Int) (239 : Int)) ∧ (VLe (V.bool !decide (inR r (0 : Int) (239 : Int))) (V.bool (decide ¬goodR r)))) := by
    repeat (first | (refine And.intro (fun h _ => h) ?_) | (refine And.intro (fun _ h => h) ?_) | (refine And.intro ?aa ?_; case aa => (simp [pr41]; done)) | (refine And.intro ?aa ?_; case aa => (simp_all [pr41]; done)) | (refine And.intro ?aa ?_; case aa => (intros; exact inK64 (by omega))) | (refine And.intro ?aa ?_; case aa => (intros; simp only [decide_eq_true_eq] at *; omega)) | (intro q hq))
    subst_vars
    refine vle_bool ?_
    rw [Bool.eq_iff_iff]
    simp
    try simp only [goodR, inR]
    try omega
  exact Eq.mp (by kernel_rfl) key
theorem so81 : Sound Tryz.prog 81 sp81 := by
  refine sound_of_body hmix (pol := 0) Tryz.func81 rfl (by kernel_rfl) fun args bin ob r bout hDe hob => ?_
  unfold sp81 at hDe
  split at hDe
  · rename_i a0
    cases hDe
    exact ⟨rfl, rfl, Nat.le_of_ble_eq_true (by kernel_rfl), cx81 a0, Eq.mp (by kernel_rfl) htt, Eq.mp (by kernel_rfl) da81, Eq.mp (by kernel_rfl) (noM_sound (P := Tryz.prog)), by kernel_rfl, [.int .i64 (a0)], args_of_vles (⟨VLe.refl _, trivial⟩), Eq.mp (by kernel_rfl) (bd81 a0 (hob))⟩
  · cases hDe

/-! ### slices.IndexFunc(()loop.example/g00369/impl.Cert,loop.example/g00369/impl.Cert)@impl.msgFault$1 -/
def pr93_80 (xs : List Cert) (m : Msg) : Prop := xs.length ≤ maxLen ∧ (inR m.view 0 20)
noncomputable def rs93_80 (xs : List Cert) (m : Msg) : V := .int .i64 (idxF (fun c => decide (¬ goodC m c)) xs)
noncomputable def sp93_80 : FSpec := fun args bin => match args, bin with
  | [a0, .fn 80 [a1]], [] => some (VLe a0 (encL (encCert 1) 1 (((decL decCert) a0))) ∧ VLe a1 (encPMsg 1 ((decPMsg a1))) ∧ pr93_80 ((decL decCert) a0) (decPMsg a1), rs93_80 ((decL decCert) a0) (decPMsg a1), [])
  | _, _ => none
noncomputable def in93_80_2 (xs : List Cert) (m : Msg) : LoopInv :=
  ⟨Nat, fun i => ⟨[(0, encL (encCert 1) 1 xs), (1, .fn 80 [encPMsg 1 (m)]), (7, .int .i64 xs.length), (8, .int .i64 i)], []⟩,
    fun i => i ≤ xs.length ∧ ∀ j, j < i → (fun c => decide (¬ goodC m c)) (xs.getD j default) = false, fun i => xs.length - i⟩
noncomputable def iv93_80 (xs : List Cert) (m : Msg) : Nat → Option LoopInv := fun rg_ => match rg_ with
  | 2 => some (in93_80_2 xs m)
  | _ => none
noncomputable def D93_80 : Nat → Option (Bool × FSpec) := lk [(80, (false, sp80))]
theorem da93_80 : SoundAll Tryz.prog D93_80 := soundAll_cons so80 (soundAll_nil)
noncomputable def cx93_80 (xs : List Cert) (m : Msg) : Cx := ⟨tt, D93_80, Tryz.f93.ntmps, [0, 1, 4, 5, 7, 8, 9, 16], [(2, ⟨[(0, none), (1, none), (7, none), (8, none)], []⟩)], [], iv93_80 xs m, [], noM, []⟩
noncomputable def k93_80_0 (xs : List Cert) (x : Nat) : V := (encCert 1 (List.getD xs (Int.toNat (↑x : Int)) default))
theorem bd93_80 (xs : List Cert) (m : Msg) (hpre : pr93_80 xs m) : bodyP (cx93_80 xs m) Tryz.f93 0 [encL (encCert 1) 1 (xs), .fn 80 [encPMsg 1 (m)]] (fun rr => VLe rr (rs93_80 xs m)) := by
  have key : ((∃ x : Nat, ((SLe (AS.mk [(0, encL (encCert 1) 1 xs), (1, V.fn (80 : FuncId) [encPMsg 1 m]), (7, vi (↑(List.length xs) : Int)), (8, vi (0 : Int))] []) (AS.mk [(0, encL (encCert 1) 1 xs), (1, V.fn (80 : FuncId) [encPMsg 1 m]), (7, vi (↑(List.length xs) : Int)), (8, vi (↑x : Int))] [])) ∧ ((x ≤ List.length xs) ∧ (∀ j : Nat, ((j < x) → ((decide ¬goodC m (List.getD xs j default)) = false)))))) ∧ (∀ x : Nat, (((x ≤ List.length xs) ∧ (∀ j : Nat, ((j < x) → ((decide ¬goodC m (List.getD xs j default)) = false)))) → (((decide ((↑x : Int) < (↑(List.length xs) : Int)) = true) → ((((0 : Int) ≤ (↑x : Int)) ∧ ((↑x : Int) < (↑(List.length xs) : Int))) ∧ (((VLe (k93_80_0 xs x) (encCert 1 (decCert (k93_80_0 xs x)))) ∧ ((VLe (encPMsg 1 m) (encPMsg 1 (decPMsg (encPMsg 1 m)))) ∧ (pr80 (decCert (k93_80_0 xs x)) (decPMsg (encPMsg 1 m))))) ∧ ((((decide ¬goodC (decPMsg (encPMsg 1 m)) (decCert (k93_80_0 xs x))) = true) → (VLe (vi (↑x : Int)) (vi (idxF (fun (c : Cert) ↦ decide ¬goodC m c) xs)))) ∧ (((decide ¬goodC (decPMsg (encPMsg 1 m)) (decCert (k93_80_0 xs x))) = false) → ((inK IntKind.i64 ((↑x : Int) + (1 : Int))) ∧ (∃ y : Nat, ((SLe (AS.mk [(0, encL (encCert 1) 1 xs), (1, V.fn (80 : FuncId) [encPMsg 1 m]), (7, vi (↑(List.length xs) : Int)), (8, vi ((↑x : Int) + (1 : Int)))] []) (AS.mk [(0, encL (encCert 1) 1 xs), (1, V.fn (80 : FuncId) [encPMsg 1 m]), (7, vi (↑(List.length xs) : Int)), (8, vi (↑y : Int))] [])) ∧ (((y ≤ List.length xs) ∧ (∀ j : Nat, ((j < y) → ((decide ¬goodC m (List.getD xs j default)) = false)))) ∧ (List.length xs - y < List.length xs - x)))))))))) ∧ ((decide ((↑x : Int) < (↑(List.length xs) : Int)) = false) → (VLe (vi (-1 : Int)) (vi (idxF (fun (c : Cert) ↦ decide ¬goodC m c) xs)))))))) := by
    delta k93_80_0; delta vi
    obtain ⟨hlen, hp⟩ := hpre
    unfold maxLen at hlen
    refine ⟨⟨0, SLe.refl _, by omega, fun j hj => absurd hj (Nat.not_lt_zero j)⟩, ?_⟩
    rintro i ⟨hi, hj⟩
    refine ⟨fun h => ?_, fun h => ?_⟩
    · have hlt : i < xs.length := by simpa using h
      have hin : xs.getD i default ∈ xs := by simp [hlt]
      simp only [Int.toNat_natCast, dec_encCert, dec_encPMsg, dec_encMsg, decL_Msg, dec_encPInt]
      refine ⟨⟨by omega, by omega⟩, ⟨VLe.refl _, VLe.refl _, hp⟩, fun h2 => vle_int (idxF_some hlt hj h2).symm, fun h2 => ⟨inK64 (by omega), i + 1, SLe.refl _, ⟨by omega, fun j h3 => ?_⟩, by omega⟩⟩
      rcases Nat.lt_or_ge j i with h4 | h4
      · exact hj j h4
      · have : j = i := by omega
        subst this
        exact h2
    · have hge : i = xs.length := by simp at h; omega
      exact vle_int (idxF_none fun j h3 => hj j (by omega)).symm
  exact Eq.mp (by kernel_rfl) key
theorem so93_80 : Sound Tryz.prog 93 sp93_80 := by
  refine sound_of_body hmix (pol := 0) Tryz.func93 rfl (by kernel_rfl) fun args bin ob r bout hDe hob => ?_
  unfold sp93_80 at hDe
  split at hDe
  · rename_i a0 a1
    cases hDe
    exact ⟨rfl, rfl, Nat.le_of_ble_eq_true (by kernel_rfl), cx93_80 ((decL decCert) a0) (decPMsg a1), Eq.mp (by kernel_rfl) htt, Eq.mp (by kernel_rfl) da93_80, Eq.mp (by kernel_rfl) (noM_sound (P := Tryz.prog)), by kernel_rfl, [encL (encCert 1) 1 (((decL decCert) a0)), .fn 80 [encPMsg 1 ((decPMsg a1))]], args_of_vles (⟨hob.1, vle_fn ⟨hob.2.1, trivial⟩, trivial⟩), Eq.mp (by kernel_rfl) (bd93_80 ((decL decCert) a0) (decPMsg a1) (hob.2.2))⟩
  · cases hDe

/-! ### slices.ContainsFunc(()loop.example/g00369/impl.Cert,loop.example/g00369/impl.Cert)@impl.msgFault$1 -/
def pr69_80 (xs : List Cert) (m : Msg) : Prop := xs.length ≤ maxLen ∧ (inR m.view 0 20)
noncomputable def rs69_80 (xs : List Cert) (m : Msg) : V := .bool (xs.any (fun c => decide (¬ goodC m c)))
noncomputable def sp69_80 : FSpec := fun args bin => match args, bin with
  | [a0, .fn 80 [a1]], [] => some (VLe a0 (encL (encCert 1) 1 (((decL decCert) a0))) ∧ VLe a1 (encPMsg 1 ((decPMsg a1))) ∧ pr69_80 ((decL decCert) a0) (decPMsg a1), rs69_80 ((decL decCert) a0) (decPMsg a1), [])
  | _, _ => none
noncomputable def D69_80 : Nat → Option (Bool × FSpec) := lk [(93, (false, sp93_80))]
theorem da69_80 : SoundAll Tryz.prog D69_80 := soundAll_cons so93_80 (soundAll_nil)
noncomputable def cx69_80 (xs : List Cert) (m : Msg) : Cx := ⟨tt, D69_80, Tryz.f69.ntmps, [0, 1, 4], [], [], fun _ => none, [], noM, []⟩
theorem bd69_80 (xs : List Cert) (m : Msg) (hpre : pr69_80 xs m) : bodyP (cx69_80 xs m) Tryz.f69 0 [encL (encCert 1) 1 (xs), .fn 80 [encPMsg 1 (m)]] (fun rr => VLe rr (rs69_80 xs m)) := by
  have key : (((VLe (encL (encCert 1) 1 xs) (encL (encCert 1) 1 (decL decCert (encL (encCert 1) 1 xs)))) ∧ ((VLe (encPMsg 1 m) (encPMsg 1 (decPMsg (encPMsg 1 m)))) ∧ (pr93_80 (decL decCert (encL (encCert 1) 1 xs)) (decPMsg (encPMsg 1 m))))) ∧ (VLe (V.bool (decide (idxF (fun (c : Cert) ↦ decide ¬goodC (decPMsg (encPMsg 1 m)) c) (decL decCert (encL (encCert 1) 1 xs)) ≥ (0 : Int)))) (V.bool (List.any xs fun (c : Cert) ↦ decide ¬goodC m c)))) := by
    simp only [decL_ints, decL_Cert, dec_encPMsg, dec_encMsg, decL_Msg, dec_encPInt]
    refine ⟨?_, vle_bool (idxF_nonneg _ _)⟩
    repeat' (first | exact VLe.refl _ | exact hpre | apply And.intro)
  exact Eq.mp (by kernel_rfl) key
theorem so69_80 : Sound Tryz.prog 69 sp69_80 := by
  refine sound_of_body hmix (pol := 0) Tryz.func69 rfl (by kernel_rfl) fun args bin ob r bout hDe hob => ?_
  unfold sp69_80 at hDe
  split at hDe
  · rename_i a0 a1
    cases hDe
    exact ⟨rfl, rfl, Nat.le_of_ble_eq_true (by kernel_rfl), cx69_80 ((decL decCert) a0) (decPMsg a1), Eq.mp (by kernel_rfl) htt, Eq.mp (by kernel_rfl) da69_80, Eq.mp (by kernel_rfl) (noM_sound (P := Tryz.prog)), by kernel_rfl, [encL (encCert 1) 1 (((decL decCert) a0)), .fn 80 [encPMsg 1 ((decPMsg a1))]], args_of_vles (⟨hob.1, vle_fn ⟨hob.2.1, trivial⟩, trivial⟩), Eq.mp (by kernel_rfl) (bd69_80 ((decL decCert) a0) (decPMsg a1) (hob.2.2))⟩
  · cases hDe

/-! ### slices.IndexFunc(()int64,int64)@impl.msgFault$2 -/
def pr72_81 (xs : List Int) : Prop := xs.length ≤ maxLen ∧ (True)
noncomputable def rs72_81 (xs : List Int) : V := .int .i64 (idxF (fun r => decide (¬ goodR r)) xs)
noncomputable def sp72_81 : FSpec := fun args bin => match args, bin with
  | [a0, .fn 81 []], [] => some (VLe a0 (encL encI 1 (((decL decI) a0))) ∧ pr72_81 ((decL decI) a0), rs72_81 ((decL decI) a0), [])
  | _, _ => none
noncomputable def in72_81_2 (xs : List Int) : LoopInv :=
  ⟨Nat, fun i => ⟨[(0, encL encI 1 xs), (1, .fn 81 []), (7, .int .i64 xs.length), (8, .int .i64 i)], []⟩,
    fun i => i ≤ xs.length ∧ ∀ j, j < i → (fun r => decide (¬ goodR r)) (xs.getD j default) = false, fun i => xs.length - i⟩
noncomputable def iv72_81 (xs : List Int) : Nat → Option LoopInv := fun rg_ => match rg_ with
  | 2 => some (in72_81_2 xs)
  | _ => none
noncomputable def D72_81 : Nat → Option (Bool × FSpec) := lk [(81, (false, sp81))]
theorem da72_81 : SoundAll Tryz.prog D72_81 := soundAll_cons so81 (soundAll_nil)
noncomputable def cx72_81 (xs : List Int) : Cx := ⟨tt, D72_81, Tryz.f72.ntmps, [0, 1, 4, 5, 7, 8, 9, 16], [(2, ⟨[(0, none), (1, none), (7, none), (8, none)], []⟩)], [], iv72_81 xs, [], noM, []⟩
theorem bd72_81 (xs : List Int) (hpre : pr72_81 xs) : bodyP (cx72_81 xs) Tryz.f72 0 [encL encI 1 (xs), .fn 81 []] (fun rr => VLe rr (rs72_81 xs)) := by
  have key : ((∃ x : Nat, ((SLe (AS.mk [(0, encL encI 1 xs), (1, V.fn (81 : FuncId) []), (7, vi (↑(List.length xs) : Int)), (8, vi (0 : Int))] []) (AS.mk [(0, encL encI 1 xs), (1, V.fn (81 : FuncId) []), (7, vi (↑(List.length xs) : Int)), (8, vi (↑x : Int))] [])) ∧ ((x ≤ List.length xs) ∧ (∀ j : Nat, ((j < x) → ((decide ¬goodR (List.getD xs j default)) = false)))))) ∧ (∀ x : Nat, (((x ≤ List.length xs) ∧ (∀ j : Nat, ((j < x) → ((decide ¬goodR (List.getD xs j default)) = false)))) → (((decide ((↑x : Int) < (↑(List.length xs) : Int)) = true) → ((((0 : Int) ≤ (↑x : Int)) ∧ ((↑x : Int) < (↑(List.length xs) : Int))) ∧ ((pr81 (List.getD xs (Int.toNat (↑x : Int)) default)) ∧ ((((decide ¬goodR (List.getD xs (Int.toNat (↑x : Int)) default)) = true) → (VLe (vi (↑x : Int)) (vi (idxF (fun (r : Int) ↦ decide ¬goodR r) xs)))) ∧ (((decide ¬goodR (List.getD xs (Int.toNat (↑x : Int)) default)) = false) → ((inK IntKind.i64 ((↑x : Int) + (1 : Int))) ∧ (∃ y : Nat, ((SLe (AS.mk [(0, encL encI 1 xs), (1, V.fn (81 : FuncId) []), (7, vi (↑(List.length xs) : Int)), (8, vi ((↑x : Int) + (1 : Int)))] []) (AS.mk [(0, encL encI 1 xs), (1, V.fn (81 : FuncId) []), (7, vi (↑(List.length xs) : Int)), (8, vi (↑y : Int))] [])) ∧ (((y ≤ List.length xs) ∧ (∀ j : Nat, ((j < y) → ((decide ¬goodR (List.getD xs j default)) = false)))) ∧ (List.length xs - y < List.length xs - x)))))))))) ∧ ((decide ((↑x : Int) < (↑(List.length xs) : Int)) = false) → (VLe (vi (-1 : Int)) (vi (idxF (fun (r : Int) ↦ decide ¬goodR r) xs)))))))) := by
    delta vi
    obtain ⟨hlen, hp⟩ := hpre
    unfold maxLen at hlen
    refine ⟨⟨0, SLe.refl _, by omega, fun j hj => absurd hj (Nat.not_lt_zero j)⟩, ?_⟩
    rintro i ⟨hi, hj⟩
    refine ⟨fun h => ?_, fun h => ?_⟩
    · have hlt : i < xs.length := by simpa using h
      have hin : xs.getD i default ∈ xs := by simp [hlt]
      simp only [Int.toNat_natCast, decI_int, dec_encPMsg, dec_encMsg, decL_Msg, dec_encPInt]
      refine ⟨⟨by omega, by omega⟩, trivial, fun h2 => vle_int (idxF_some hlt hj h2).symm, fun h2 => ⟨inK64 (by omega), i + 1, SLe.refl _, ⟨by omega, fun j h3 => ?_⟩, by omega⟩⟩
      rcases Nat.lt_or_ge j i with h4 | h4
      · exact hj j h4
      · have : j = i := by omega
        subst this
        exact h2
    · have hge : i = xs.length := by simp at h; omega
      exact vle_int (idxF_none fun j h3 => hj j (by omega)).symm
  exact Eq.mp (by kernel_rfl) key
theorem so72_81 : Sound Tryz.prog 72 sp72_81 := by
  refine sound_of_body hmix (pol := 0) Tryz.func72 rfl (by kernel_rfl) fun args bin ob r bout hDe hob => ?_
  unfold sp72_81 at hDe
  split at hDe
  · rename_i a0
    cases hDe
    exact ⟨rfl, rfl, Nat.le_of_ble_eq_true (by kernel_rfl), cx72_81 ((decL decI) a0), Eq.mp (by kernel_rfl) htt, Eq.mp (by kernel_rfl) da72_81, Eq.mp (by kernel_rfl) (noM_sound (P := Tryz.prog)), by kernel_rfl, [encL encI 1 (((decL decI) a0)), .fn 81 []], args_of_vles (⟨hob.1, VLe.refl _, trivial⟩), Eq.mp (by kernel_rfl) (bd72_81 ((decL decI) a0) (hob.2))⟩
  · cases hDe

/-! ### slices.ContainsFunc(()int64,int64)@impl.msgFault$2 -/
def pr39_81 (xs : List Int) : Prop := xs.length ≤ maxLen ∧ (True)
noncomputable def rs39_81 (xs : List Int) : V := .bool (xs.any (fun r => decide (¬ goodR r)))
noncomputable def sp39_81 : FSpec := fun args bin => match args, bin with
  | [a0, .fn 81 []], [] => some (VLe a0 (encL encI 1 (((decL decI) a0))) ∧ pr39_81 ((decL decI) a0), rs39_81 ((decL decI) a0), [])
  | _, _ => none
noncomputable def D39_81 : Nat → Option (Bool × FSpec) := lk [(72, (false, sp72_81))]
theorem da39_81 : SoundAll Tryz.prog D39_81 := soundAll_cons so72_81 (soundAll_nil)
noncomputable def cx39_81 (xs : List Int) : Cx := ⟨tt, D39_81, Tryz.f39.ntmps, [0, 1, 4], [], [], fun _ => none, [], noM, []⟩
theorem bd39_81 (xs : List Int) (hpre : pr39_81 xs) : bodyP (cx39_81 xs) Tryz.f39 0 [encL encI 1 (xs), .fn 81 []] (fun rr => VLe rr (rs39_81 xs)) := by
  have key : (((VLe (encL encI 1 xs) (encL encI 1 (decL decI (encL encI 1 xs)))) ∧ (pr72_81 (decL decI (encL encI 1 xs)))) ∧ (VLe (V.bool (decide (idxF (fun (r : Int) ↦ decide ¬goodR r) (decL decI (encL encI 1 xs)) ≥ (0 : Int)))) (V.bool (List.any xs fun (r : Int) ↦ decide ¬goodR r)))) := by
    simp only [decL_ints, decL_Cert, dec_encPMsg, dec_encMsg, decL_Msg, dec_encPInt]
    refine ⟨?_, vle_bool (idxF_nonneg _ _)⟩
    repeat' (first | exact VLe.refl _ | exact hpre | apply And.intro)
  exact Eq.mp (by kernel_rfl) key
theorem so39_81 : Sound Tryz.prog 39 sp39_81 := by
  refine sound_of_body hmix (pol := 0) Tryz.func39 rfl (by kernel_rfl) fun args bin ob r bout hDe hob => ?_
  unfold sp39_81 at hDe
  split at hDe
  · rename_i a0
    cases hDe
    exact ⟨rfl, rfl, Nat.le_of_ble_eq_true (by kernel_rfl), cx39_81 ((decL decI) a0), Eq.mp (by kernel_rfl) htt, Eq.mp (by kernel_rfl) da39_81, Eq.mp (by kernel_rfl) (noM_sound (P := Tryz.prog)), by kernel_rfl, [encL encI 1 (((decL decI) a0)), .fn 81 []], args_of_vles (⟨hob.1, VLe.refl _, trivial⟩), Eq.mp (by kernel_rfl) (bd39_81 ((decL decI) a0) (hob.2))⟩
  · cases hDe

/-! ### spec.l8Lists -/
def pr103 (m : Msg) : Prop := m.bd ∧ inR m.view 0 20
noncomputable def rs103 (m : Msg) : V := .int .i64 (listsFault m)
noncomputable def sp103 : FSpec := fun args bin => match args, bin with
  | [a0], [] => some (VLe a0 (encPMsg 1 ((decPMsg a0))) ∧ pr103 (decPMsg a0), rs103 (decPMsg a0), [])
  | _, _ => none
noncomputable def in103_2 (m : Msg) : LoopInv :=
  ⟨Nat, fun i => ⟨[(0, encPMsg 1 m), (3, .int .i64 i)], []⟩, fun i => 1 ≤ i ∧ (i ≤ m.certs.length ∨ i = 1) ∧ ∀ j, 1 ≤ j → j < i → (m.certs.getD (j - 1) default).slot < (m.certs.getD j default).slot, fun i => m.certs.length - i⟩
noncomputable def in103_7 (m : Msg) : LoopInv :=
  ⟨Nat, fun i => ⟨[(0, encPMsg 1 m), (4, .int .i64 i)], []⟩, fun i => 1 ≤ i ∧ (i ≤ m.refs.length ∨ i = 1) ∧ ∀ j, 1 ≤ j → j < i → m.refs.getD (j - 1) default < m.refs.getD j default, fun i => m.refs.length - i⟩
noncomputable def in103_12 (m : Msg) : LoopInv :=
  ⟨Nat, fun i => ⟨[(0, encPMsg 1 m), (5, .int .i64 i)], []⟩, fun i => i ≤ m.certs.length ∧ ∀ j, j < i → goodC m (m.certs.getD j default), fun i => m.certs.length - i⟩
noncomputable def in103_18 (m : Msg) : LoopInv :=
  ⟨Nat, fun i => ⟨[(0, encPMsg 1 m), (7, .int .i64 i)], []⟩, fun i => i ≤ m.refs.length ∧ ∀ j, j < i → goodR (m.refs.getD j default), fun i => m.refs.length - i⟩
noncomputable def iv103 (m : Msg) : Nat → Option LoopInv := fun rg_ => match rg_ with
  | 2 => some (in103_2 m)
  | 7 => some (in103_7 m)
  | 12 => some (in103_12 m)
  | 18 => some (in103_18 m)
  | _ => none
noncomputable def D103 : Nat → Option (Bool × FSpec) := lk [(33, (false, sp33))]
theorem da103 : SoundAll Tryz.prog D103 := soundAll_cons so33 (soundAll_nil)
noncomputable def cx103 (m : Msg) : Cx := ⟨tt, D103, Tryz.f103.ntmps, [0, 2, 3, 4, 5, 6, 7, 14, 34, 41, 59, 66, 96, 103, 114], [(2, ⟨[(0, none), (3, none)], []⟩), (7, ⟨[(0, none), (4, none)], []⟩), (12, ⟨[(0, none), (5, none)], []⟩), (18, ⟨[(0, none), (7, none)], []⟩)], [], iv103 m, [], noM, []⟩
theorem bd103 (m : Msg) (hpre : pr103 m) : bodyP (cx103 m) Tryz.f103 0 [encPMsg 1 (m)] (fun rr => VLe rr (rs103 m)) := by
  have key : ((∃ x : Nat, ((SLe (AS.mk [(0, encPMsg 1 m), (3, vi (1 : Int))] []) (AS.mk [(0, encPMsg 1 m), (3, vi (↑x : Int))] [])) ∧ ((1 ≤ x) ∧ ((x ≤ List.length (Msg.certs m) ∨ x = 1) ∧ (∀ j : Nat, ((1 ≤ j) → ((j < x) → (Cert.slot (List.getD (Msg.certs m) (j - 1) default) < Cert.slot (List.getD (Msg.certs m) j default))))))))) ∧ (∀ x : Nat, (((1 ≤ x) ∧ ((x ≤ List.length (Msg.certs m) ∨ x = 1) ∧ (∀ j : Nat, ((1 ≤ j) → ((j < x) → (Cert.slot (List.getD (Msg.certs m) (j - 1) default) < Cert.slot (List.getD (Msg.certs m) j default))))))) → (((decide ((↑x : Int) < (↑(List.length (Msg.certs m)) : Int)) = true) → ((((0 : Int) ≤ (↑x : Int)) ∧ ((↑x : Int) < (↑(List.length (Msg.certs m)) : Int))) ∧ ((inK IntKind.i64 ((↑x : Int) - (1 : Int))) ∧ ((((0 : Int) ≤ (↑x : Int) - (1 : Int)) ∧ ((↑x : Int) - (1 : Int) < (↑(List.length (Msg.certs m)) : Int))) ∧ (((decide (Cert.slot (List.getD (Msg.certs m) (Int.toNat (↑x : Int)) default) ≤ Cert.slot (List.getD (Msg.certs m) (Int.toNat ((↑x : Int) - (1 : Int))) default)) = true) → (VLe (vi (1 : Int)) (vi (listsFault m)))) ∧ ((decide (Cert.slot (List.getD (Msg.certs m) (Int.toNat (↑x : Int)) default) ≤ Cert.slot (List.getD (Msg.certs m) (Int.toNat ((↑x : Int) - (1 : Int))) default)) = false) → ((inK IntKind.i64 ((↑x : Int) + (1 : Int))) ∧ (∃ y : Nat, ((SLe (AS.mk [(0, encPMsg 1 m), (3, vi ((↑x : Int) + (1 : Int)))] []) (AS.mk [(0, encPMsg 1 m), (3, vi (↑y : Int))] [])) ∧ (((1 ≤ y) ∧ ((y ≤ List.length (Msg.certs m) ∨ y = 1) ∧ (∀ j : Nat, ((1 ≤ j) → ((j < y) → (Cert.slot (List.getD (Msg.certs m) (j - 1) default) < Cert.slot (List.getD (Msg.certs m) j default))))))) ∧ (List.length (Msg.certs m) - y < List.length (Msg.certs m) - x))))))))))) ∧ ((decide ((↑x : Int) < (↑(List.length (Msg.certs m)) : Int)) = false) → ((∃ x_1 : Nat, ((SLe (AS.mk [(0, encPMsg 1 m), (4, vi (1 : Int))] []) (AS.mk [(0, encPMsg 1 m), (4, vi (↑x_1 : Int))] [])) ∧ ((1 ≤ x_1) ∧ ((x_1 ≤ List.length (Msg.refs m) ∨ x_1 = 1) ∧ (∀ j : Nat, ((1 ≤ j) → ((j < x_1) → (List.getD (Msg.refs m) (j - 1) default < List.getD (Msg.refs m) j default)))))))) ∧ (∀ x_1 : Nat, (((1 ≤ x_1) ∧ ((x_1 ≤ List.length (Msg.refs m) ∨ x_1 = 1) ∧ (∀ j : Nat, ((1 ≤ j) → ((j < x_1) → (List.getD (Msg.refs m) (j - 1) default < List.getD (Msg.refs m) j default)))))) → (((decide ((↑x_1 : Int) < (↑(List.length (Msg.refs m)) : Int)) = true) → ((((0 : Int) ≤ (↑x_1 : Int)) ∧ ((↑x_1 : Int) < (↑(List.length (Msg.refs m)) : Int))) ∧ ((inK IntKind.i64 ((↑x_1 : Int) - (1 : Int))) ∧ ((((0 : Int) ≤ (↑x_1 : Int) - (1 : Int)) ∧ ((↑x_1 : Int) - (1 : Int) < (↑(List.length (Msg.refs m)) : Int))) ∧ (((decide (List.getD (Msg.refs m) (Int.toNat (↑x_1 : Int)) default ≤ List.getD (Msg.refs m) (Int.toNat ((↑x_1 : Int) - (1 : Int))) default) = true) → (VLe (vi (1 : Int)) (vi (listsFault m)))) ∧ ((decide (List.getD (Msg.refs m) (Int.toNat (↑x_1 : Int)) default ≤ List.getD (Msg.refs m) (Int.toNat ((↑x_1 : Int) - (1 : Int))) default) = false) → ((inK IntKind.i64 ((↑x_1 : Int) + (1 : Int))) ∧ (∃ y : Nat, ((SLe (AS.mk [(0, encPMsg 1 m), (4, vi ((↑x_1 : Int) + (1 : Int)))] []) (AS.mk [(0, encPMsg 1 m), (4, vi (↑y : Int))] [])) ∧ (((1 ≤ y) ∧ ((y ≤ List.length (Msg.refs m) ∨ y = 1) ∧ (∀ j : Nat, ((1 ≤ j) → ((j < y) → (List.getD (Msg.refs m) (j - 1) default < List.getD (Msg.refs m) j default)))))) ∧ (List.length (Msg.refs m) - y < List.length (Msg.refs m) - x_1))))))))))) ∧ ((decide ((↑x_1 : Int) < (↑(List.length (Msg.refs m)) : Int)) = false) → ((∃ x_2 : Nat, ((SLe (AS.mk [(0, encPMsg 1 m), (5, vi (0 : Int))] []) (AS.mk [(0, encPMsg 1 m), (5, vi (↑x_2 : Int))] [])) ∧ ((x_2 ≤ List.length (Msg.certs m)) ∧ (∀ j : Nat, ((j < x_2) → (goodC m (List.getD (Msg.certs m) j default))))))) ∧ (∀ x_2 : Nat, (((x_2 ≤ List.length (Msg.certs m)) ∧ (∀ j : Nat, ((j < x_2) → (goodC m (List.getD (Msg.certs m) j default))))) → (((decide ((↑x_2 : Int) < (↑(List.length (Msg.certs m)) : Int)) = true) → ((((0 : Int) ≤ (↑x_2 : Int)) ∧ ((↑x_2 : Int) < (↑(List.length (Msg.certs m)) : Int))) ∧ ((pr33 (Cert.slot (List.getD (Msg.certs m) (Int.toNat (↑x_2 : Int)) default)) (1 : Int) (30 : Int)) ∧ ((tq (!!decide (inR (Cert.slot (List.getD (Msg.certs m) (Int.toNat (↑x_2 : Int)) default)) (1 : Int) (30 : Int)))) ∧ ((tq (!!decide (inR (Cert.slot (List.getD (Msg.certs m) (Int.toNat (↑x_2 : Int)) default)) (1 : Int) (30 : Int)))) ∧ ((tq (!!decide (inR (Cert.slot (List.getD (Msg.certs m) (Int.toNat (↑x_2 : Int)) default)) (1 : Int) (30 : Int)))) ∧ ((tq (!!decide (inR (Cert.slot (List.getD (Msg.certs m) (Int.toNat (↑x_2 : Int)) default)) (1 : Int) (30 : Int)))) ∧ ((tq (!!decide (inR (Cert.slot (List.getD (Msg.certs m) (Int.toNat (↑x_2 : Int)) default)) (1 : Int) (30 : Int)))) ∧ ((((!!decide (inR (Cert.slot (List.getD (Msg.certs m) (Int.toNat (↑x_2 : Int)) default)) (1 : Int) (30 : Int))) = true) → (inK IntKind.i64 (Msg.view m - (1 : Int)))) ∧ ((tq (!!decide (inR (Cert.slot (List.getD (Msg.certs m) (Int.toNat (↑x_2 : Int)) default)) (1 : Int) (30 : Int)))) ∧ ((tq (!!decide (inR (Cert.slot (List.getD (Msg.certs m) (Int.toNat (↑x_2 : Int)) default)) (1 : Int) (30 : Int)))) ∧ ((((!!decide (inR (Cert.slot (List.getD (Msg.certs m) (Int.toNat (↑x_2 : Int)) default)) (1 : Int) (30 : Int))) = true) → (pr33 (Cert.view (List.getD (Msg.certs m) (Int.toNat (↑x_2 : Int)) default)) (0 : Int) (Msg.view m - (1 : Int)))) ∧ ((tq (!!decide (inR (Cert.slot (List.getD (Msg.certs m) (Int.toNat (↑x_2 : Int)) default)) (1 : Int) (30 : Int)))) ∧ (((true = true) → (((!decide (inR (Cert.slot (List.getD (Msg.certs m) (Int.toNat (↑x_2 : Int)) default)) (1 : Int) (30 : Int))) = false) → ((!!decide (inR (Cert.slot (List.getD (Msg.certs m) (Int.toNat (↑x_2 : Int)) default)) (1 : Int) (30 : Int))) = true))) ∧ (∀ b : Bool, ((b = bif !decide (inR (Cert.slot (List.getD (Msg.certs m) (Int.toNat (↑x_2 : Int)) default)) (1 : Int) (30 : Int)) then true else !decide (inR (Cert.view (List.getD (Msg.certs m) (Int.toNat (↑x_2 : Int)) default)) (0 : Int) (Msg.view m - (1 : Int)))) → ((tq (!b)) ∧ ((tq (!b)) ∧ ((((!b) = true) → (pr33 (Cert.value (List.getD (Msg.certs m) (Int.toNat (↑x_2 : Int)) default)) (0 : Int) (12 : Int))) ∧ ((tq (!b)) ∧ (((true = true) → ((b = false) → ((!b) = true))) ∧ (∀ b_1 : Bool, ((b_1 = bif b then true else !decide (inR (Cert.value (List.getD (Msg.certs m) (Int.toNat (↑x_2 : Int)) default)) (0 : Int) (12 : Int))) → (((b_1 = true) → (VLe (vi (3 : Int)) (vi (listsFault m)))) ∧ ((b_1 = false) → ((inK IntKind.i64 ((↑x_2 : Int) + (1 : Int))) ∧ (∃ y : Nat, ((SLe (AS.mk [(0, encPMsg 1 m), (5, vi ((↑x_2 : Int) + (1 : Int)))] []) (AS.mk [(0, encPMsg 1 m), (5, vi (↑y : Int))] [])) ∧ (((y ≤ List.length (Msg.certs m)) ∧ (∀ j : Nat, ((j < y) → (goodC m (List.getD (Msg.certs m) j default))))) ∧ (List.length (Msg.certs m) - y < List.length (Msg.certs m) - x_2)))))))))))))))))))))))))))))) ∧ ((decide ((↑x_2 : Int) < (↑(List.length (Msg.certs m)) : Int)) = false) → ((∃ x_3 : Nat, ((SLe (AS.mk [(0, encPMsg 1 m), (7, vi (0 : Int))] []) (AS.mk [(0, encPMsg 1 m), (7, vi (↑x_3 : Int))] [])) ∧ ((x_3 ≤ List.length (Msg.refs m)) ∧ (∀ j : Nat, ((j < x_3) → (goodR (List.getD (Msg.refs m) j default))))))) ∧ (∀ x_3 : Nat, (((x_3 ≤ List.length (Msg.refs m)) ∧ (∀ j : Nat, ((j < x_3) → (goodR (List.getD (Msg.refs m) j default))))) → (((decide ((↑x_3 : Int) < (↑(List.length (Msg.refs m)) : Int)) = true) → ((((0 : Int) ≤ (↑x_3 : Int)) ∧ ((↑x_3 : Int) < (↑(List.length (Msg.refs m)) : Int))) ∧ ((pr33 (List.getD (Msg.refs m) (Int.toNat (↑x_3 : Int)) default) (0 : Int) (239 : Int)) ∧ ((((!decide (inR (List.getD (Msg.refs m) (Int.toNat (↑x_3 : Int)) default) (0 : Int) (239 : Int))) = true) → (VLe (vi (3 : Int)) (vi (listsFault m)))) ∧ (((!decide (inR (List.getD (Msg.refs m) (Int.toNat (↑x_3 : Int)) default) (0 : Int) (239 : Int))) = false) → ((inK IntKind.i64 ((↑x_3 : Int) + (1 : Int))) ∧ (∃ y : Nat, ((SLe (AS.mk [(0, encPMsg 1 m), (7, vi ((↑x_3 : Int) + (1 : Int)))] []) (AS.mk [(0, encPMsg 1 m), (7, vi (↑y : Int))] [])) ∧ (((y ≤ List.length (Msg.refs m)) ∧ (∀ j : Nat, ((j < y) → (goodR (List.getD (Msg.refs m) j default))))) ∧ (List.length (Msg.refs m) - y < List.length (Msg.refs m) - x_3)))))))))) ∧ ((decide ((↑x_3 : Int) < (↑(List.length (Msg.refs m)) : Int)) = false) → (VLe (vi (0 : Int)) (vi (listsFault m))))))))))))))))))))))) := by
    delta vi
    obtain ⟨⟨hc, hr⟩, hv⟩ := hpre
    unfold maxLen at hc hr
    unfold inR at hv
    refine ⟨⟨1, SLe.refl _, by omega, Or.inr rfl, fun j h1 h2 => by omega⟩, ?_⟩
    rintro i ⟨h1, hi, hj⟩
    have e1 : ((i : Int) - 1).toNat = i - 1 := by omega
    simp only [Int.toNat_natCast, e1]
    refine ⟨fun h => ?_, fun h => ?_⟩
    · have hlt : i < m.certs.length := by simpa using h
      refine ⟨⟨by omega, by omega⟩, inK64 (by omega), ⟨by omega, by omega⟩, fun h2 => ?_, fun h2 => ⟨inK64 (by omega), i + 1, SLe.refl _, ⟨by omega, by omega, fun j h3 h4 => ?_⟩, by omega⟩⟩
      · refine vle_int ?_
        have : ¬ (riseC m.certs ∧ riseR m.refs) := fun hh => by
          have h6 := hh.1 i h1 hlt
          have h7 := of_decide_eq_true h2
          omega
        unfold listsFault
        rw [if_pos this]
      · rcases Nat.lt_or_ge j i with h5 | h5
        · exact hj j h3 h5
        · have : j = i := by omega
          subst this
          have h7 := of_decide_eq_false h2
          omega
    · have hge : m.certs.length ≤ i := by simpa using h
      have hrc : riseC m.certs := fun j h3 h4 => hj j h3 (by omega)
      clear hj hi h1 h hge e1 i
      refine ⟨⟨1, SLe.refl _, by omega, Or.inr rfl, fun j h1 h2 => by omega⟩, ?_⟩
      rintro i ⟨h1, hi, hj⟩
      have e1 : ((i : Int) - 1).toNat = i - 1 := by omega
      simp only [Int.toNat_natCast, e1]
      refine ⟨fun h => ?_, fun h => ?_⟩
      · have hlt : i < m.refs.length := by simpa using h
        refine ⟨⟨by omega, by omega⟩, inK64 (by omega), ⟨by omega, by omega⟩, fun h2 => ?_, fun h2 => ⟨inK64 (by omega), i + 1, SLe.refl _, ⟨by omega, by omega, fun j h3 h4 => ?_⟩, by omega⟩⟩
        · refine vle_int ?_
          have : ¬ (riseC m.certs ∧ riseR m.refs) := fun hh => by
            have h6 := hh.2 i h1 hlt
            have h7 := of_decide_eq_true h2
            omega
          unfold listsFault
          rw [if_pos this]
        · rcases Nat.lt_or_ge j i with h5 | h5
          · exact hj j h3 h5
          · have : j = i := by omega
            subst this
            have h7 := of_decide_eq_false h2
            omega
      · have hge : m.refs.length ≤ i := by simpa using h
        have hrr : riseR m.refs := fun j h3 h4 => hj j h3 (by omega)
        clear hj hi h1 h hge e1 i
        refine ⟨⟨0, SLe.refl _, by omega, fun j hj => absurd hj (Nat.not_lt_zero j)⟩, ?_⟩
        rintro i ⟨hi, hj⟩
        try simp only [Int.toNat_natCast]
        refine ⟨fun h => ?_, fun h => ?_⟩
        · have hlt : i < m.certs.length := by simpa using h
          have hin : m.certs.getD i default ∈ m.certs := by simp [hlt]
          refine ⟨⟨by omega, by omega⟩, ?_⟩
          repeat (first | (refine And.intro (fun h _ => h) ?_) | (refine And.intro (fun _ h => h) ?_) | (refine And.intro ?aa ?_; case aa => (simp [pr33]; done)) | (refine And.intro ?aa ?_; case aa => (simp_all [pr33]; done)) | (refine And.intro ?aa ?_; case aa => (intros; exact inK64 (by omega))) | (refine And.intro ?aa ?_; case aa => (intros; simp only [decide_eq_true_eq] at *; omega)) | (intro q hq))
          subst_vars
          refine ⟨fun h2 => ?_, fun h2 => ⟨inK64 (by omega), i + 1, SLe.refl _, ⟨by omega, fun j h3 => ?_⟩, by omega⟩⟩
          · have hb : ¬ goodC m (m.certs.getD i default) := fun hg => by
              obtain ⟨g1, g2, g3⟩ := hg
              simp only [g1, g2, g3, decide_true, Bool.not_true, cond_false, Bool.false_eq_true] at h2
            refine vle_int ?_
            unfold listsFault
            rw [if_neg (by simp [hrc, hrr]), if_pos fun hh => hb (hh.1 _ hin)]
          · rcases Nat.lt_or_ge j i with h4 | h4
            · exact hj j h4
            · have : j = i := by omega
              subst this
              simp at h2
              exact ⟨h2.1.1, h2.1.2, h2.2⟩
        · have hgc : ∀ c ∈ m.certs, goodC m c := fun c hc => by
            obtain ⟨k, hk, rfl⟩ := List.getElem_of_mem hc
            have hge : i = m.certs.length := by simp at h; omega
            have := hj k (by omega)
            simpa [hk] using this
          clear hj hi h i
          refine ⟨⟨0, SLe.refl _, by omega, fun j hj => absurd hj (Nat.not_lt_zero j)⟩, ?_⟩
          rintro i ⟨hi, hj⟩
          try simp only [Int.toNat_natCast]
          refine ⟨fun h => ?_, fun h => ?_⟩
          · have hlt : i < m.refs.length := by simpa using h
            have hin : m.refs.getD i default ∈ m.refs := by simp [hlt]
            refine ⟨⟨by omega, by omega⟩, trivial, fun h2 => ?_, fun h2 => ⟨inK64 (by omega), i + 1, SLe.refl _, ⟨by omega, fun j h3 => ?_⟩, by omega⟩⟩
            · have hb : ¬ goodR (m.refs.getD i default) := fun hg => by
                unfold goodR at hg
                simp only [hg, decide_true, Bool.not_true, Bool.false_eq_true] at h2
              refine vle_int ?_
              unfold listsFault
              rw [if_neg (by simp [hrc, hrr]), if_pos fun hh => hb (hh.2 _ hin)]
            · rcases Nat.lt_or_ge j i with h4 | h4
              · exact hj j h4
              · have : j = i := by omega
                subst this
                unfold goodR
                simpa using h2
          · have hgr : ∀ r ∈ m.refs, goodR r := fun r hr => by
              obtain ⟨k, hk, rfl⟩ := List.getElem_of_mem hr
              have hge : i = m.refs.length := by simp at h; omega
              have := hj k (by omega)
              simpa [hk] using this
            refine vle_int ?_
            unfold listsFault
            rw [if_neg (by simp [hrc, hrr]), if_neg (by simp; exact ⟨hgc, hgr⟩)]
  exact Eq.mp (by kernel_rfl) key
theorem so103 : Sound Tryz.prog 103 sp103 := by
  refine sound_of_body hmix (pol := 0) Tryz.func103 rfl (by kernel_rfl) fun args bin ob r bout hDe hob => ?_
  unfold sp103 at hDe
  split at hDe
  · rename_i a0
    cases hDe
    exact ⟨rfl, rfl, Nat.le_of_ble_eq_true (by kernel_rfl), cx103 (decPMsg a0), Eq.mp (by kernel_rfl) htt, Eq.mp (by kernel_rfl) da103, Eq.mp (by kernel_rfl) (noM_sound (P := Tryz.prog)), by kernel_rfl, [encPMsg 1 ((decPMsg a0))], args_of_vles (⟨hob.1, trivial⟩), Eq.mp (by kernel_rfl) (bd103 (decPMsg a0) (hob.2))⟩
  · cases hDe

/-! ### spec.l8Msg -/
def pr89 (f : Int) (m : Msg) : Prop := okF f ∧ m.bd
noncomputable def rs89 (f : Int) (m : Msg) : V := .int .i64 (msgFault f m)
noncomputable def sp89 : FSpec := fun args bin => match args, bin with
  | [.int .i64 a0, a1], [] => some (VLe a1 (encPMsg 1 ((decPMsg a1))) ∧ pr89 a0 (decPMsg a1), rs89 a0 (decPMsg a1), [])
  | _, _ => none
noncomputable def D89 : Nat → Option (Bool × FSpec) := lk [(102, (false, sp102)), (33, (false, sp33)), (96, (false, sp96)), (103, (false, sp103))]
theorem da89 : SoundAll Tryz.prog D89 := soundAll_cons so102 (soundAll_cons so33 (soundAll_cons so96 (soundAll_cons so103 (soundAll_nil))))
noncomputable def cx89 (f : Int) (m : Msg) : Cx := ⟨tt, D89, Tryz.f89.ntmps, [0, 1, 4, 5, 8, 47, 64], [], [], fun _ => none, [], noM, []⟩
theorem bd89 (f : Int) (m : Msg) (hpre : pr89 f m) : bodyP (cx89 f m) Tryz.f89 0 [.int .i64 (f), encPMsg 1 (m)] (fun rr => VLe rr (rs89 f m)) := by
  have key : (((VLe (encPMsg 1 m) (encPMsg 1 (decPMsg (encPMsg 1 m)))) ∧ (pr102 (decPMsg (encPMsg 1 m)))) ∧ ((((!decide (bare (decPMsg (encPMsg 1 m)))) = true) → (VLe (vi (1 : Int)) (vi (msgFault f m)))) ∧ (((!decide (bare (decPMsg (encPMsg 1 m)))) = false) → ((pr33 (Msg.view m) (0 : Int) (20 : Int)) ∧ ((tq (!!decide (inR (Msg.view m) (0 : Int) (20 : Int)))) ∧ ((tq (!!decide (inR (Msg.view m) (0 : Int) (20 : Int)))) ∧ ((tq (!!decide (inR (Msg.view m) (0 : Int) (20 : Int)))) ∧ ((tq (!!decide (inR (Msg.view m) (0 : Int) (20 : Int)))) ∧ ((tq (!!decide (inR (Msg.view m) (0 : Int) (20 : Int)))) ∧ ((((!!decide (inR (Msg.view m) (0 : Int) (20 : Int))) = true) → (pr96 f (Msg.sender m))) ∧ ((tq (!!decide (inR (Msg.view m) (0 : Int) (20 : Int)))) ∧ (((true = true) → (((!decide (inR (Msg.view m) (0 : Int) (20 : Int))) = false) → ((!!decide (inR (Msg.view m) (0 : Int) (20 : Int))) = true))) ∧ (∀ b : Bool, ((b = bif !decide (inR (Msg.view m) (0 : Int) (20 : Int)) then true else !decide (inR (Msg.sender m) (1 : Int) ((3 : Int) * f + (1 : Int)))) → ((tq (!b)) ∧ ((tq (!b && decide (Msg.kind m ≤ (3 : Int)))) ∧ ((tq (!b && decide (Msg.kind m ≤ (3 : Int)))) ∧ ((tq (!b && decide (Msg.kind m ≤ (3 : Int)))) ∧ ((tq (!b && decide (Msg.kind m ≤ (3 : Int)))) ∧ ((((!b && decide (Msg.kind m ≤ (3 : Int))) = true) → (pr33 (Msg.slot m) (1 : Int) (30 : Int))) ∧ ((tq (!b && decide (Msg.kind m ≤ (3 : Int)))) ∧ ((tq (!b && decide (Msg.kind m ≤ (3 : Int)))) ∧ ((tq (!b && decide (Msg.kind m ≤ (3 : Int)) && !!decide (inR (Msg.slot m) (1 : Int) (30 : Int)))) ∧ ((tq (!b && decide (Msg.kind m ≤ (3 : Int)) && !!decide (inR (Msg.slot m) (1 : Int) (30 : Int)))) ∧ ((tq (!b && decide (Msg.kind m ≤ (3 : Int)) && !!decide (inR (Msg.slot m) (1 : Int) (30 : Int)))) ∧ ((tq (!b && decide (Msg.kind m ≤ (3 : Int)) && !!decide (inR (Msg.slot m) (1 : Int) (30 : Int)))) ∧ ((((!b && decide (Msg.kind m ≤ (3 : Int)) && !!decide (inR (Msg.slot m) (1 : Int) (30 : Int))) = true) → (pr33 (Msg.value m) (0 : Int) (12 : Int))) ∧ ((tq (!b && decide (Msg.kind m ≤ (3 : Int)) && !!decide (inR (Msg.slot m) (1 : Int) (30 : Int)))) ∧ ((tq (!b && decide (Msg.kind m ≤ (3 : Int)))) ∧ ((((!b && decide (Msg.kind m ≤ (3 : Int))) = true) → (((!b && decide (Msg.kind m ≤ (3 : Int))) = true) → (((!decide (inR (Msg.slot m) (1 : Int) (30 : Int))) = false) → ((!b && decide (Msg.kind m ≤ (3 : Int)) && !!decide (inR (Msg.slot m) (1 : Int) (30 : Int))) = true)))) ∧ (∀ b_1 : Bool, ((b_1 = bif !decide (inR (Msg.slot m) (1 : Int) (30 : Int)) then true else !decide (inR (Msg.value m) (0 : Int) (12 : Int))) → ((tq (!b)) ∧ ((((!b) = true) → (((!b) = true) → ((decide (Msg.kind m ≤ (3 : Int)) = true) → ((!b && decide (Msg.kind m ≤ (3 : Int))) = true)))) ∧ (∀ b_2 : Bool, ((b_2 = bif decide (Msg.kind m ≤ (3 : Int)) then b_1 else false) → (((true = true) → ((b = false) → ((!b) = true))) ∧ (∀ b_3 : Bool, ((b_3 = bif b then true else b_2) → (((b_3 = true) → (VLe (vi (3 : Int)) (vi (msgFault f m)))) ∧ ((b_3 = false) → ((tq (!decide ((↑(List.length (Msg.certs m)) : Int) > (30 : Int)))) ∧ ((tq (!decide ((↑(List.length (Msg.certs m)) : Int) > (30 : Int)))) ∧ ((tq (!decide ((↑(List.length (Msg.certs m)) : Int) > (30 : Int)))) ∧ ((tq (!decide ((↑(List.length (Msg.certs m)) : Int) > (30 : Int)))) ∧ ((tq (!decide ((↑(List.length (Msg.certs m)) : Int) > (30 : Int)))) ∧ ((((!decide ((↑(List.length (Msg.certs m)) : Int) > (30 : Int))) = true) → (inK IntKind.i64 ((3 : Int) * f))) ∧ ((tq (!decide ((↑(List.length (Msg.certs m)) : Int) > (30 : Int)))) ∧ ((((!decide ((↑(List.length (Msg.certs m)) : Int) > (30 : Int))) = true) → (inK IntKind.i64 ((3 : Int) * f + (1 : Int)))) ∧ ((tq (!decide ((↑(List.length (Msg.certs m)) : Int) > (30 : Int)))) ∧ ((tq (!decide ((↑(List.length (Msg.certs m)) : Int) > (30 : Int)))) ∧ (((true = true) → ((decide ((↑(List.length (Msg.certs m)) : Int) > (30 : Int)) = false) → ((!decide ((↑(List.length (Msg.certs m)) : Int) > (30 : Int))) = true))) ∧ (∀ b_4 : Bool, ((b_4 = bif decide ((↑(List.length (Msg.certs m)) : Int) > (30 : Int)) then true else decide ((↑(List.length (Msg.refs m)) : Int) > (3 : Int) * f + (1 : Int))) → (((b_4 = true) → (VLe (vi (2 : Int)) (vi (msgFault f m)))) ∧ ((b_4 = false) → (((VLe (encPMsg 1 m) (encPMsg 1 (decPMsg (encPMsg 1 m)))) ∧ (pr103 (decPMsg (encPMsg 1 m)))) ∧ (VLe (vi (listsFault (decPMsg (encPMsg 1 m)))) (vi (msgFault f m)))))))))))))))))))))))))))))))))))))))))))))))))))))))))))) := by
    delta vi
    obtain ⟨hf, hc, hr⟩ := hpre
    have hf' : 1 ≤ f ∧ f ≤ 2 := by unfold okF at hf; omega
    simp only [dec_encPMsg]
    refine ⟨⟨VLe.refl _, trivial⟩, fun h => ?_, fun h => ?_⟩
    · refine vle_int ?_
      have hn : ¬ bare m := by simpa using h
      unfold msgFault
      rw [if_pos hn]
    · have hb : bare m := by simpa using h
      clear h
      have hk : 1 ≤ m.kind := hb.1.1
      repeat (first | (refine And.intro (fun h _ => h) ?_) | (refine And.intro (fun _ h => h) ?_) | (refine And.intro ?aa ?_; case aa => (simp [hf, pr102, pr33, pr96, pr103]; done)) | (refine And.intro ?aa ?_; case aa => (simp_all [hf, pr102, pr33, pr96, pr103]; done)) | (refine And.intro ?aa ?_; case aa => (intros; exact inK64 (by omega))) | (refine And.intro ?aa ?_; case aa => (intros; simp only [decide_eq_true_eq] at *; omega)) | (intro q hq))
      have e0 : q = decide (¬ ranged f m) := by
        subst_vars
        rw [Bool.eq_iff_iff]
        simp
        try simp only [ranged, inR]
        try omega
      clear hq
      refine ⟨fun h => ?_, fun h => ?_⟩
      · have hn : ¬ ranged f m := by simpa [e0] using h
        refine vle_int ?_
        unfold msgFault
        rw [if_neg (not_not_intro hb), if_pos hn]
      · have hra : ranged f m := by simpa [e0] using h
        clear e0 h
        repeat (first | (refine And.intro (fun h _ => h) ?_) | (refine And.intro (fun _ h => h) ?_) | (refine And.intro ?aa ?_; case aa => (simp [hf, pr102, pr33, pr96, pr103]; done)) | (refine And.intro ?aa ?_; case aa => (simp_all [hf, pr102, pr33, pr96, pr103]; done)) | (refine And.intro ?aa ?_; case aa => (intros; exact inK64 (by omega))) | (refine And.intro ?aa ?_; case aa => (intros; simp only [decide_eq_true_eq] at *; omega)) | (intro q hq))
        have e0 : q = decide (¬ few f m) := by
          subst_vars
          rw [Bool.eq_iff_iff]
          simp
          try simp only [few]
          try omega
        clear hq
        refine ⟨fun h => ?_, fun h => ?_⟩
        · have hn : ¬ few f m := by simpa [e0] using h
          refine vle_int ?_
          unfold msgFault
          rw [if_neg (not_not_intro hb), if_neg (not_not_intro hra), if_pos hn]
        · have hfw : few f m := by simpa [e0] using h
          clear e0 h
          refine ⟨⟨VLe.refl _, ⟨hc, hr⟩, hra.1⟩, vle_int ?_⟩
          unfold msgFault
          rw [if_neg (not_not_intro hb), if_neg (not_not_intro hra), if_neg (not_not_intro hfw)]
  exact Eq.mp (by kernel_rfl) key
theorem so89 : Sound Tryz.prog 89 sp89 := by
  refine sound_of_body hmix (pol := 0) Tryz.func89 rfl (by kernel_rfl) fun args bin ob r bout hDe hob => ?_
  unfold sp89 at hDe
  split at hDe
  · rename_i a0 a1
    cases hDe
    exact ⟨rfl, rfl, Nat.le_of_ble_eq_true (by kernel_rfl), cx89 a0 (decPMsg a1), Eq.mp (by kernel_rfl) htt, Eq.mp (by kernel_rfl) da89, Eq.mp (by kernel_rfl) (noM_sound (P := Tryz.prog)), by kernel_rfl, [.int .i64 (a0), encPMsg 1 ((decPMsg a1))], args_of_vles (⟨VLe.refl _, hob.1, trivial⟩), Eq.mp (by kernel_rfl) (bd89 a0 (decPMsg a1) (hob.2))⟩
  · cases hDe

/-! ### impl.msgFault -/
def pr54 (f : Int) (m : Msg) : Prop := okF f ∧ m.bd
noncomputable def rs54 (f : Int) (m : Msg) : V := .int .i64 (msgFault f m)
noncomputable def sp54 : FSpec := fun args bin => match args, bin with
  | [.int .i64 a0, a1], [] => some (VLe a1 (encMsg 1 ((decMsg a1))) ∧ pr54 a0 (decMsg a1), rs54 a0 (decMsg a1), [])
  | _, _ => none
noncomputable def in54_9 (f : Int) (m : Msg) : LoopInv :=
  ⟨Nat, fun i => ⟨[(0, .int .i64 f), (3, .oref 256 0 0), (95, encL (encCert 1) 1 m.certs), (96, .int .i64 m.certs.length), (97, .int .i64 i)], [(256, .box (encMsg 1 m).cells)]⟩, fun i => i ≤ m.certs.length ∧ ∀ j, 1 ≤ j → j < i → (m.certs.getD (j - 1) default).slot < (m.certs.getD j default).slot, fun i => m.certs.length - i⟩
noncomputable def in54_15 (f : Int) (m : Msg) : LoopInv :=
  ⟨Nat, fun i => ⟨[(3, .oref 256 0 0), (118, encL encI 1 m.refs), (119, .int .i64 m.refs.length), (120, .int .i64 i)], [(256, .box (encMsg 1 m).cells)]⟩, fun i => i ≤ m.refs.length ∧ ∀ j, 1 ≤ j → j < i → m.refs.getD (j - 1) default < m.refs.getD j default, fun i => m.refs.length - i⟩
noncomputable def iv54 (f : Int) (m : Msg) : Nat → Option LoopInv := fun rg_ => match rg_ with
  | 9 => some (in54_9 f m)
  | 15 => some (in54_15 f m)
  | _ => none
noncomputable def D54 : Nat → Option (Bool × FSpec) := lk [(77, (false, sp77)), (41, (false, sp41)), (31, (false, sp31)), (50, (false, sp50)), (78, (false, sp78)), (79, (false, sp79)), (38, (false, sp38)), (69, (false, sp69_80)), (39, (false, sp39_81))]
theorem da54 : SoundAll Tryz.prog D54 := soundAll_cons so77 (soundAll_cons so41 (soundAll_cons so31 (soundAll_cons so50 (soundAll_cons so78 (soundAll_cons so79 (soundAll_cons so38 (soundAll_cons so69_80 (soundAll_cons so39_81 (soundAll_nil)))))))))
noncomputable def cx54 (f : Int) (m : Msg) : Cx := ⟨tt, D54, Tryz.f54.ntmps, [0, 1, 3, 4, 5, 6, 7, 8, 9, 13, 54, 81, 95, 96, 97, 98, 115, 118, 119, 120, 121, 136, 141, 144], [(9, ⟨[(0, none), (3, none), (95, none), (96, none), (97, none)], [(256, [])]⟩), (15, ⟨[(3, none), (118, none), (119, none), (120, none)], [(256, [])]⟩)], [], iv54 f m, [], noM, []⟩
noncomputable def k54_0 (m : Msg) : List (Nat × Blk) := [(256, Blk.box [vi (Msg.kind m), vi (Msg.view m), vi (Msg.sender m), vi (Msg.slot m), vi (Msg.value m), encL (encCert 1) 1 (Msg.certs m), encL encI 1 (Msg.refs m)])]
theorem bd54 (f : Int) (m : Msg) (hpre : pr54 f m) : bodyP (cx54 f m) Tryz.f54 0 [.int .i64 (f), encMsg 1 (m)] (fun rr => VLe rr (rs54 f m)) := by
  have key : ((pr77 (Msg.kind m)) ∧ ((pr41 (Msg.kind m) (1 : Int) (5 : Int)) ∧ ((tq (!!decide (inR (Msg.kind m) (1 : Int) (5 : Int)))) ∧ ((tq (!!decide (inR (Msg.kind m) (1 : Int) (5 : Int)))) ∧ ((tq (!!decide (inR (Msg.kind m) (1 : Int) (5 : Int)) && !decide (inR (Msg.kind m) (1 : Int) (3 : Int)))) ∧ ((tq (!!decide (inR (Msg.kind m) (1 : Int) (5 : Int)) && !decide (inR (Msg.kind m) (1 : Int) (3 : Int)))) ∧ ((tq (!!decide (inR (Msg.kind m) (1 : Int) (5 : Int)) && !decide (inR (Msg.kind m) (1 : Int) (3 : Int)))) ∧ ((tq (!!decide (inR (Msg.kind m) (1 : Int) (5 : Int)) && !decide (inR (Msg.kind m) (1 : Int) (3 : Int)) && !Msg.slot m != (0 : Int))) ∧ ((tq (!!decide (inR (Msg.kind m) (1 : Int) (5 : Int)) && !decide (inR (Msg.kind m) (1 : Int) (3 : Int)) && !Msg.slot m != (0 : Int))) ∧ ((tq (!!decide (inR (Msg.kind m) (1 : Int) (5 : Int)) && !decide (inR (Msg.kind m) (1 : Int) (3 : Int)))) ∧ ((((!!decide (inR (Msg.kind m) (1 : Int) (5 : Int)) && !decide (inR (Msg.kind m) (1 : Int) (3 : Int))) = true) → (((!!decide (inR (Msg.kind m) (1 : Int) (5 : Int)) && !decide (inR (Msg.kind m) (1 : Int) (3 : Int))) = true) → (((Msg.slot m != (0 : Int)) = false) → ((!!decide (inR (Msg.kind m) (1 : Int) (5 : Int)) && !decide (inR (Msg.kind m) (1 : Int) (3 : Int)) && !Msg.slot m != (0 : Int)) = true)))) ∧ (∀ b : Bool, ((b = bif Msg.slot m != (0 : Int) then true else Msg.value m != (0 : Int)) → ((tq (!!decide (inR (Msg.kind m) (1 : Int) (5 : Int)))) ∧ ((((!!decide (inR (Msg.kind m) (1 : Int) (5 : Int))) = true) → (((!!decide (inR (Msg.kind m) (1 : Int) (5 : Int))) = true) → (((!decide (inR (Msg.kind m) (1 : Int) (3 : Int))) = true) → ((!!decide (inR (Msg.kind m) (1 : Int) (5 : Int)) && !decide (inR (Msg.kind m) (1 : Int) (3 : Int))) = true)))) ∧ (∀ b_1 : Bool, ((b_1 = bif !decide (inR (Msg.kind m) (1 : Int) (3 : Int)) then b else false) → (((true = true) → (((!decide (inR (Msg.kind m) (1 : Int) (5 : Int))) = false) → ((!!decide (inR (Msg.kind m) (1 : Int) (5 : Int))) = true))) ∧ (∀ b_2 : Bool, ((b_2 = bif !decide (inR (Msg.kind m) (1 : Int) (5 : Int)) then true else b_1) → ((tq (!b_2)) ∧ ((tq (!b_2)) ∧ ((tq (!b_2)) ∧ ((tq (!b_2 && Msg.kind m != (4 : Int))) ∧ ((tq (!b_2 && Msg.kind m != (4 : Int))) ∧ ((tq (!b_2 && Msg.kind m != (4 : Int))) ∧ ((tq (!b_2)) ∧ ((((!b_2) = true) → (((!b_2) = true) → (((Msg.kind m != (4 : Int)) = true) → ((!b_2 && Msg.kind m != (4 : Int)) = true)))) ∧ (∀ b_3 : Bool, ((b_3 = bif Msg.kind m != (4 : Int) then decide ((↑(List.length (Msg.certs m)) : Int) > (0 : Int)) else false) → (((true = true) → ((b_2 = false) → ((!b_2) = true))) ∧ (∀ b_4 : Bool, ((b_4 = bif b_2 then true else b_3) → ((tq (!b_4)) ∧ ((tq (!b_4)) ∧ ((tq (!b_4)) ∧ ((tq (!b_4 && Msg.kind m != (5 : Int))) ∧ ((tq (!b_4 && Msg.kind m != (5 : Int))) ∧ ((tq (!b_4 && Msg.kind m != (5 : Int))) ∧ ((tq (!b_4)) ∧ ((((!b_4) = true) → (((!b_4) = true) → (((Msg.kind m != (5 : Int)) = true) → ((!b_4 && Msg.kind m != (5 : Int)) = true)))) ∧ (∀ b_5 : Bool, ((b_5 = bif Msg.kind m != (5 : Int) then decide ((↑(List.length (Msg.refs m)) : Int) > (0 : Int)) else false) → (((true = true) → ((b_4 = false) → ((!b_4) = true))) ∧ (∀ b_6 : Bool, ((b_6 = bif b_4 then true else b_5) → (((b_6 = true) → (VLe (vi (1 : Int)) (vi (msgFault f m)))) ∧ ((b_6 = false) → ((pr31 (Msg.view m)) ∧ ((tq (!!decide (inR (Msg.view m) (0 : Int) (20 : Int)))) ∧ ((tq (!!decide (inR (Msg.view m) (0 : Int) (20 : Int)))) ∧ ((tq (!!decide (inR (Msg.view m) (0 : Int) (20 : Int)))) ∧ ((((!!decide (inR (Msg.view m) (0 : Int) (20 : Int))) = true) → (pr50 f (Msg.sender m))) ∧ ((tq (!!decide (inR (Msg.view m) (0 : Int) (20 : Int)))) ∧ (((true = true) → (((!decide (inR (Msg.view m) (0 : Int) (20 : Int))) = false) → ((!!decide (inR (Msg.view m) (0 : Int) (20 : Int))) = true))) ∧ (∀ b_7 : Bool, ((b_7 = bif !decide (inR (Msg.view m) (0 : Int) (20 : Int)) then true else !decide (inR (Msg.sender m) (1 : Int) ((3 : Int) * f + (1 : Int)))) → ((tq (!b_7)) ∧ ((tq (!b_7 && decide (inR (Msg.kind m) (1 : Int) (3 : Int)))) ∧ ((tq (!b_7 && decide (inR (Msg.kind m) (1 : Int) (3 : Int)))) ∧ ((((!b_7 && decide (inR (Msg.kind m) (1 : Int) (3 : Int))) = true) → (pr78 (Msg.slot m))) ∧ ((tq (!b_7 && decide (inR (Msg.kind m) (1 : Int) (3 : Int)))) ∧ ((tq (!b_7 && decide (inR (Msg.kind m) (1 : Int) (3 : Int)))) ∧ ((tq (!b_7 && decide (inR (Msg.kind m) (1 : Int) (3 : Int)) && !!decide (inR (Msg.slot m) (1 : Int) (30 : Int)))) ∧ ((tq (!b_7 && decide (inR (Msg.kind m) (1 : Int) (3 : Int)) && !!decide (inR (Msg.slot m) (1 : Int) (30 : Int)))) ∧ ((((!b_7 && decide (inR (Msg.kind m) (1 : Int) (3 : Int)) && !!decide (inR (Msg.slot m) (1 : Int) (30 : Int))) = true) → (pr79 (Msg.value m))) ∧ ((tq (!b_7 && decide (inR (Msg.kind m) (1 : Int) (3 : Int)) && !!decide (inR (Msg.slot m) (1 : Int) (30 : Int)))) ∧ ((tq (!b_7 && decide (inR (Msg.kind m) (1 : Int) (3 : Int)))) ∧ ((((!b_7 && decide (inR (Msg.kind m) (1 : Int) (3 : Int))) = true) → (((!b_7 && decide (inR (Msg.kind m) (1 : Int) (3 : Int))) = true) → (((!decide (inR (Msg.slot m) (1 : Int) (30 : Int))) = false) → ((!b_7 && decide (inR (Msg.kind m) (1 : Int) (3 : Int)) && !!decide (inR (Msg.slot m) (1 : Int) (30 : Int))) = true)))) ∧ (∀ b_8 : Bool, ((b_8 = bif !decide (inR (Msg.slot m) (1 : Int) (30 : Int)) then true else !decide (inR (Msg.value m) (0 : Int) (12 : Int))) → ((tq (!b_7)) ∧ ((((!b_7) = true) → (((!b_7) = true) → ((decide (inR (Msg.kind m) (1 : Int) (3 : Int)) = true) → ((!b_7 && decide (inR (Msg.kind m) (1 : Int) (3 : Int))) = true)))) ∧ (∀ b_9 : Bool, ((b_9 = bif decide (inR (Msg.kind m) (1 : Int) (3 : Int)) then b_8 else false) → (((true = true) → ((b_7 = false) → ((!b_7) = true))) ∧ (∀ b_10 : Bool, ((b_10 = bif b_7 then true else b_9) → (((b_10 = true) → (VLe (vi (3 : Int)) (vi (msgFault f m)))) ∧ ((b_10 = false) → ((tq (!decide ((↑(List.length (Msg.certs m)) : Int) > (30 : Int)))) ∧ ((tq (!decide ((↑(List.length (Msg.certs m)) : Int) > (30 : Int)))) ∧ ((tq (!decide ((↑(List.length (Msg.certs m)) : Int) > (30 : Int)))) ∧ ((((!decide ((↑(List.length (Msg.certs m)) : Int) > (30 : Int))) = true) → (pr38 f)) ∧ ((tq (!decide ((↑(List.length (Msg.certs m)) : Int) > (30 : Int)))) ∧ ((tq (!decide ((↑(List.length (Msg.certs m)) : Int) > (30 : Int)))) ∧ (((true = true) → ((decide ((↑(List.length (Msg.certs m)) : Int) > (30 : Int)) = false) → ((!decide ((↑(List.length (Msg.certs m)) : Int) > (30 : Int))) = true))) ∧ (∀ b_11 : Bool, ((b_11 = bif decide ((↑(List.length (Msg.certs m)) : Int) > (30 : Int)) then true else decide ((↑(List.length (Msg.refs m)) : Int) > (3 : Int) * f + (1 : Int))) → (((b_11 = true) → (VLe (vi (2 : Int)) (vi (msgFault f m)))) ∧ ((b_11 = false) → ((∃ x : Nat, ((SLe (AS.mk [(0, vi f), (3, V.oref 256 0 0), (95, encL (encCert 1) 1 (Msg.certs m)), (96, vi (↑(List.length (Msg.certs m)) : Int)), (97, vi (0 : Int))] (k54_0 m)) (AS.mk [(0, vi f), (3, V.oref 256 0 0), (95, encL (encCert 1) 1 (Msg.certs m)), (96, vi (↑(List.length (Msg.certs m)) : Int)), (97, vi (↑x : Int))] (k54_0 m))) ∧ ((x ≤ List.length (Msg.certs m)) ∧ (∀ j : Nat, ((1 ≤ j) → ((j < x) → (Cert.slot (List.getD (Msg.certs m) (j - 1) default) < Cert.slot (List.getD (Msg.certs m) j default)))))))) ∧ (∀ x : Nat, (((x ≤ List.length (Msg.certs m)) ∧ (∀ j : Nat, ((1 ≤ j) → ((j < x) → (Cert.slot (List.getD (Msg.certs m) (j - 1) default) < Cert.slot (List.getD (Msg.certs m) j default)))))) → (((decide ((↑x : Int) < (↑(List.length (Msg.certs m)) : Int)) = true) → ((((0 : Int) ≤ (↑x : Int)) ∧ ((↑x : Int) < (↑(List.length (Msg.certs m)) : Int))) ∧ ((tq (decide ((↑x : Int) > (0 : Int)))) ∧ ((tq (decide ((↑x : Int) > (0 : Int)))) ∧ ((tq (decide ((↑x : Int) > (0 : Int)))) ∧ (((decide ((↑x : Int) > (0 : Int)) = true) → (inK IntKind.i64 ((↑x : Int) - (1 : Int)))) ∧ ((tq (decide ((↑x : Int) > (0 : Int)))) ∧ ((tq (decide ((↑x : Int) > (0 : Int)))) ∧ (((decide ((↑x : Int) > (0 : Int)) = true) → (((0 : Int) ≤ (↑x : Int) - (1 : Int)) ∧ ((↑x : Int) - (1 : Int) < (↑(List.length (Msg.certs m)) : Int)))) ∧ ((tq (decide ((↑x : Int) > (0 : Int)))) ∧ ((tq (decide ((↑x : Int) > (0 : Int)))) ∧ ((tq (decide ((↑x : Int) > (0 : Int)))) ∧ ((tq (decide ((↑x : Int) > (0 : Int)))) ∧ (((true = true) → ((decide ((↑x : Int) > (0 : Int)) = true) → (decide ((↑x : Int) > (0 : Int)) = true))) ∧ (∀ b_12 : Bool, ((b_12 = bif decide ((↑x : Int) > (0 : Int)) then decide (Cert.slot (List.getD (Msg.certs m) (Int.toNat (↑x : Int)) default) ≤ Cert.slot (List.getD (Msg.certs m) (Int.toNat ((↑x : Int) - (1 : Int))) default)) else false) → (((b_12 = true) → (VLe (vi (1 : Int)) (vi (msgFault f m)))) ∧ ((b_12 = false) → ((inK IntKind.i64 ((↑x : Int) + (1 : Int))) ∧ (∃ y : Nat, ((SLe (AS.mk [(0, vi f), (3, V.oref 256 0 0), (95, encL (encCert 1) 1 (Msg.certs m)), (96, vi (↑(List.length (Msg.certs m)) : Int)), (97, vi ((↑x : Int) + (1 : Int)))] (k54_0 m)) (AS.mk [(0, vi f), (3, V.oref 256 0 0), (95, encL (encCert 1) 1 (Msg.certs m)), (96, vi (↑(List.length (Msg.certs m)) : Int)), (97, vi (↑y : Int))] (k54_0 m))) ∧ (((y ≤ List.length (Msg.certs m)) ∧ (∀ j : Nat, ((1 ≤ j) → ((j < y) → (Cert.slot (List.getD (Msg.certs m) (j - 1) default) < Cert.slot (List.getD (Msg.certs m) j default)))))) ∧ (List.length (Msg.certs m) - y < List.length (Msg.certs m) - x))))))))))))))))))))))) ∧ ((decide ((↑x : Int) < (↑(List.length (Msg.certs m)) : Int)) = false) → ((∃ x_1 : Nat, ((SLe (AS.mk [(3, V.oref 256 0 0), (118, encL encI 1 (Msg.refs m)), (119, vi (↑(List.length (Msg.refs m)) : Int)), (120, vi (0 : Int))] (k54_0 m)) (AS.mk [(3, V.oref 256 0 0), (118, encL encI 1 (Msg.refs m)), (119, vi (↑(List.length (Msg.refs m)) : Int)), (120, vi (↑x_1 : Int))] (k54_0 m))) ∧ ((x_1 ≤ List.length (Msg.refs m)) ∧ (∀ j : Nat, ((1 ≤ j) → ((j < x_1) → (List.getD (Msg.refs m) (j - 1) default < List.getD (Msg.refs m) j default))))))) ∧ (∀ x_1 : Nat, (((x_1 ≤ List.length (Msg.refs m)) ∧ (∀ j : Nat, ((1 ≤ j) → ((j < x_1) → (List.getD (Msg.refs m) (j - 1) default < List.getD (Msg.refs m) j default))))) → (((decide ((↑x_1 : Int) < (↑(List.length (Msg.refs m)) : Int)) = true) → ((((0 : Int) ≤ (↑x_1 : Int)) ∧ ((↑x_1 : Int) < (↑(List.length (Msg.refs m)) : Int))) ∧ ((tq (decide ((↑x_1 : Int) > (0 : Int)))) ∧ ((tq (decide ((↑x_1 : Int) > (0 : Int)))) ∧ (((decide ((↑x_1 : Int) > (0 : Int)) = true) → (inK IntKind.i64 ((↑x_1 : Int) - (1 : Int)))) ∧ ((tq (decide ((↑x_1 : Int) > (0 : Int)))) ∧ ((tq (decide ((↑x_1 : Int) > (0 : Int)))) ∧ (((decide ((↑x_1 : Int) > (0 : Int)) = true) → (((0 : Int) ≤ (↑x_1 : Int) - (1 : Int)) ∧ ((↑x_1 : Int) - (1 : Int) < (↑(List.length (Msg.refs m)) : Int)))) ∧ ((tq (decide ((↑x_1 : Int) > (0 : Int)))) ∧ ((tq (decide ((↑x_1 : Int) > (0 : Int)))) ∧ ((tq (decide ((↑x_1 : Int) > (0 : Int)))) ∧ (((true = true) → ((decide ((↑x_1 : Int) > (0 : Int)) = true) → (decide ((↑x_1 : Int) > (0 : Int)) = true))) ∧ (∀ b_12 : Bool, ((b_12 = bif decide ((↑x_1 : Int) > (0 : Int)) then decide (List.getD (Msg.refs m) (Int.toNat (↑x_1 : Int)) default ≤ List.getD (Msg.refs m) (Int.toNat ((↑x_1 : Int) - (1 : Int))) default) else false) → (((b_12 = true) → (VLe (vi (1 : Int)) (vi (msgFault f m)))) ∧ ((b_12 = false) → ((inK IntKind.i64 ((↑x_1 : Int) + (1 : Int))) ∧ (∃ y : Nat, ((SLe (AS.mk [(3, V.oref 256 0 0), (118, encL encI 1 (Msg.refs m)), (119, vi (↑(List.length (Msg.refs m)) : Int)), (120, vi ((↑x_1 : Int) + (1 : Int)))] (k54_0 m)) (AS.mk [(3, V.oref 256 0 0), (118, encL encI 1 (Msg.refs m)), (119, vi (↑(List.length (Msg.refs m)) : Int)), (120, vi (↑y : Int))] (k54_0 m))) ∧ (((y ≤ List.length (Msg.refs m)) ∧ (∀ j : Nat, ((1 ≤ j) → ((j < y) → (List.getD (Msg.refs m) (j - 1) default < List.getD (Msg.refs m) j default))))) ∧ (List.length (Msg.refs m) - y < List.length (Msg.refs m) - x_1))))))))))))))))))))) ∧ ((decide ((↑x_1 : Int) < (↑(List.length (Msg.refs m)) : Int)) = false) → (((VLe (encL (encCert 1) 1 (Msg.certs m)) (encL (encCert 1) 1 (decL decCert (encL (encCert 1) 1 (Msg.certs m))))) ∧ ((VLe (encPMsg 1 m) (encPMsg 1 (decPMsg (encPMsg 1 m)))) ∧ (pr69_80 (decL decCert (encL (encCert 1) 1 (Msg.certs m))) (decPMsg (encPMsg 1 m))))) ∧ ((((List.any (decL decCert (encL (encCert 1) 1 (Msg.certs m))) fun (c : Cert) ↦ decide ¬goodC (decPMsg (encPMsg 1 m)) c) = true) → (VLe (vi (3 : Int)) (vi (msgFault f m)))) ∧ (((List.any (decL decCert (encL (encCert 1) 1 (Msg.certs m))) fun (c : Cert) ↦ decide ¬goodC (decPMsg (encPMsg 1 m)) c) = false) → (((VLe (encL encI 1 (Msg.refs m)) (encL encI 1 (decL decI (encL encI 1 (Msg.refs m))))) ∧ (pr39_81 (decL decI (encL encI 1 (Msg.refs m))))) ∧ ((((List.any (decL decI (encL encI 1 (Msg.refs m))) fun (r : Int) ↦ decide ¬goodR r) = true) → (VLe (vi (3 : Int)) (vi (msgFault f m)))) ∧ (((List.any (decL decI (encL encI 1 (Msg.refs m))) fun (r : Int) ↦ decide ¬goodR r) = false) → (VLe (vi (0 : Int)) (vi (msgFault f m)))))))))))))))))))))))))))))))))))))))))))))))))))))))))))))))))))))))))))))))))))))))))))))))))))))))))))))) := by
    delta k54_0; delta vi
    obtain ⟨hf, hc, hr⟩ := hpre
    have hf' : 1 ≤ f ∧ f ≤ 2 := by unfold okF at hf; omega
    unfold maxLen at hc hr
    repeat (first | (refine And.intro (fun h _ => h) ?_) | (refine And.intro (fun _ h => h) ?_) | (refine And.intro ?aa ?_; case aa => (simp [hf, pr77, pr41, pr31, pr50, pr78, pr79, pr38, pr69_80, pr39_81]; done)) | (refine And.intro ?aa ?_; case aa => (simp_all [hf, pr77, pr41, pr31, pr50, pr78, pr79, pr38, pr69_80, pr39_81]; done)) | (refine And.intro ?aa ?_; case aa => (intros; exact inK64 (by omega))) | (refine And.intro ?aa ?_; case aa => (intros; simp only [decide_eq_true_eq] at *; omega)) | (intro q hq))
    have e0 : q = decide (¬ bare m) := by
      subst_vars
      rw [Bool.eq_iff_iff]
      simp
      try simp only [bare, inR, ← List.length_eq_zero_iff]
      try omega
    clear hq
    refine ⟨fun h => ?_, fun h => ?_⟩
    · have hn : ¬ bare m := by simpa [e0] using h
      refine vle_int ?_
      unfold msgFault
      rw [if_pos hn]
    · have hb : bare m := by simpa [e0] using h
      clear e0 h
      repeat (first | (refine And.intro (fun h _ => h) ?_) | (refine And.intro (fun _ h => h) ?_) | (refine And.intro ?aa ?_; case aa => (simp [hf, pr77, pr41, pr31, pr50, pr78, pr79, pr38, pr69_80, pr39_81]; done)) | (refine And.intro ?aa ?_; case aa => (simp_all [hf, pr77, pr41, pr31, pr50, pr78, pr79, pr38, pr69_80, pr39_81]; done)) | (refine And.intro ?aa ?_; case aa => (intros; exact inK64 (by omega))) | (refine And.intro ?aa ?_; case aa => (intros; simp only [decide_eq_true_eq] at *; omega)) | (intro q hq))
      have e0 : q = decide (¬ ranged f m) := by
        subst_vars
        rw [Bool.eq_iff_iff]
        simp
        try simp only [ranged, inR]
        try omega
      clear hq
      refine ⟨fun h => ?_, fun h => ?_⟩
      · have hn : ¬ ranged f m := by simpa [e0] using h
        refine vle_int ?_
        unfold msgFault
        rw [if_neg (not_not_intro hb), if_pos hn]
      · have hra : ranged f m := by simpa [e0] using h
        clear e0 h
        repeat (first | (refine And.intro (fun h _ => h) ?_) | (refine And.intro (fun _ h => h) ?_) | (refine And.intro ?aa ?_; case aa => (simp [hf, pr77, pr41, pr31, pr50, pr78, pr79, pr38, pr69_80, pr39_81]; done)) | (refine And.intro ?aa ?_; case aa => (simp_all [hf, pr77, pr41, pr31, pr50, pr78, pr79, pr38, pr69_80, pr39_81]; done)) | (refine And.intro ?aa ?_; case aa => (intros; exact inK64 (by omega))) | (refine And.intro ?aa ?_; case aa => (intros; simp only [decide_eq_true_eq] at *; omega)) | (intro q hq))
        have e0 : q = decide (¬ few f m) := by
          subst_vars
          rw [Bool.eq_iff_iff]
          simp
          try simp only [few]
          try omega
        clear hq
        refine ⟨fun h => ?_, fun h => ?_⟩
        · have hn : ¬ few f m := by simpa [e0] using h
          refine vle_int ?_
          unfold msgFault
          rw [if_neg (not_not_intro hb), if_neg (not_not_intro hra), if_pos hn]
        · have hfw : few f m := by simpa [e0] using h
          clear e0 h
          refine ⟨⟨0, SLe.refl _, by omega, fun j h1 h2 => by omega⟩, ?_⟩
          rintro i ⟨hi, hj⟩
          refine ⟨fun h => ?_, fun h => ?_⟩
          · have hlt : i < m.certs.length := by simpa using h
            clear h
            try simp only [Int.toNat_natCast]
            refine ⟨⟨by omega, by omega⟩, ?_⟩
            repeat (first | (refine And.intro (fun h _ => h) ?_) | (refine And.intro (fun _ h => h) ?_) | (refine And.intro ?aa ?_; case aa => (simp [pr77, pr41, pr31, pr50, pr78, pr79, pr38, pr69_80, pr39_81]; done)) | (refine And.intro ?aa ?_; case aa => (simp_all [pr77, pr41, pr31, pr50, pr78, pr79, pr38, pr69_80, pr39_81]; done)) | (refine And.intro ?aa ?_; case aa => (intros; exact inK64 (by omega))) | (refine And.intro ?aa ?_; case aa => (intros; simp only [decide_eq_true_eq] at *; omega)) | (intro q hq))
            subst_vars
            refine ⟨fun h2 => ?_, fun h2 => ⟨inK64 (by omega), i + 1, SLe.refl _, ⟨by omega, fun j h3 h4 => ?_⟩, by omega⟩⟩
            · simp at h2
              have e1 : ((i : Int) - 1).toNat = i - 1 := by omega
              refine vle_int ?_
              have : ¬ (riseC m.certs ∧ riseR m.refs) := fun hh => by
                have h6 := hh.1 i (by omega) hlt
                have h7 := h2.2
                try simp only [e1] at h7
                simp at h6 h7
                omega
              unfold msgFault listsFault
              rw [if_neg (not_not_intro hb), if_neg (not_not_intro hra), if_neg (not_not_intro hfw), if_pos this]
            · rcases Nat.lt_or_ge j i with h5 | h5
              · exact hj j h3 h5
              · have : j = i := by omega
                subst this
                have e1 : ((j : Int) - 1).toNat = j - 1 := by omega
                have hj0 : (0 : Int) < j := by omega
                simp only [e1, hj0, gt_iff_lt, decide_true, cond_true, decide_eq_false_iff_not] at h2
                omega
          · have hge : m.certs.length ≤ i := by simpa using h
            have hrc : riseC m.certs := fun j h3 h4 => hj j h3 (by omega)
            clear hj hi h hge i
            refine ⟨⟨0, SLe.refl _, by omega, fun j h1 h2 => by omega⟩, ?_⟩
            rintro i ⟨hi, hj⟩
            refine ⟨fun h => ?_, fun h => ?_⟩
            · have hlt : i < m.refs.length := by simpa using h
              clear h
              try simp only [Int.toNat_natCast]
              refine ⟨⟨by omega, by omega⟩, ?_⟩
              repeat (first | (refine And.intro (fun h _ => h) ?_) | (refine And.intro (fun _ h => h) ?_) | (refine And.intro ?aa ?_; case aa => (simp [pr77, pr41, pr31, pr50, pr78, pr79, pr38, pr69_80, pr39_81]; done)) | (refine And.intro ?aa ?_; case aa => (simp_all [pr77, pr41, pr31, pr50, pr78, pr79, pr38, pr69_80, pr39_81]; done)) | (refine And.intro ?aa ?_; case aa => (intros; exact inK64 (by omega))) | (refine And.intro ?aa ?_; case aa => (intros; simp only [decide_eq_true_eq] at *; omega)) | (intro q hq))
              subst_vars
              refine ⟨fun h2 => ?_, fun h2 => ⟨inK64 (by omega), i + 1, SLe.refl _, ⟨by omega, fun j h3 h4 => ?_⟩, by omega⟩⟩
              · simp at h2
                have e1 : ((i : Int) - 1).toNat = i - 1 := by omega
                refine vle_int ?_
                have : ¬ (riseC m.certs ∧ riseR m.refs) := fun hh => by
                  have h6 := hh.2 i (by omega) hlt
                  have h7 := h2.2
                  try simp only [e1] at h7
                  simp at h6 h7
                  omega
                unfold msgFault listsFault
                rw [if_neg (not_not_intro hb), if_neg (not_not_intro hra), if_neg (not_not_intro hfw), if_pos this]
              · rcases Nat.lt_or_ge j i with h5 | h5
                · exact hj j h3 h5
                · have : j = i := by omega
                  subst this
                  have e1 : ((j : Int) - 1).toNat = j - 1 := by omega
                  have hj0 : (0 : Int) < j := by omega
                  simp only [e1, hj0, gt_iff_lt, decide_true, cond_true, decide_eq_false_iff_not] at h2
                  omega
            · have hge : m.refs.length ≤ i := by simpa using h
              have hrr : riseR m.refs := fun j h3 h4 => hj j h3 (by omega)
              clear hj hi h hge i
              simp only [decL_Cert, decL_ints, dec_encPMsg]
              refine ⟨⟨VLe.refl _, VLe.refl _, by unfold maxLen; omega, hra.1⟩, fun h2 => ?_, fun h2 => ⟨⟨VLe.refl _, by unfold maxLen; omega, trivial⟩, fun h3 => ?_, fun h3 => ?_⟩⟩
              · refine vle_int ?_
                unfold msgFault listsFault
                rw [if_neg (not_not_intro hb), if_neg (not_not_intro hra), if_neg (not_not_intro hfw), if_neg (not_not_intro ⟨hrc, hrr⟩), if_pos ?_]
                intro hh
                obtain ⟨c, hc, hg⟩ := List.any_eq_true.1 h2
                exact (of_decide_eq_true hg) (hh.1 c hc)
              · refine vle_int ?_
                unfold msgFault listsFault
                rw [if_neg (not_not_intro hb), if_neg (not_not_intro hra), if_neg (not_not_intro hfw), if_neg (not_not_intro ⟨hrc, hrr⟩), if_pos ?_]
                intro hh
                obtain ⟨c, hc, hg⟩ := List.any_eq_true.1 h3
                exact (of_decide_eq_true hg) (hh.2 c hc)
              · have hA : ∀ c ∈ m.certs, goodC m c := fun c hc => by
                  have := List.any_eq_false.1 h2 c hc
                  simpa using this
                have hB : ∀ r ∈ m.refs, goodR r := fun c hc => by
                  have := List.any_eq_false.1 h3 c hc
                  simpa using this
                refine vle_int ?_
                unfold msgFault listsFault
                rw [if_neg (not_not_intro hb), if_neg (not_not_intro hra), if_neg (not_not_intro hfw), if_neg (not_not_intro ⟨hrc, hrr⟩), if_neg (not_not_intro ⟨hA, hB⟩)]
  exact Eq.mp (by kernel_rfl) key
theorem so54 : Sound Tryz.prog 54 sp54 := by
  refine sound_of_body hmix (pol := 0) Tryz.func54 rfl (by kernel_rfl) fun args bin ob r bout hDe hob => ?_
  unfold sp54 at hDe
  split at hDe
  · rename_i a0 a1
    cases hDe
    exact ⟨rfl, rfl, Nat.le_of_ble_eq_true (by kernel_rfl), cx54 a0 (decMsg a1), Eq.mp (by kernel_rfl) htt, Eq.mp (by kernel_rfl) da54, Eq.mp (by kernel_rfl) (noM_sound (P := Tryz.prog)), by kernel_rfl, [.int .i64 (a0), encMsg 1 ((decMsg a1))], args_of_vles (⟨VLe.refl _, hob.1, trivial⟩), Eq.mp (by kernel_rfl) (bd54 a0 (decMsg a1) (hob.2))⟩
  · cases hDe

/-! ### impl.MsgFault -/
def pr21 (f : Int) (m : Msg) : Prop := m.bd
noncomputable def rs21 (f : Int) (m : Msg) : V := .int .i64 (if okF f then msgFault f m else 3)
noncomputable def sp21 : FSpec := fun args bin => match args, bin with
  | [.int .i64 a0, a1], [] => some (VLe a1 (encMsg 1 ((decMsg a1))) ∧ pr21 a0 (decMsg a1), rs21 a0 (decMsg a1), [])
  | _, _ => none
noncomputable def D21 : Nat → Option (Bool × FSpec) := lk [(36, (false, sp36)), (54, (false, sp54))]
theorem da21 : SoundAll Tryz.prog D21 := soundAll_cons so36 (soundAll_cons so54 (soundAll_nil))
noncomputable def cx21 (f : Int) (m : Msg) : Cx := ⟨tt, D21, Tryz.f21.ntmps, [0, 1, 3, 4, 7], [], [], fun _ => none, [], noM, []⟩
theorem bd21 (f : Int) (m : Msg) (hpre : pr21 f m) : bodyP (cx21 f m) Tryz.f21 0 [.int .i64 (f), encMsg 1 (m)] (fun rr => VLe rr (rs21 f m)) := by
  have key : ((pr36 f) ∧ ((((!decide (okF f)) = true) → (VLe (vi (3 : Int)) (vi (if okF f then msgFault f m else (3 : Int))))) ∧ (((!decide (okF f)) = false) → (((VLe (encMsg 1 m) (encMsg 1 (decMsg (encMsg 1 m)))) ∧ (pr54 f (decMsg (encMsg 1 m)))) ∧ (VLe (vi (msgFault f (decMsg (encMsg 1 m)))) (vi (if okF f then msgFault f m else (3 : Int)))))))) := by
    delta vi
    simp only [dec_encMsg]
    refine ⟨trivial, fun h => ?_, fun h => ?_⟩
    · have hf : ¬ okF f := by simpa using h
      simp [hf]
    · have hf : okF f := by simpa using h
      refine ⟨⟨VLe.refl _, hf, hpre⟩, vle_int ?_⟩
      rw [if_pos hf]
  exact Eq.mp (by kernel_rfl) key
theorem so21 : Sound Tryz.prog 21 sp21 := by
  refine sound_of_body hmix (pol := 0) Tryz.func21 rfl (by kernel_rfl) fun args bin ob r bout hDe hob => ?_
  unfold sp21 at hDe
  split at hDe
  · rename_i a0 a1
    cases hDe
    exact ⟨rfl, rfl, Nat.le_of_ble_eq_true (by kernel_rfl), cx21 a0 (decMsg a1), Eq.mp (by kernel_rfl) htt, Eq.mp (by kernel_rfl) da21, Eq.mp (by kernel_rfl) (noM_sound (P := Tryz.prog)), by kernel_rfl, [.int .i64 (a0), encMsg 1 ((decMsg a1))], args_of_vles (⟨VLe.refl _, hob.1, trivial⟩), Eq.mp (by kernel_rfl) (bd21 a0 (decMsg a1) (hob.2))⟩
  · cases hDe

end Go.Av
