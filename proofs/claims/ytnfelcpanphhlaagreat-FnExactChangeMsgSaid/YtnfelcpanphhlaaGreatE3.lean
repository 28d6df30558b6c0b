/- What is wrong with a message: program and reference. -/
import Derived.Test.YtnfelcpanphhlaaGreatE1
import Derived.Test.YtnfelcpanphhlaaGreatP8
namespace Go.Av
open Go.Proofs
set_option maxRecDepth 100000
set_option linter.unusedVariables false
set_option linter.unusedSimpArgs false


/-! ### impl.within -/
def pr60 (n : Int) (lo : Int) (hi : Int) : Prop := True
noncomputable def rs60 (n : Int) (lo : Int) (hi : Int) : V := .bool (decide (inR n lo hi))
noncomputable def sp60 : FSpec := fun args bin => match args, bin with
  | [.int .i64 a0, .int .i64 a1, .int .i64 a2], [] => some (pr60 a0 a1 a2, rs60 a0 a1 a2, [])
  | _, _ => none
noncomputable def D60 : Nat → Option (Bool × FSpec) := lk []
theorem da60 : SoundAll Tryz.prog D60 := soundAll_nil
noncomputable def cx60 (n : Int) (lo : Int) (hi : Int) : Cx := ⟨tt, D60, Tryz.f60.ntmps, [0, 1, 2, 6], [], [], fun _ => none, [], noM, []⟩
theorem bd60 (n : Int) (lo : Int) (hi : Int) (hpre : pr60 n lo hi) : bodyP (cx60 n lo hi) Tryz.f60 0 [.int .i64 (n), .int .i64 (lo), .int .i64 (hi)] (fun rr => VLe rr (rs60 n lo hi)) := by
  have key :
      ((tq (decide (lo ≤ n))) ∧
   ((tq (decide (lo ≤ n))) ∧
   (((true = true) →
   ((decide (lo ≤ n) = true) →
   (decide (lo ≤ n) = true))) ∧
   (∀ b : Bool,
   ((b = bif decide (lo ≤ n) then decide (n ≤ hi) else false) →
   (VLe (V.bool b) (V.bool (decide (inR n lo hi))))))))) := by
    repeat (first | (refine And.intro (fun h _ => h) ?_) | (refine And.intro (fun _ h => h) ?_) | (refine And.intro ?aa ?_; case aa => (simp []; done)) | (refine And.intro ?aa ?_; case aa => (simp_all []; done)) | (refine And.intro ?aa ?_; case aa => (intros; exact inK64 (by omega))) | (refine And.intro ?aa ?_; case aa => (intros; simp only [decide_eq_true_eq] at *; omega)) | (intro q hq))
    subst_vars
    refine vle_bool ?_
    rw [Bool.eq_iff_iff]
    simp
    try simp only [inR]
    try omega
  exact Eq.mp (by kernel_rfl) key
theorem so60 : Sound Tryz.prog 60 sp60 := by
  refine sound_of_body hmix (pol := 0) Tryz.func60 rfl (by kernel_rfl) fun args bin ob r bout hDe hob => ?_
  unfold sp60 at hDe
  split at hDe
  · rename_i a0 a1 a2
    cases hDe
    exact ⟨rfl, rfl, Nat.le_of_ble_eq_true (by kernel_rfl), cx60 a0 a1 a2, Eq.mp (by kernel_rfl) htt, Eq.mp (by kernel_rfl) da60, Eq.mp (by kernel_rfl) (noM_sound (P := Tryz.prog)), by kernel_rfl, [.int .i64 (a0), .int .i64 (a1), .int .i64 (a2)], args_of_vles (⟨VLe.refl _, VLe.refl _, VLe.refl _, trivial⟩), Eq.mp (by kernel_rfl) (bd60 a0 a1 a2 (hob))⟩
  · cases hDe

/-! ### spec.l1In -/
def pr52 (n : Int) (lo : Int) (hi : Int) : Prop := True
noncomputable def rs52 (n : Int) (lo : Int) (hi : Int) : V := .bool (decide (inR n lo hi))
noncomputable def sp52 : FSpec := fun args bin => match args, bin with
  | [.int .i64 a0, .int .i64 a1, .int .i64 a2], [] => some (pr52 a0 a1 a2, rs52 a0 a1 a2, [])
  | _, _ => none
noncomputable def D52 : Nat → Option (Bool × FSpec) := lk []
theorem da52 : SoundAll Tryz.prog D52 := soundAll_nil
noncomputable def cx52 (n : Int) (lo : Int) (hi : Int) : Cx := ⟨tt, D52, Tryz.f52.ntmps, [0, 1, 2, 6], [], [], fun _ => none, [], noM, []⟩
theorem bd52 (n : Int) (lo : Int) (hi : Int) (hpre : pr52 n lo hi) : bodyP (cx52 n lo hi) Tryz.f52 0 [.int .i64 (n), .int .i64 (lo), .int .i64 (hi)] (fun rr => VLe rr (rs52 n lo hi)) := by
  have key :
      ((tq (decide (n ≥ lo))) ∧
   ((tq (decide (n ≥ lo))) ∧
   (((true = true) →
   ((decide (n ≥ lo) = true) →
   (decide (n ≥ lo) = true))) ∧
   (∀ b : Bool,
   ((b = bif decide (n ≥ lo) then decide (n ≤ hi) else false) →
   (VLe (V.bool b) (V.bool (decide (inR n lo hi))))))))) := by
    repeat (first | (refine And.intro (fun h _ => h) ?_) | (refine And.intro (fun _ h => h) ?_) | (refine And.intro ?aa ?_; case aa => (simp []; done)) | (refine And.intro ?aa ?_; case aa => (simp_all []; done)) | (refine And.intro ?aa ?_; case aa => (intros; exact inK64 (by omega))) | (refine And.intro ?aa ?_; case aa => (intros; simp only [decide_eq_true_eq] at *; omega)) | (intro q hq))
    subst_vars
    refine vle_bool ?_
    rw [Bool.eq_iff_iff]
    simp
    try simp only [inR]
    try omega
  exact Eq.mp (by kernel_rfl) key
theorem so52 : Sound Tryz.prog 52 sp52 := by
  refine sound_of_body hmix (pol := 0) Tryz.func52 rfl (by kernel_rfl) fun args bin ob r bout hDe hob => ?_
  unfold sp52 at hDe
  split at hDe
  · rename_i a0 a1 a2
    cases hDe
    exact ⟨rfl, rfl, Nat.le_of_ble_eq_true (by kernel_rfl), cx52 a0 a1 a2, Eq.mp (by kernel_rfl) htt, Eq.mp (by kernel_rfl) da52, Eq.mp (by kernel_rfl) (noM_sound (P := Tryz.prog)), by kernel_rfl, [.int .i64 (a0), .int .i64 (a1), .int .i64 (a2)], args_of_vles (⟨VLe.refl _, VLe.refl _, VLe.refl _, trivial⟩), Eq.mp (by kernel_rfl) (bd52 a0 a1 a2 (hob))⟩
  · cases hDe

/-! ### impl.isF -/
def pr55 (f : Int) : Prop := True
noncomputable def rs55 (f : Int) : V := .bool (decide (okF f))
noncomputable def sp55 : FSpec := fun args bin => match args, bin with
  | [.int .i64 a0], [] => some (pr55 a0, rs55 a0, [])
  | _, _ => none
noncomputable def D55 : Nat → Option (Bool × FSpec) := lk [(60, (false, sp60))]
theorem da55 : SoundAll Tryz.prog D55 := soundAll_cons so60 (soundAll_nil)
noncomputable def cx55 (f : Int) : Cx := ⟨tt, D55, Tryz.f55.ntmps, [0, 2], [], [], fun _ => none, [], noM, []⟩
theorem bd55 (f : Int) (hpre : pr55 f) : bodyP (cx55 f) Tryz.f55 0 [.int .i64 (f)] (fun rr => VLe rr (rs55 f)) := by
  have key :
      ((pr60 f (1 : Int) (2 : Int)) ∧
   (VLe (V.bool (decide (inR f (1 : Int) (2 : Int)))) (V.bool (decide (okF f))))) := by
    repeat (first | (refine And.intro (fun h _ => h) ?_) | (refine And.intro (fun _ h => h) ?_) | (refine And.intro ?aa ?_; case aa => (simp [pr60]; done)) | (refine And.intro ?aa ?_; case aa => (simp_all [pr60]; done)) | (refine And.intro ?aa ?_; case aa => (intros; exact inK64 (by omega))) | (refine And.intro ?aa ?_; case aa => (intros; simp only [decide_eq_true_eq] at *; omega)) | (intro q hq))
    subst_vars
    refine vle_bool ?_
    rw [Bool.eq_iff_iff]
    simp
    try simp only [inR, okF]
    try omega
  exact Eq.mp (by kernel_rfl) key
theorem so55 : Sound Tryz.prog 55 sp55 := by
  refine sound_of_body hmix (pol := 0) Tryz.func55 rfl (by kernel_rfl) fun args bin ob r bout hDe hob => ?_
  unfold sp55 at hDe
  split at hDe
  · rename_i a0
    cases hDe
    exact ⟨rfl, rfl, Nat.le_of_ble_eq_true (by kernel_rfl), cx55 a0, Eq.mp (by kernel_rfl) htt, Eq.mp (by kernel_rfl) da55, Eq.mp (by kernel_rfl) (noM_sound (P := Tryz.prog)), by kernel_rfl, [.int .i64 (a0)], args_of_vles (⟨VLe.refl _, trivial⟩), Eq.mp (by kernel_rfl) (bd55 a0 (hob))⟩
  · cases hDe

/-! ### spec.l8F -/
def pr95 (f : Int) : Prop := True
noncomputable def rs95 (f : Int) : V := .bool (decide (okF f))
noncomputable def sp95 : FSpec := fun args bin => match args, bin with
  | [.int .i64 a0], [] => some (pr95 a0, rs95 a0, [])
  | _, _ => none
noncomputable def D95 : Nat → Option (Bool × FSpec) := lk [(52, (false, sp52))]
theorem da95 : SoundAll Tryz.prog D95 := soundAll_cons so52 (soundAll_nil)
noncomputable def cx95 (f : Int) : Cx := ⟨tt, D95, Tryz.f95.ntmps, [0, 2], [], [], fun _ => none, [], noM, []⟩
theorem bd95 (f : Int) (hpre : pr95 f) : bodyP (cx95 f) Tryz.f95 0 [.int .i64 (f)] (fun rr => VLe rr (rs95 f)) := by
  have key :
      ((pr52 f (1 : Int) (2 : Int)) ∧
   (VLe (V.bool (decide (inR f (1 : Int) (2 : Int)))) (V.bool (decide (okF f))))) := by
    repeat (first | (refine And.intro (fun h _ => h) ?_) | (refine And.intro (fun _ h => h) ?_) | (refine And.intro ?aa ?_; case aa => (simp [pr52]; done)) | (refine And.intro ?aa ?_; case aa => (simp_all [pr52]; done)) | (refine And.intro ?aa ?_; case aa => (intros; exact inK64 (by omega))) | (refine And.intro ?aa ?_; case aa => (intros; simp only [decide_eq_true_eq] at *; omega)) | (intro q hq))
    subst_vars
    refine vle_bool ?_
    rw [Bool.eq_iff_iff]
    simp
    try simp only [inR, okF]
    try omega
  exact Eq.mp (by kernel_rfl) key
theorem so95 : Sound Tryz.prog 95 sp95 := by
  refine sound_of_body hmix (pol := 0) Tryz.func95 rfl (by kernel_rfl) fun args bin ob r bout hDe hob => ?_
  unfold sp95 at hDe
  split at hDe
  · rename_i a0
    cases hDe
    exact ⟨rfl, rfl, Nat.le_of_ble_eq_true (by kernel_rfl), cx95 a0, Eq.mp (by kernel_rfl) htt, Eq.mp (by kernel_rfl) da95, Eq.mp (by kernel_rfl) (noM_sound (P := Tryz.prog)), by kernel_rfl, [.int .i64 (a0)], args_of_vles (⟨VLe.refl _, trivial⟩), Eq.mp (by kernel_rfl) (bd95 a0 (hob))⟩
  · cases hDe

/-! ### impl.many -/
def pr57 (f : Int) : Prop := okF f
noncomputable def rs57 (f : Int) : V := .int .i64 (3 * f + 1)
noncomputable def sp57 : FSpec := fun args bin => match args, bin with
  | [.int .i64 a0], [] => some (pr57 a0, rs57 a0, [])
  | _, _ => none
noncomputable def D57 : Nat → Option (Bool × FSpec) := lk []
theorem da57 : SoundAll Tryz.prog D57 := soundAll_nil
noncomputable def cx57 (f : Int) : Cx := ⟨tt, D57, Tryz.f57.ntmps, [0, 2], [], [], fun _ => none, [], noM, []⟩
theorem bd57 (f : Int) (hpre : pr57 f) : bodyP (cx57 f) Tryz.f57 0 [.int .i64 (f)] (fun rr => VLe rr (rs57 f)) := by
  have key :
      ((inK IntKind.i64 ((3 : Int) * f)) ∧
   ((inK IntKind.i64 ((3 : Int) * f + (1 : Int))) ∧
   (VLe (V.int IntKind.i64 ((3 : Int) * f + (1 : Int))) (V.int IntKind.i64 ((3 : Int) * f + (1 : Int)))))) := by
    unfold pr57 okF at hpre
    exact ⟨inK64 (by omega), inK64 (by omega), VLe.refl _⟩
  exact Eq.mp (by kernel_rfl) key
theorem so57 : Sound Tryz.prog 57 sp57 := by
  refine sound_of_body hmix (pol := 0) Tryz.func57 rfl (by kernel_rfl) fun args bin ob r bout hDe hob => ?_
  unfold sp57 at hDe
  split at hDe
  · rename_i a0
    cases hDe
    exact ⟨rfl, rfl, Nat.le_of_ble_eq_true (by kernel_rfl), cx57 a0, Eq.mp (by kernel_rfl) htt, Eq.mp (by kernel_rfl) da57, Eq.mp (by kernel_rfl) (noM_sound (P := Tryz.prog)), by kernel_rfl, [.int .i64 (a0)], args_of_vles (⟨VLe.refl _, trivial⟩), Eq.mp (by kernel_rfl) (bd57 a0 (hob))⟩
  · cases hDe

/-! ### impl.isReplica -/
def pr77 (f : Int) (id : Int) : Prop := okF f
noncomputable def rs77 (f : Int) (id : Int) : V := .bool (decide (inR id 1 (3 * f + 1)))
noncomputable def sp77 : FSpec := fun args bin => match args, bin with
  | [.int .i64 a0, .int .i64 a1], [] => some (pr77 a0 a1, rs77 a0 a1, [])
  | _, _ => none
noncomputable def D77 : Nat → Option (Bool × FSpec) := lk [(57, (false, sp57)), (60, (false, sp60))]
theorem da77 : SoundAll Tryz.prog D77 := soundAll_cons so57 (soundAll_cons so60 (soundAll_nil))
noncomputable def cx77 (f : Int) (id : Int) : Cx := ⟨tt, D77, Tryz.f77.ntmps, [0, 1, 4], [], [], fun _ => none, [], noM, []⟩
theorem bd77 (f : Int) (id : Int) (hpre : pr77 f id) : bodyP (cx77 f id) Tryz.f77 0 [.int .i64 (f), .int .i64 (id)] (fun rr => VLe rr (rs77 f id)) := by
  have key :
      ((pr57 f) ∧
   ((pr60 id (1 : Int) ((3 : Int) * f + (1 : Int))) ∧
   (VLe (V.bool (decide (inR id (1 : Int) ((3 : Int) * f + (1 : Int)))))
   (V.bool (decide (inR id (1 : Int) ((3 : Int) * f + (1 : Int)))))))) := by
    exact ⟨hpre, trivial, VLe.refl _⟩
  exact Eq.mp (by kernel_rfl) key
theorem so77 : Sound Tryz.prog 77 sp77 := by
  refine sound_of_body hmix (pol := 0) Tryz.func77 rfl (by kernel_rfl) fun args bin ob r bout hDe hob => ?_
  unfold sp77 at hDe
  split at hDe
  · rename_i a0 a1
    cases hDe
    exact ⟨rfl, rfl, Nat.le_of_ble_eq_true (by kernel_rfl), cx77 a0 a1, Eq.mp (by kernel_rfl) htt, Eq.mp (by kernel_rfl) da77, Eq.mp (by kernel_rfl) (noM_sound (P := Tryz.prog)), by kernel_rfl, [.int .i64 (a0), .int .i64 (a1)], args_of_vles (⟨VLe.refl _, VLe.refl _, trivial⟩), Eq.mp (by kernel_rfl) (bd77 a0 a1 (hob))⟩
  · cases hDe

/-! ### spec.l8Id -/
def pr140 (f : Int) (id : Int) : Prop := okF f
noncomputable def rs140 (f : Int) (id : Int) : V := .bool (decide (inR id 1 (3 * f + 1)))
noncomputable def sp140 : FSpec := fun args bin => match args, bin with
  | [.int .i64 a0, .int .i64 a1], [] => some (pr140 a0 a1, rs140 a0 a1, [])
  | _, _ => none
noncomputable def D140 : Nat → Option (Bool × FSpec) := lk [(52, (false, sp52))]
theorem da140 : SoundAll Tryz.prog D140 := soundAll_cons so52 (soundAll_nil)
noncomputable def cx140 (f : Int) (id : Int) : Cx := ⟨tt, D140, Tryz.f140.ntmps, [0, 1, 4], [], [], fun _ => none, [], noM, []⟩
theorem bd140 (f : Int) (id : Int) (hpre : pr140 f id) : bodyP (cx140 f id) Tryz.f140 0 [.int .i64 (f), .int .i64 (id)] (fun rr => VLe rr (rs140 f id)) := by
  have key :
      ((inK IntKind.i64 ((3 : Int) * f)) ∧
   ((inK IntKind.i64 ((3 : Int) * f + (1 : Int))) ∧
   ((pr52 id (1 : Int) ((3 : Int) * f + (1 : Int))) ∧
   (VLe (V.bool (decide (inR id (1 : Int) ((3 : Int) * f + (1 : Int)))))
   (V.bool (decide (inR id (1 : Int) ((3 : Int) * f + (1 : Int))))))))) := by
    unfold pr140 okF at hpre
    exact ⟨inK64 (by omega), inK64 (by omega), trivial, VLe.refl _⟩
  exact Eq.mp (by kernel_rfl) key
theorem so140 : Sound Tryz.prog 140 sp140 := by
  refine sound_of_body hmix (pol := 0) Tryz.func140 rfl (by kernel_rfl) fun args bin ob r bout hDe hob => ?_
  unfold sp140 at hDe
  split at hDe
  · rename_i a0 a1
    cases hDe
    exact ⟨rfl, rfl, Nat.le_of_ble_eq_true (by kernel_rfl), cx140 a0 a1, Eq.mp (by kernel_rfl) htt, Eq.mp (by kernel_rfl) da140, Eq.mp (by kernel_rfl) (noM_sound (P := Tryz.prog)), by kernel_rfl, [.int .i64 (a0), .int .i64 (a1)], args_of_vles (⟨VLe.refl _, VLe.refl _, trivial⟩), Eq.mp (by kernel_rfl) (bd140 a0 a1 (hob))⟩
  · cases hDe

/-! ### impl.isView -/
def pr50 (n : Int) : Prop := True
noncomputable def rs50 (n : Int) : V := .bool (decide (inR n 0 20))
noncomputable def sp50 : FSpec := fun args bin => match args, bin with
  | [.int .i64 a0], [] => some (pr50 a0, rs50 a0, [])
  | _, _ => none
noncomputable def D50 : Nat → Option (Bool × FSpec) := lk [(60, (false, sp60))]
theorem da50 : SoundAll Tryz.prog D50 := soundAll_cons so60 (soundAll_nil)
noncomputable def cx50 (n : Int) : Cx := ⟨tt, D50, Tryz.f50.ntmps, [0, 2], [], [], fun _ => none, [], noM, []⟩
theorem bd50 (n : Int) (hpre : pr50 n) : bodyP (cx50 n) Tryz.f50 0 [.int .i64 (n)] (fun rr => VLe rr (rs50 n)) := by
  have key :
      ((pr60 n (0 : Int) (20 : Int)) ∧
   (VLe (V.bool (decide (inR n (0 : Int) (20 : Int)))) (V.bool (decide (inR n (0 : Int) (20 : Int)))))) := by
    exact ⟨trivial, VLe.refl _⟩
  exact Eq.mp (by kernel_rfl) key
theorem so50 : Sound Tryz.prog 50 sp50 := by
  refine sound_of_body hmix (pol := 0) Tryz.func50 rfl (by kernel_rfl) fun args bin ob r bout hDe hob => ?_
  unfold sp50 at hDe
  split at hDe
  · rename_i a0
    cases hDe
    exact ⟨rfl, rfl, Nat.le_of_ble_eq_true (by kernel_rfl), cx50 a0, Eq.mp (by kernel_rfl) htt, Eq.mp (by kernel_rfl) da50, Eq.mp (by kernel_rfl) (noM_sound (P := Tryz.prog)), by kernel_rfl, [.int .i64 (a0)], args_of_vles (⟨VLe.refl _, trivial⟩), Eq.mp (by kernel_rfl) (bd50 a0 (hob))⟩
  · cases hDe

/-! ### impl.isSlot -/
def pr116 (n : Int) : Prop := True
noncomputable def rs116 (n : Int) : V := .bool (decide (inR n 1 30))
noncomputable def sp116 : FSpec := fun args bin => match args, bin with
  | [.int .i64 a0], [] => some (pr116 a0, rs116 a0, [])
  | _, _ => none
noncomputable def D116 : Nat → Option (Bool × FSpec) := lk [(60, (false, sp60))]
theorem da116 : SoundAll Tryz.prog D116 := soundAll_cons so60 (soundAll_nil)
noncomputable def cx116 (n : Int) : Cx := ⟨tt, D116, Tryz.f116.ntmps, [0, 2], [], [], fun _ => none, [], noM, []⟩
theorem bd116 (n : Int) (hpre : pr116 n) : bodyP (cx116 n) Tryz.f116 0 [.int .i64 (n)] (fun rr => VLe rr (rs116 n)) := by
  have key :
      ((pr60 n (1 : Int) (30 : Int)) ∧
   (VLe (V.bool (decide (inR n (1 : Int) (30 : Int)))) (V.bool (decide (inR n (1 : Int) (30 : Int)))))) := by
    exact ⟨trivial, VLe.refl _⟩
  exact Eq.mp (by kernel_rfl) key
theorem so116 : Sound Tryz.prog 116 sp116 := by
  refine sound_of_body hmix (pol := 0) Tryz.func116 rfl (by kernel_rfl) fun args bin ob r bout hDe hob => ?_
  unfold sp116 at hDe
  split at hDe
  · rename_i a0
    cases hDe
    exact ⟨rfl, rfl, Nat.le_of_ble_eq_true (by kernel_rfl), cx116 a0, Eq.mp (by kernel_rfl) htt, Eq.mp (by kernel_rfl) da116, Eq.mp (by kernel_rfl) (noM_sound (P := Tryz.prog)), by kernel_rfl, [.int .i64 (a0)], args_of_vles (⟨VLe.refl _, trivial⟩), Eq.mp (by kernel_rfl) (bd116 a0 (hob))⟩
  · cases hDe

/-! ### impl.isValue -/
def pr117 (n : Int) : Prop := True
noncomputable def rs117 (n : Int) : V := .bool (decide (inR n 0 12))
noncomputable def sp117 : FSpec := fun args bin => match args, bin with
  | [.int .i64 a0], [] => some (pr117 a0, rs117 a0, [])
  | _, _ => none
noncomputable def D117 : Nat → Option (Bool × FSpec) := lk [(60, (false, sp60))]
theorem da117 : SoundAll Tryz.prog D117 := soundAll_cons so60 (soundAll_nil)
noncomputable def cx117 (n : Int) : Cx := ⟨tt, D117, Tryz.f117.ntmps, [0, 2], [], [], fun _ => none, [], noM, []⟩
theorem bd117 (n : Int) (hpre : pr117 n) : bodyP (cx117 n) Tryz.f117 0 [.int .i64 (n)] (fun rr => VLe rr (rs117 n)) := by
  have key :
      ((pr60 n (0 : Int) (12 : Int)) ∧
   (VLe (V.bool (decide (inR n (0 : Int) (12 : Int)))) (V.bool (decide (inR n (0 : Int) (12 : Int)))))) := by
    exact ⟨trivial, VLe.refl _⟩
  exact Eq.mp (by kernel_rfl) key
theorem so117 : Sound Tryz.prog 117 sp117 := by
  refine sound_of_body hmix (pol := 0) Tryz.func117 rfl (by kernel_rfl) fun args bin ob r bout hDe hob => ?_
  unfold sp117 at hDe
  split at hDe
  · rename_i a0
    cases hDe
    exact ⟨rfl, rfl, Nat.le_of_ble_eq_true (by kernel_rfl), cx117 a0, Eq.mp (by kernel_rfl) htt, Eq.mp (by kernel_rfl) da117, Eq.mp (by kernel_rfl) (noM_sound (P := Tryz.prog)), by kernel_rfl, [.int .i64 (a0)], args_of_vles (⟨VLe.refl _, trivial⟩), Eq.mp (by kernel_rfl) (bd117 a0 (hob))⟩
  · cases hDe

/-! ### impl.isSlotted -/
def pr123 (n : Int) : Prop := True
noncomputable def rs123 (n : Int) : V := .bool (decide (inR n 1 3))
noncomputable def sp123 : FSpec := fun args bin => match args, bin with
  | [.int .i64 a0], [] => some (pr123 a0, rs123 a0, [])
  | _, _ => none
noncomputable def D123 : Nat → Option (Bool × FSpec) := lk [(60, (false, sp60))]
theorem da123 : SoundAll Tryz.prog D123 := soundAll_cons so60 (soundAll_nil)
noncomputable def cx123 (n : Int) : Cx := ⟨tt, D123, Tryz.f123.ntmps, [0, 2], [], [], fun _ => none, [], noM, []⟩
theorem bd123 (n : Int) (hpre : pr123 n) : bodyP (cx123 n) Tryz.f123 0 [.int .i64 (n)] (fun rr => VLe rr (rs123 n)) := by
  have key :
      ((pr60 n (1 : Int) (3 : Int)) ∧
   (VLe (V.bool (decide (inR n (1 : Int) (3 : Int)))) (V.bool (decide (inR n (1 : Int) (3 : Int)))))) := by
    exact ⟨trivial, VLe.refl _⟩
  exact Eq.mp (by kernel_rfl) key
theorem so123 : Sound Tryz.prog 123 sp123 := by
  refine sound_of_body hmix (pol := 0) Tryz.func123 rfl (by kernel_rfl) fun args bin ob r bout hDe hob => ?_
  unfold sp123 at hDe
  split at hDe
  · rename_i a0
    cases hDe
    exact ⟨rfl, rfl, Nat.le_of_ble_eq_true (by kernel_rfl), cx123 a0, Eq.mp (by kernel_rfl) htt, Eq.mp (by kernel_rfl) da123, Eq.mp (by kernel_rfl) (noM_sound (P := Tryz.prog)), by kernel_rfl, [.int .i64 (a0)], args_of_vles (⟨VLe.refl _, trivial⟩), Eq.mp (by kernel_rfl) (bd123 a0 (hob))⟩
  · cases hDe

/-! ### spec.l8Bare -/
def pr153 (m : Msg) : Prop := True
noncomputable def rs153 (m : Msg) : V := .bool (decide (bare m))
noncomputable def sp153 : FSpec := fun args bin => match args, bin with
  | [a0], [] => some (VLe a0 (encPMsg 1 ((decPMsg a0))) ∧ pr153 (decPMsg a0), rs153 (decPMsg a0), [])
  | _, _ => none
noncomputable def D153 : Nat → Option (Bool × FSpec) := lk [(52, (false, sp52))]
theorem da153 : SoundAll Tryz.prog D153 := soundAll_cons so52 (soundAll_nil)
noncomputable def cx153 (m : Msg) : Cx := ⟨tt, D153, Tryz.f153.ntmps, [0, 2, 3], [], [], fun _ => none, [], noM, []⟩
theorem bd153 (m : Msg) (hpre : pr153 m) : bodyP (cx153 m) Tryz.f153 0 [encPMsg 1 (m)] (fun rr => VLe rr (rs153 m)) := by
  have key :
      ((pr52 (Msg.kind m) (1 : Int) (3 : Int)) ∧
   ((pr52 (Msg.kind m) (1 : Int) (5 : Int)) ∧
   ((tq (decide (inR (Msg.kind m) (1 : Int) (5 : Int)))) ∧
   ((tq (decide (inR (Msg.kind m) (1 : Int) (5 : Int)) && !decide (inR (Msg.kind m) (1 : Int) (3 : Int)))) ∧
   ((tq (decide (inR (Msg.kind m) (1 : Int) (5 : Int)) && !decide (inR (Msg.kind m) (1 : Int) (3 : Int)))) ∧
   ((tq (decide (inR (Msg.kind m) (1 : Int) (5 : Int)) && !decide (inR (Msg.kind m) (1 : Int) (3 : Int)))) ∧
   ((tq (decide (inR (Msg.kind m) (1 : Int) (5 : Int)) && !decide (inR (Msg.kind m) (1 : Int) (3 : Int)))) ∧
   ((tq (decide (inR (Msg.kind m) (1 : Int) (5 : Int)) && !decide (inR (Msg.kind m) (1 : Int) (3 : Int)))) ∧
   ((tq (decide (inR (Msg.kind m) (1 : Int) (5 : Int)) && !decide (inR (Msg.kind m) (1 : Int) (3 : Int)) &&
   Msg.slot m == (0 : Int))) ∧
   ((tq (decide (inR (Msg.kind m) (1 : Int) (5 : Int)) && !decide (inR (Msg.kind m) (1 : Int) (3 : Int)) &&
   Msg.slot m == (0 : Int))) ∧
   ((tq (decide (inR (Msg.kind m) (1 : Int) (5 : Int)) && !decide (inR (Msg.kind m) (1 : Int) (3 : Int)) &&
   Msg.slot m == (0 : Int))) ∧
   ((tq (decide (inR (Msg.kind m) (1 : Int) (5 : Int)) && !decide (inR (Msg.kind m) (1 : Int) (3 : Int)) &&
   Msg.slot m == (0 : Int))) ∧
   ((tq (decide (inR (Msg.kind m) (1 : Int) (5 : Int)) && !decide (inR (Msg.kind m) (1 : Int) (3 : Int)))) ∧
   ((((decide (inR (Msg.kind m) (1 : Int) (5 : Int)) && !decide (inR (Msg.kind m) (1 : Int) (3 : Int))) = true) →
   (((decide (inR (Msg.kind m) (1 : Int) (5 : Int)) && !decide (inR (Msg.kind m) (1 : Int) (3 : Int))) = true) →
   (((Msg.slot m == (0 : Int)) = true) →
   ((decide (inR (Msg.kind m) (1 : Int) (5 : Int)) && !decide (inR (Msg.kind m) (1 : Int) (3 : Int)) &&
   Msg.slot m == (0 : Int)) =
   true)))) ∧
   (∀ b : Bool,
   ((b = bif Msg.slot m == (0 : Int) then Msg.value m == (0 : Int) else false) →
   ((tq (decide (inR (Msg.kind m) (1 : Int) (5 : Int)))) ∧
   (((decide (inR (Msg.kind m) (1 : Int) (5 : Int)) = true) →
   ((decide (inR (Msg.kind m) (1 : Int) (5 : Int)) = true) →
   ((decide (inR (Msg.kind m) (1 : Int) (3 : Int)) = false) →
   ((decide (inR (Msg.kind m) (1 : Int) (5 : Int)) && !decide (inR (Msg.kind m) (1 : Int) (3 : Int))) = true)))) ∧
   (∀ b_1 : Bool,
   ((b_1 = bif decide (inR (Msg.kind m) (1 : Int) (3 : Int)) then true else b) →
   (((true = true) →
   ((decide (inR (Msg.kind m) (1 : Int) (5 : Int)) = true) →
   (decide (inR (Msg.kind m) (1 : Int) (5 : Int)) = true))) ∧
   (∀ b_2 : Bool,
   ((b_2 = bif decide (inR (Msg.kind m) (1 : Int) (5 : Int)) then b_1 else false) →
   ((tq (b_2)) ∧
   ((tq (b_2)) ∧
   ((tq (b_2)) ∧
   ((tq (b_2)) ∧
   ((tq (b_2)) ∧
   ((tq (b_2 && !Msg.kind m == (4 : Int))) ∧
   ((tq (b_2 && !Msg.kind m == (4 : Int))) ∧
   ((tq (b_2 && !Msg.kind m == (4 : Int))) ∧
   ((tq (b_2 && !Msg.kind m == (4 : Int))) ∧
   ((tq (b_2 && !Msg.kind m == (4 : Int))) ∧
   ((tq (b_2)) ∧
   (((b_2 = true) →
   ((b_2 = true) →
   (((Msg.kind m == (4 : Int)) = false) →
   ((b_2 && !Msg.kind m == (4 : Int)) = true)))) ∧
   (∀ b_3 : Bool,
   ((b_3 = bif Msg.kind m == (4 : Int) then true else (↑(List.length (Msg.certs m)) : Int) == (0 : Int)) →
   (((true = true) →
   ((b_2 = true) →
   (b_2 = true))) ∧
   (∀ b_4 : Bool,
   ((b_4 = bif b_2 then b_3 else false) →
   ((tq (b_4)) ∧
   ((tq (b_4)) ∧
   ((tq (b_4)) ∧
   ((tq (b_4)) ∧
   ((tq (b_4)) ∧
   ((tq (b_4 && !Msg.kind m == (5 : Int))) ∧
   ((tq (b_4 && !Msg.kind m == (5 : Int))) ∧
   ((tq (b_4 && !Msg.kind m == (5 : Int))) ∧
   ((tq (b_4 && !Msg.kind m == (5 : Int))) ∧
   ((tq (b_4 && !Msg.kind m == (5 : Int))) ∧
   ((tq (b_4)) ∧
   (((b_4 = true) →
   ((b_4 = true) →
   (((Msg.kind m == (5 : Int)) = false) →
   ((b_4 && !Msg.kind m == (5 : Int)) = true)))) ∧
   (∀ b_5 : Bool,
   ((b_5 = bif Msg.kind m == (5 : Int) then true else (↑(List.length (Msg.refs m)) : Int) == (0 : Int)) →
   (((true = true) →
   ((b_4 = true) →
   (b_4 = true))) ∧
   (∀ b_6 : Bool,
   ((b_6 = bif b_4 then b_5 else false) →
   (VLe (V.bool b_6) (V.bool (decide (bare m))))))))))))))))))))))))))))))))))))))))))))))))))))))))))))) := by
    repeat (first | (refine And.intro (fun h _ => h) ?_) | (refine And.intro (fun _ h => h) ?_) | (refine And.intro ?aa ?_; case aa => (simp [pr52]; done)) | (refine And.intro ?aa ?_; case aa => (simp_all [pr52]; done)) | (refine And.intro ?aa ?_; case aa => (intros; exact inK64 (by omega))) | (refine And.intro ?aa ?_; case aa => (intros; simp only [decide_eq_true_eq] at *; omega)) | (intro q hq))
    subst_vars
    refine vle_bool ?_
    rw [Bool.eq_iff_iff]
    simp
    try simp only [bare, inR, List.length_eq_zero_iff, and_assoc]
    try omega
  exact Eq.mp (by kernel_rfl) key
theorem so153 : Sound Tryz.prog 153 sp153 := by
  refine sound_of_body hmix (pol := 0) Tryz.func153 rfl (by kernel_rfl) fun args bin ob r bout hDe hob => ?_
  unfold sp153 at hDe
  split at hDe
  · rename_i a0
    cases hDe
    exact ⟨rfl, rfl, Nat.le_of_ble_eq_true (by kernel_rfl), cx153 (decPMsg a0), Eq.mp (by kernel_rfl) htt, Eq.mp (by kernel_rfl) da153, Eq.mp (by kernel_rfl) (noM_sound (P := Tryz.prog)), by kernel_rfl, [encPMsg 1 ((decPMsg a0))], args_of_vles (⟨hob.1, trivial⟩), Eq.mp (by kernel_rfl) (bd153 (decPMsg a0) (hob.2))⟩
  · cases hDe

/-! ### impl.msgFault$1 -/
def pr124 (c : Cert) (m : Msg) : Prop := inR m.view 0 20
noncomputable def rs124 (c : Cert) (m : Msg) : V := .bool (decide (¬ goodC m c))
noncomputable def sp124 : FSpec := fun args bin => match args, bin with
  | [a0, a1], [] => some (VLe a0 (encCert 1 ((decCert a0))) ∧ VLe a1 (encPMsg 1 ((decPMsg a1))) ∧ pr124 (decCert a0) (decPMsg a1), rs124 (decCert a0) (decPMsg a1), [])
  | _, _ => none
noncomputable def D124 : Nat → Option (Bool × FSpec) := lk [(60, (false, sp60)), (116, (false, sp116)), (117, (false, sp117))]
theorem da124 : SoundAll Tryz.prog D124 := soundAll_cons so60 (soundAll_cons so116 (soundAll_cons so117 (soundAll_nil)))
noncomputable def cx124 (c : Cert) (m : Msg) : Cx := ⟨tt, D124, Tryz.f124.ntmps, [0, 1, 2, 3], [], [], fun _ => none, [], noM, []⟩
theorem bd124 (c : Cert) (m : Msg) (hpre : pr124 c m) : bodyP (cx124 c m) Tryz.f124 0 [encCert 1 (c), encPMsg 1 (m)] (fun rr => VLe rr (rs124 c m)) := by
  have key :
      ((pr116 (Cert.slot c)) ∧
   ((tq (!!decide (inR (Cert.slot c) (1 : Int) (30 : Int)))) ∧
   ((tq (!!decide (inR (Cert.slot c) (1 : Int) (30 : Int)))) ∧
   ((tq (!!decide (inR (Cert.slot c) (1 : Int) (30 : Int)))) ∧
   ((((!!decide (inR (Cert.slot c) (1 : Int) (30 : Int))) = true) →
   (inK IntKind.i64 (Msg.view m - (1 : Int)))) ∧
   ((tq (!!decide (inR (Cert.slot c) (1 : Int) (30 : Int)))) ∧
   ((tq (!!decide (inR (Cert.slot c) (1 : Int) (30 : Int)))) ∧
   ((((!!decide (inR (Cert.slot c) (1 : Int) (30 : Int))) = true) →
   (pr60 (Cert.view c) (0 : Int) (Msg.view m - (1 : Int)))) ∧
   ((tq (!!decide (inR (Cert.slot c) (1 : Int) (30 : Int)))) ∧
   (((true = true) →
   (((!decide (inR (Cert.slot c) (1 : Int) (30 : Int))) = false) →
   ((!!decide (inR (Cert.slot c) (1 : Int) (30 : Int))) = true))) ∧
   (∀ b : Bool,
   ((b =
   bif !decide (inR (Cert.slot c) (1 : Int) (30 : Int)) then true
   else !decide (inR (Cert.view c) (0 : Int) (Msg.view m - (1 : Int)))) →
   ((tq (!b)) ∧
   ((tq (!b)) ∧
   ((((!b) = true) →
   (pr117 (Cert.value c))) ∧
   ((tq (!b)) ∧
   (((true = true) →
   ((b = false) →
   ((!b) = true))) ∧
   (∀ b_1 : Bool,
   ((b_1 = bif b then true else !decide (inR (Cert.value c) (0 : Int) (12 : Int))) →
   (VLe (V.bool b_1) (V.bool (decide ¬goodC m c)))))))))))))))))))))) := by
    unfold pr124 inR at hpre
    repeat (first | (refine And.intro (fun h _ => h) ?_) | (refine And.intro (fun _ h => h) ?_) | (refine And.intro ?aa ?_; case aa => (simp [pr60, pr116, pr117]; done)) | (refine And.intro ?aa ?_; case aa => (simp_all [pr60, pr116, pr117]; done)) | (refine And.intro ?aa ?_; case aa => (intros; exact inK64 (by omega))) | (refine And.intro ?aa ?_; case aa => (intros; simp only [decide_eq_true_eq] at *; omega)) | (intro q hq))
    subst_vars
    refine vle_bool ?_
    rw [Bool.eq_iff_iff]
    simp
    try simp only [goodC, inR]
    try omega
  exact Eq.mp (by kernel_rfl) key
theorem so124 : Sound Tryz.prog 124 sp124 := by
  refine sound_of_body hmix (pol := 0) Tryz.func124 rfl (by kernel_rfl) fun args bin ob r bout hDe hob => ?_
  unfold sp124 at hDe
  split at hDe
  · rename_i a0 a1
    cases hDe
    exact ⟨rfl, rfl, Nat.le_of_ble_eq_true (by kernel_rfl), cx124 (decCert a0) (decPMsg a1), Eq.mp (by kernel_rfl) htt, Eq.mp (by kernel_rfl) da124, Eq.mp (by kernel_rfl) (noM_sound (P := Tryz.prog)), by kernel_rfl, [encCert 1 ((decCert a0)), encPMsg 1 ((decPMsg a1))], args_of_vles (⟨hob.1, hob.2.1, trivial⟩), Eq.mp (by kernel_rfl) (bd124 (decCert a0) (decPMsg a1) (hob.2.2))⟩
  · cases hDe

/-! ### impl.msgFault$2 -/
def pr125 (r : Int) : Prop := True
noncomputable def rs125 (r : Int) : V := .bool (decide (¬ goodR r))
noncomputable def sp125 : FSpec := fun args bin => match args, bin with
  | [.int .i64 a0], [] => some (pr125 a0, rs125 a0, [])
  | _, _ => none
noncomputable def D125 : Nat → Option (Bool × FSpec) := lk [(60, (false, sp60))]
theorem da125 : SoundAll Tryz.prog D125 := soundAll_cons so60 (soundAll_nil)
noncomputable def cx125 (r : Int) : Cx := ⟨tt, D125, Tryz.f125.ntmps, [0, 2], [], [], fun _ => none, [], noM, []⟩
theorem bd125 (r : Int) (hpre : pr125 r) : bodyP (cx125 r) Tryz.f125 0 [.int .i64 (r)] (fun rr => VLe rr (rs125 r)) := by
  have key :
      ((pr60 r (0 : Int) (239 : Int)) ∧
   (VLe (V.bool !decide (inR r (0 : Int) (239 : Int))) (V.bool (decide ¬goodR r)))) := by
    repeat (first | (refine And.intro (fun h _ => h) ?_) | (refine And.intro (fun _ h => h) ?_) | (refine And.intro ?aa ?_; case aa => (simp [pr60]; done)) | (refine And.intro ?aa ?_; case aa => (simp_all [pr60]; done)) | (refine And.intro ?aa ?_; case aa => (intros; exact inK64 (by omega))) | (refine And.intro ?aa ?_; case aa => (intros; simp only [decide_eq_true_eq] at *; omega)) | (intro q hq))
    subst_vars
    refine vle_bool ?_
    rw [Bool.eq_iff_iff]
    simp
    try simp only [goodR, inR]
    try omega
  exact Eq.mp (by kernel_rfl) key
theorem so125 : Sound Tryz.prog 125 sp125 := by
  refine sound_of_body hmix (pol := 0) Tryz.func125 rfl (by kernel_rfl) fun args bin ob r bout hDe hob => ?_
  unfold sp125 at hDe
  split at hDe
  · rename_i a0
    cases hDe
    exact ⟨rfl, rfl, Nat.le_of_ble_eq_true (by kernel_rfl), cx125 a0, Eq.mp (by kernel_rfl) htt, Eq.mp (by kernel_rfl) da125, Eq.mp (by kernel_rfl) (noM_sound (P := Tryz.prog)), by kernel_rfl, [.int .i64 (a0)], args_of_vles (⟨VLe.refl _, trivial⟩), Eq.mp (by kernel_rfl) (bd125 a0 (hob))⟩
  · cases hDe

/-! ### slices.IndexFunc(()loop.example/g00369/impl.Cert,loop.example/g00369/impl.Cert)@impl.msgFault$1 -/
def pr138_124 (xs : List Cert) (m : Msg) : Prop := xs.length ≤ maxLen ∧ (inR m.view 0 20)
noncomputable def rs138_124 (xs : List Cert) (m : Msg) : V := .int .i64 (idxF (fun c => decide (¬ goodC m c)) xs)
noncomputable def sp138_124 : FSpec := fun args bin => match args, bin with
  | [a0, .fn 124 [a1]], [] => some (VLe a0 (encL (encCert 1) 1 (((decL decCert) a0))) ∧ VLe a1 (encPMsg 1 ((decPMsg a1))) ∧ pr138_124 ((decL decCert) a0) (decPMsg a1), rs138_124 ((decL decCert) a0) (decPMsg a1), [])
  | _, _ => none
noncomputable def in138_124_2 (xs : List Cert) (m : Msg) : LoopInv :=
  ⟨Nat, fun i => ⟨[(0, encL (encCert 1) 1 xs), (1, .fn 124 [encPMsg 1 (m)]), (7, .int .i64 xs.length), (8, .int .i64 i)], []⟩,
    fun i => i ≤ xs.length ∧ ∀ j, j < i → (fun c => decide (¬ goodC m c)) (xs.getD j default) = false, fun i => xs.length - i⟩
noncomputable def iv138_124 (xs : List Cert) (m : Msg) : Nat → Option LoopInv := fun rg_ => match rg_ with
  | 2 => some (in138_124_2 xs m)
  | _ => none
noncomputable def D138_124 : Nat → Option (Bool × FSpec) := lk [(124, (false, sp124))]
theorem da138_124 : SoundAll Tryz.prog D138_124 := soundAll_cons so124 (soundAll_nil)
noncomputable def cx138_124 (xs : List Cert) (m : Msg) : Cx := ⟨tt, D138_124, Tryz.f138.ntmps, [0, 1, 4, 5, 7, 8, 9, 16], [(2, ⟨[(0, none), (1, none), (7, none), (8, none)], []⟩)], [], iv138_124 xs m, [], noM, []⟩
theorem bd138_124 (xs : List Cert) (m : Msg) (hpre : pr138_124 xs m) : bodyP (cx138_124 xs m) Tryz.f138 0 [encL (encCert 1) 1 (xs), .fn 124 [encPMsg 1 (m)]] (fun rr => VLe rr (rs138_124 xs m)) := by
  have key :
      ((∃ x : Nat, ((SLe
   (AS.mk
   [(0, encL (encCert 1) 1 xs), (1, V.fn (124 : FuncId) [encPMsg 1 m]),
   (7, V.int IntKind.i64 (↑(List.length xs) : Int)), (8, V.int IntKind.i64 (0 : Int))]
   [])
   (AS.mk
   [(0, encL (encCert 1) 1 xs), (1, V.fn (124 : FuncId) [encPMsg 1 m]),
   (7, V.int IntKind.i64 (↑(List.length xs) : Int)), (8, V.int IntKind.i64 (↑x : Int))]
   [])) ∧
   ((x ≤ List.length xs) ∧
   (∀ j : Nat,
   ((j < x) →
   ((decide ¬goodC m (List.getD xs j default)) = false)))))) ∧
   (∀ x : Nat,
   (((x ≤ List.length xs) ∧
   (∀ j : Nat,
   ((j < x) →
   ((decide ¬goodC m (List.getD xs j default)) = false)))) →
   (((decide ((↑x : Int) < (↑(List.length xs) : Int)) = true) →
   ((((0 : Int) ≤ (↑x : Int)) ∧
   ((↑x : Int) < (↑(List.length xs) : Int))) ∧
   (((VLe (encCert 1 (List.getD xs (Int.toNat (↑x : Int)) default))
   (encCert 1 (decCert (encCert 1 (List.getD xs (Int.toNat (↑x : Int)) default))))) ∧
   ((VLe (encPMsg 1 m) (encPMsg 1 (decPMsg (encPMsg 1 m)))) ∧
   (pr124 (decCert (encCert 1 (List.getD xs (Int.toNat (↑x : Int)) default))) (decPMsg (encPMsg 1 m))))) ∧
   ((((decide
   ¬goodC (decPMsg (encPMsg 1 m))
   (decCert (encCert 1 (List.getD xs (Int.toNat (↑x : Int)) default)))) =
   true) →
   (VLe (V.int IntKind.i64 (↑x : Int)) (V.int IntKind.i64 (idxF (fun (c : Cert) ↦ decide ¬goodC m c) xs)))) ∧
   (((decide
   ¬goodC (decPMsg (encPMsg 1 m))
   (decCert (encCert 1 (List.getD xs (Int.toNat (↑x : Int)) default)))) =
   false) →
   ((inK IntKind.i64 ((↑x : Int) + (1 : Int))) ∧
   (∃ y : Nat, ((SLe
   (AS.mk
   [(0, encL (encCert 1) 1 xs), (1, V.fn (124 : FuncId) [encPMsg 1 m]),
   (7, V.int IntKind.i64 (↑(List.length xs) : Int)), (8, V.int IntKind.i64 ((↑x : Int) + (1 : Int)))]
   [])
   (AS.mk
   [(0, encL (encCert 1) 1 xs), (1, V.fn (124 : FuncId) [encPMsg 1 m]),
   (7, V.int IntKind.i64 (↑(List.length xs) : Int)), (8, V.int IntKind.i64 (↑y : Int))]
   [])) ∧
   (((y ≤ List.length xs) ∧
   (∀ j : Nat,
   ((j < y) →
   ((decide ¬goodC m (List.getD xs j default)) = false)))) ∧
   (List.length xs - y < List.length xs - x)))))))))) ∧
   ((decide ((↑x : Int) < (↑(List.length xs) : Int)) = false) →
   (VLe (V.int IntKind.i64 (-1 : Int)) (V.int IntKind.i64 (idxF (fun (c : Cert) ↦ decide ¬goodC m c) xs)))))))) := by
    obtain ⟨hlen, hp⟩ := hpre
    unfold maxLen at hlen
    refine ⟨⟨0, SLe.refl _, by omega, fun j hj => absurd hj (Nat.not_lt_zero j)⟩, ?_⟩
    rintro i ⟨hi, hj⟩
    refine ⟨fun h => ?_, fun h => ?_⟩
    · have hlt : i < xs.length := by simpa using h
      have hin : xs.getD i default ∈ xs := by simp [hlt]
      simp only [Int.toNat_natCast, dec_encCert, dec_encPMsg, dec_encPInt, decL_Msg]
      refine ⟨⟨by omega, by omega⟩, ⟨VLe.refl _, VLe.refl _, hp⟩, fun h2 => vle_int (idxF_some hlt hj h2).symm, fun h2 => ⟨inK64 (by omega), i + 1, SLe.refl _, ⟨by omega, fun j h3 => ?_⟩, by omega⟩⟩
      rcases Nat.lt_or_ge j i with h4 | h4
      · exact hj j h4
      · have : j = i := by omega
        subst this
        exact h2
    · have hge : i = xs.length := by simp at h; omega
      exact vle_int (idxF_none fun j h3 => hj j (by omega)).symm
  exact Eq.mp (by kernel_rfl) key
theorem so138_124 : Sound Tryz.prog 138 sp138_124 := by
  refine sound_of_body hmix (pol := 0) Tryz.func138 rfl (by kernel_rfl) fun args bin ob r bout hDe hob => ?_
  unfold sp138_124 at hDe
  split at hDe
  · rename_i a0 a1
    cases hDe
    exact ⟨rfl, rfl, Nat.le_of_ble_eq_true (by kernel_rfl), cx138_124 ((decL decCert) a0) (decPMsg a1), Eq.mp (by kernel_rfl) htt, Eq.mp (by kernel_rfl) da138_124, Eq.mp (by kernel_rfl) (noM_sound (P := Tryz.prog)), by kernel_rfl, [encL (encCert 1) 1 (((decL decCert) a0)), .fn 124 [encPMsg 1 ((decPMsg a1))]], args_of_vles (⟨hob.1, vle_fn ⟨hob.2.1, trivial⟩, trivial⟩), Eq.mp (by kernel_rfl) (bd138_124 ((decL decCert) a0) (decPMsg a1) (hob.2.2))⟩
  · cases hDe

/-! ### slices.ContainsFunc(()loop.example/g00369/impl.Cert,loop.example/g00369/impl.Cert)@impl.msgFault$1 -/
def pr100_124 (xs : List Cert) (m : Msg) : Prop := xs.length ≤ maxLen ∧ (inR m.view 0 20)
noncomputable def rs100_124 (xs : List Cert) (m : Msg) : V := .bool (xs.any (fun c => decide (¬ goodC m c)))
noncomputable def sp100_124 : FSpec := fun args bin => match args, bin with
  | [a0, .fn 124 [a1]], [] => some (VLe a0 (encL (encCert 1) 1 (((decL decCert) a0))) ∧ VLe a1 (encPMsg 1 ((decPMsg a1))) ∧ pr100_124 ((decL decCert) a0) (decPMsg a1), rs100_124 ((decL decCert) a0) (decPMsg a1), [])
  | _, _ => none
noncomputable def D100_124 : Nat → Option (Bool × FSpec) := lk [(138, (false, sp138_124))]
theorem da100_124 : SoundAll Tryz.prog D100_124 := soundAll_cons so138_124 (soundAll_nil)
noncomputable def cx100_124 (xs : List Cert) (m : Msg) : Cx := ⟨tt, D100_124, Tryz.f100.ntmps, [0, 1, 4], [], [], fun _ => none, [], noM, []⟩
theorem bd100_124 (xs : List Cert) (m : Msg) (hpre : pr100_124 xs m) : bodyP (cx100_124 xs m) Tryz.f100 0 [encL (encCert 1) 1 (xs), .fn 124 [encPMsg 1 (m)]] (fun rr => VLe rr (rs100_124 xs m)) := by
  have key :
      (((VLe (encL (encCert 1) 1 xs)
   (encL (encCert 1) 1 (decL decCert (encL (encCert 1) 1 xs)))) ∧
   ((VLe (encPMsg 1 m) (encPMsg 1 (decPMsg (encPMsg 1 m)))) ∧
   (pr138_124 (decL decCert (encL (encCert 1) 1 xs)) (decPMsg (encPMsg 1 m))))) ∧
   (VLe
   (V.bool
   (decide
   (idxF (fun (c : Cert) ↦ decide ¬goodC (decPMsg (encPMsg 1 m)) c)
   (decL decCert (encL (encCert 1) 1 xs)) ≥
   (0 : Int))))
   (V.bool (List.any xs fun (c : Cert) ↦ decide ¬goodC m c)))) := by
    simp only [decL_ints, decL_Cert, dec_encPMsg, dec_encMsg, dec_encPInt, decL_Msg]
    refine ⟨?_, vle_bool (idxF_nonneg _ _)⟩
    repeat' (first | exact VLe.refl _ | exact hpre | apply And.intro)
  exact Eq.mp (by kernel_rfl) key
theorem so100_124 : Sound Tryz.prog 100 sp100_124 := by
  refine sound_of_body hmix (pol := 0) Tryz.func100 rfl (by kernel_rfl) fun args bin ob r bout hDe hob => ?_
  unfold sp100_124 at hDe
  split at hDe
  · rename_i a0 a1
    cases hDe
    exact ⟨rfl, rfl, Nat.le_of_ble_eq_true (by kernel_rfl), cx100_124 ((decL decCert) a0) (decPMsg a1), Eq.mp (by kernel_rfl) htt, Eq.mp (by kernel_rfl) da100_124, Eq.mp (by kernel_rfl) (noM_sound (P := Tryz.prog)), by kernel_rfl, [encL (encCert 1) 1 (((decL decCert) a0)), .fn 124 [encPMsg 1 ((decPMsg a1))]], args_of_vles (⟨hob.1, vle_fn ⟨hob.2.1, trivial⟩, trivial⟩), Eq.mp (by kernel_rfl) (bd100_124 ((decL decCert) a0) (decPMsg a1) (hob.2.2))⟩
  · cases hDe

/-! ### slices.IndexFunc(()int64,int64)@impl.msgFault$2 -/
def pr103_125 (xs : List Int) : Prop := xs.length ≤ maxLen ∧ (True)
noncomputable def rs103_125 (xs : List Int) : V := .int .i64 (idxF (fun r => decide (¬ goodR r)) xs)
noncomputable def sp103_125 : FSpec := fun args bin => match args, bin with
  | [a0, .fn 125 []], [] => some (VLe a0 (encL encI 1 (((decL decI) a0))) ∧ pr103_125 ((decL decI) a0), rs103_125 ((decL decI) a0), [])
  | _, _ => none
noncomputable def in103_125_2 (xs : List Int) : LoopInv :=
  ⟨Nat, fun i => ⟨[(0, encL encI 1 xs), (1, .fn 125 []), (7, .int .i64 xs.length), (8, .int .i64 i)], []⟩,
    fun i => i ≤ xs.length ∧ ∀ j, j < i → (fun r => decide (¬ goodR r)) (xs.getD j default) = false, fun i => xs.length - i⟩
noncomputable def iv103_125 (xs : List Int) : Nat → Option LoopInv := fun rg_ => match rg_ with
  | 2 => some (in103_125_2 xs)
  | _ => none
noncomputable def D103_125 : Nat → Option (Bool × FSpec) := lk [(125, (false, sp125))]
theorem da103_125 : SoundAll Tryz.prog D103_125 := soundAll_cons so125 (soundAll_nil)
noncomputable def cx103_125 (xs : List Int) : Cx := ⟨tt, D103_125, Tryz.f103.ntmps, [0, 1, 4, 5, 7, 8, 9, 16], [(2, ⟨[(0, none), (1, none), (7, none), (8, none)], []⟩)], [], iv103_125 xs, [], noM, []⟩
theorem bd103_125 (xs : List Int) (hpre : pr103_125 xs) : bodyP (cx103_125 xs) Tryz.f103 0 [encL encI 1 (xs), .fn 125 []] (fun rr => VLe rr (rs103_125 xs)) := by
  have key :
      ((∃ x : Nat, ((SLe
   (AS.mk
   [(0, encL encI 1 xs), (1, V.fn (125 : FuncId) []),
   (7, V.int IntKind.i64 (↑(List.length xs) : Int)), (8, V.int IntKind.i64 (0 : Int))]
   [])
   (AS.mk
   [(0, encL encI 1 xs), (1, V.fn (125 : FuncId) []),
   (7, V.int IntKind.i64 (↑(List.length xs) : Int)), (8, V.int IntKind.i64 (↑x : Int))]
   [])) ∧
   ((x ≤ List.length xs) ∧
   (∀ j : Nat,
   ((j < x) →
   ((decide ¬goodR (List.getD xs j default)) = false)))))) ∧
   (∀ x : Nat,
   (((x ≤ List.length xs) ∧
   (∀ j : Nat,
   ((j < x) →
   ((decide ¬goodR (List.getD xs j default)) = false)))) →
   (((decide ((↑x : Int) < (↑(List.length xs) : Int)) = true) →
   ((((0 : Int) ≤ (↑x : Int)) ∧
   ((↑x : Int) < (↑(List.length xs) : Int))) ∧
   ((pr125 (List.getD xs (Int.toNat (↑x : Int)) default)) ∧
   ((((decide ¬goodR (List.getD xs (Int.toNat (↑x : Int)) default)) = true) →
   (VLe (V.int IntKind.i64 (↑x : Int)) (V.int IntKind.i64 (idxF (fun (r : Int) ↦ decide ¬goodR r) xs)))) ∧
   (((decide ¬goodR (List.getD xs (Int.toNat (↑x : Int)) default)) = false) →
   ((inK IntKind.i64 ((↑x : Int) + (1 : Int))) ∧
   (∃ y : Nat, ((SLe
   (AS.mk
   [(0, encL encI 1 xs), (1, V.fn (125 : FuncId) []),
   (7, V.int IntKind.i64 (↑(List.length xs) : Int)), (8, V.int IntKind.i64 ((↑x : Int) + (1 : Int)))]
   [])
   (AS.mk
   [(0, encL encI 1 xs), (1, V.fn (125 : FuncId) []),
   (7, V.int IntKind.i64 (↑(List.length xs) : Int)), (8, V.int IntKind.i64 (↑y : Int))]
   [])) ∧
   (((y ≤ List.length xs) ∧
   (∀ j : Nat,
   ((j < y) →
   ((decide ¬goodR (List.getD xs j default)) = false)))) ∧
   (List.length xs - y < List.length xs - x)))))))))) ∧
   ((decide ((↑x : Int) < (↑(List.length xs) : Int)) = false) →
   (VLe (V.int IntKind.i64 (-1 : Int)) (V.int IntKind.i64 (idxF (fun (r : Int) ↦ decide ¬goodR r) xs)))))))) := by
    obtain ⟨hlen, hp⟩ := hpre
    unfold maxLen at hlen
    refine ⟨⟨0, SLe.refl _, by omega, fun j hj => absurd hj (Nat.not_lt_zero j)⟩, ?_⟩
    rintro i ⟨hi, hj⟩
    refine ⟨fun h => ?_, fun h => ?_⟩
    · have hlt : i < xs.length := by simpa using h
      have hin : xs.getD i default ∈ xs := by simp [hlt]
      simp only [Int.toNat_natCast, decI_int, dec_encPMsg, dec_encPInt, decL_Msg]
      refine ⟨⟨by omega, by omega⟩, trivial, fun h2 => vle_int (idxF_some hlt hj h2).symm, fun h2 => ⟨inK64 (by omega), i + 1, SLe.refl _, ⟨by omega, fun j h3 => ?_⟩, by omega⟩⟩
      rcases Nat.lt_or_ge j i with h4 | h4
      · exact hj j h4
      · have : j = i := by omega
        subst this
        exact h2
    · have hge : i = xs.length := by simp at h; omega
      exact vle_int (idxF_none fun j h3 => hj j (by omega)).symm
  exact Eq.mp (by kernel_rfl) key
theorem so103_125 : Sound Tryz.prog 103 sp103_125 := by
  refine sound_of_body hmix (pol := 0) Tryz.func103 rfl (by kernel_rfl) fun args bin ob r bout hDe hob => ?_
  unfold sp103_125 at hDe
  split at hDe
  · rename_i a0
    cases hDe
    exact ⟨rfl, rfl, Nat.le_of_ble_eq_true (by kernel_rfl), cx103_125 ((decL decI) a0), Eq.mp (by kernel_rfl) htt, Eq.mp (by kernel_rfl) da103_125, Eq.mp (by kernel_rfl) (noM_sound (P := Tryz.prog)), by kernel_rfl, [encL encI 1 (((decL decI) a0)), .fn 125 []], args_of_vles (⟨hob.1, VLe.refl _, trivial⟩), Eq.mp (by kernel_rfl) (bd103_125 ((decL decI) a0) (hob.2))⟩
  · cases hDe

/-! ### slices.ContainsFunc(()int64,int64)@impl.msgFault$2 -/
def pr58_125 (xs : List Int) : Prop := xs.length ≤ maxLen ∧ (True)
noncomputable def rs58_125 (xs : List Int) : V := .bool (xs.any (fun r => decide (¬ goodR r)))
noncomputable def sp58_125 : FSpec := fun args bin => match args, bin with
  | [a0, .fn 125 []], [] => some (VLe a0 (encL encI 1 (((decL decI) a0))) ∧ pr58_125 ((decL decI) a0), rs58_125 ((decL decI) a0), [])
  | _, _ => none
noncomputable def D58_125 : Nat → Option (Bool × FSpec) := lk [(103, (false, sp103_125))]
theorem da58_125 : SoundAll Tryz.prog D58_125 := soundAll_cons so103_125 (soundAll_nil)
noncomputable def cx58_125 (xs : List Int) : Cx := ⟨tt, D58_125, Tryz.f58.ntmps, [0, 1, 4], [], [], fun _ => none, [], noM, []⟩
theorem bd58_125 (xs : List Int) (hpre : pr58_125 xs) : bodyP (cx58_125 xs) Tryz.f58 0 [encL encI 1 (xs), .fn 125 []] (fun rr => VLe rr (rs58_125 xs)) := by
  have key :
      (((VLe (encL encI 1 xs) (encL encI 1 (decL decI (encL encI 1 xs)))) ∧
   (pr103_125 (decL decI (encL encI 1 xs)))) ∧
   (VLe (V.bool (decide (idxF (fun (r : Int) ↦ decide ¬goodR r) (decL decI (encL encI 1 xs)) ≥ (0 : Int))))
   (V.bool (List.any xs fun (r : Int) ↦ decide ¬goodR r)))) := by
    simp only [decL_ints, decL_Cert, dec_encPMsg, dec_encMsg, dec_encPInt, decL_Msg]
    refine ⟨?_, vle_bool (idxF_nonneg _ _)⟩
    repeat' (first | exact VLe.refl _ | exact hpre | apply And.intro)
  exact Eq.mp (by kernel_rfl) key
theorem so58_125 : Sound Tryz.prog 58 sp58_125 := by
  refine sound_of_body hmix (pol := 0) Tryz.func58 rfl (by kernel_rfl) fun args bin ob r bout hDe hob => ?_
  unfold sp58_125 at hDe
  split at hDe
  · rename_i a0
    cases hDe
    exact ⟨rfl, rfl, Nat.le_of_ble_eq_true (by kernel_rfl), cx58_125 ((decL decI) a0), Eq.mp (by kernel_rfl) htt, Eq.mp (by kernel_rfl) da58_125, Eq.mp (by kernel_rfl) (noM_sound (P := Tryz.prog)), by kernel_rfl, [encL encI 1 (((decL decI) a0)), .fn 125 []], args_of_vles (⟨hob.1, VLe.refl _, trivial⟩), Eq.mp (by kernel_rfl) (bd58_125 ((decL decI) a0) (hob.2))⟩
  · cases hDe

/-! ### spec.l8Lists -/
def pr154 (m : Msg) : Prop := m.bd ∧ inR m.view 0 20
noncomputable def rs154 (m : Msg) : V := .int .i64 (listsFault m)
noncomputable def sp154 : FSpec := fun args bin => match args, bin with
  | [a0], [] => some (VLe a0 (encPMsg 1 ((decPMsg a0))) ∧ pr154 (decPMsg a0), rs154 (decPMsg a0), [])
  | _, _ => none
noncomputable def in154_2 (m : Msg) : LoopInv :=
  ⟨Nat, fun i => ⟨[(0, encPMsg 1 m), (3, .int .i64 i)], []⟩, fun i => 1 ≤ i ∧ (i ≤ m.certs.length ∨ i = 1) ∧ ∀ j, 1 ≤ j → j < i → (m.certs.getD (j - 1) default).slot < (m.certs.getD j default).slot, fun i => m.certs.length - i⟩
noncomputable def in154_7 (m : Msg) : LoopInv :=
  ⟨Nat, fun i => ⟨[(0, encPMsg 1 m), (4, .int .i64 i)], []⟩, fun i => 1 ≤ i ∧ (i ≤ m.refs.length ∨ i = 1) ∧ ∀ j, 1 ≤ j → j < i → m.refs.getD (j - 1) default < m.refs.getD j default, fun i => m.refs.length - i⟩
noncomputable def in154_12 (m : Msg) : LoopInv :=
  ⟨Nat, fun i => ⟨[(0, encPMsg 1 m), (5, .int .i64 i)], []⟩, fun i => i ≤ m.certs.length ∧ ∀ j, j < i → goodC m (m.certs.getD j default), fun i => m.certs.length - i⟩
noncomputable def in154_18 (m : Msg) : LoopInv :=
  ⟨Nat, fun i => ⟨[(0, encPMsg 1 m), (7, .int .i64 i)], []⟩, fun i => i ≤ m.refs.length ∧ ∀ j, j < i → goodR (m.refs.getD j default), fun i => m.refs.length - i⟩
noncomputable def iv154 (m : Msg) : Nat → Option LoopInv := fun rg_ => match rg_ with
  | 2 => some (in154_2 m)
  | 7 => some (in154_7 m)
  | 12 => some (in154_12 m)
  | 18 => some (in154_18 m)
  | _ => none
noncomputable def D154 : Nat → Option (Bool × FSpec) := lk [(52, (false, sp52))]
theorem da154 : SoundAll Tryz.prog D154 := soundAll_cons so52 (soundAll_nil)
noncomputable def cx154 (m : Msg) : Cx := ⟨tt, D154, Tryz.f154.ntmps, [0, 2, 3, 4, 5, 6, 7, 14, 34, 41, 59, 66, 96, 103, 114], [(2, ⟨[(0, none), (3, none)], []⟩), (7, ⟨[(0, none), (4, none)], []⟩), (12, ⟨[(0, none), (5, none)], []⟩), (18, ⟨[(0, none), (7, none)], []⟩)], [], iv154 m, [], noM, []⟩
theorem bd154 (m : Msg) (hpre : pr154 m) : bodyP (cx154 m) Tryz.f154 0 [encPMsg 1 (m)] (fun rr => VLe rr (rs154 m)) := by
  have key :
      ((∃ x : Nat, ((SLe (AS.mk [(0, encPMsg 1 m), (3, V.int IntKind.i64 (1 : Int))] [])
   (AS.mk [(0, encPMsg 1 m), (3, V.int IntKind.i64 (↑x : Int))] [])) ∧
   ((1 ≤ x) ∧
   ((x ≤ List.length (Msg.certs m) ∨ x = 1) ∧
   (∀ j : Nat,
   ((1 ≤ j) →
   ((j < x) →
   (Cert.slot (List.getD (Msg.certs m) (j - 1) default) < Cert.slot (List.getD (Msg.certs m) j default))))))))) ∧
   (∀ x : Nat,
   (((1 ≤ x) ∧
   ((x ≤ List.length (Msg.certs m) ∨ x = 1) ∧
   (∀ j : Nat,
   ((1 ≤ j) →
   ((j < x) →
   (Cert.slot (List.getD (Msg.certs m) (j - 1) default) < Cert.slot (List.getD (Msg.certs m) j default))))))) →
   (((decide ((↑x : Int) < (↑(List.length (Msg.certs m)) : Int)) = true) →
   ((((0 : Int) ≤ (↑x : Int)) ∧
   ((↑x : Int) < (↑(List.length (Msg.certs m)) : Int))) ∧
   ((inK IntKind.i64 ((↑x : Int) - (1 : Int))) ∧
   ((((0 : Int) ≤ (↑x : Int) - (1 : Int)) ∧
   ((↑x : Int) - (1 : Int) < (↑(List.length (Msg.certs m)) : Int))) ∧
   (((decide
   (Cert.slot (List.getD (Msg.certs m) (Int.toNat (↑x : Int)) default) ≤
   Cert.slot (List.getD (Msg.certs m) (Int.toNat ((↑x : Int) - (1 : Int))) default)) =
   true) →
   (VLe (V.int IntKind.i64 (1 : Int)) (V.int IntKind.i64 (listsFault m)))) ∧
   ((decide
   (Cert.slot (List.getD (Msg.certs m) (Int.toNat (↑x : Int)) default) ≤
   Cert.slot (List.getD (Msg.certs m) (Int.toNat ((↑x : Int) - (1 : Int))) default)) =
   false) →
   ((inK IntKind.i64 ((↑x : Int) + (1 : Int))) ∧
   (∃ y : Nat, ((SLe (AS.mk [(0, encPMsg 1 m), (3, V.int IntKind.i64 ((↑x : Int) + (1 : Int)))] [])
   (AS.mk [(0, encPMsg 1 m), (3, V.int IntKind.i64 (↑y : Int))] [])) ∧
   (((1 ≤ y) ∧
   ((y ≤ List.length (Msg.certs m) ∨ y = 1) ∧
   (∀ j : Nat,
   ((1 ≤ j) →
   ((j < y) →
   (Cert.slot (List.getD (Msg.certs m) (j - 1) default) < Cert.slot (List.getD (Msg.certs m) j default))))))) ∧
   (List.length (Msg.certs m) - y < List.length (Msg.certs m) - x))))))))))) ∧
   ((decide ((↑x : Int) < (↑(List.length (Msg.certs m)) : Int)) = false) →
   ((∃ x_1 : Nat, ((SLe (AS.mk [(0, encPMsg 1 m), (4, V.int IntKind.i64 (1 : Int))] [])
   (AS.mk [(0, encPMsg 1 m), (4, V.int IntKind.i64 (↑x_1 : Int))] [])) ∧
   ((1 ≤ x_1) ∧
   ((x_1 ≤ List.length (Msg.refs m) ∨ x_1 = 1) ∧
   (∀ j : Nat,
   ((1 ≤ j) →
   ((j < x_1) →
   (List.getD (Msg.refs m) (j - 1) default < List.getD (Msg.refs m) j default)))))))) ∧
   (∀ x_1 : Nat,
   (((1 ≤ x_1) ∧
   ((x_1 ≤ List.length (Msg.refs m) ∨ x_1 = 1) ∧
   (∀ j : Nat,
   ((1 ≤ j) →
   ((j < x_1) →
   (List.getD (Msg.refs m) (j - 1) default < List.getD (Msg.refs m) j default)))))) →
   (((decide ((↑x_1 : Int) < (↑(List.length (Msg.refs m)) : Int)) = true) →
   ((((0 : Int) ≤ (↑x_1 : Int)) ∧
   ((↑x_1 : Int) < (↑(List.length (Msg.refs m)) : Int))) ∧
   ((inK IntKind.i64 ((↑x_1 : Int) - (1 : Int))) ∧
   ((((0 : Int) ≤ (↑x_1 : Int) - (1 : Int)) ∧
   ((↑x_1 : Int) - (1 : Int) < (↑(List.length (Msg.refs m)) : Int))) ∧
   (((decide
   (List.getD (Msg.refs m) (Int.toNat (↑x_1 : Int)) default ≤
   List.getD (Msg.refs m) (Int.toNat ((↑x_1 : Int) - (1 : Int))) default) =
   true) →
   (VLe (V.int IntKind.i64 (1 : Int)) (V.int IntKind.i64 (listsFault m)))) ∧
   ((decide
   (List.getD (Msg.refs m) (Int.toNat (↑x_1 : Int)) default ≤
   List.getD (Msg.refs m) (Int.toNat ((↑x_1 : Int) - (1 : Int))) default) =
   false) →
   ((inK IntKind.i64 ((↑x_1 : Int) + (1 : Int))) ∧
   (∃ y : Nat, ((SLe (AS.mk [(0, encPMsg 1 m), (4, V.int IntKind.i64 ((↑x_1 : Int) + (1 : Int)))] [])
   (AS.mk [(0, encPMsg 1 m), (4, V.int IntKind.i64 (↑y : Int))] [])) ∧
   (((1 ≤ y) ∧
   ((y ≤ List.length (Msg.refs m) ∨ y = 1) ∧
   (∀ j : Nat,
   ((1 ≤ j) →
   ((j < y) →
   (List.getD (Msg.refs m) (j - 1) default < List.getD (Msg.refs m) j default)))))) ∧
   (List.length (Msg.refs m) - y < List.length (Msg.refs m) - x_1))))))))))) ∧
   ((decide ((↑x_1 : Int) < (↑(List.length (Msg.refs m)) : Int)) = false) →
   ((∃ x_2 : Nat, ((SLe (AS.mk [(0, encPMsg 1 m), (5, V.int IntKind.i64 (0 : Int))] [])
   (AS.mk [(0, encPMsg 1 m), (5, V.int IntKind.i64 (↑x_2 : Int))] [])) ∧
   ((x_2 ≤ List.length (Msg.certs m)) ∧
   (∀ j : Nat,
   ((j < x_2) →
   (goodC m (List.getD (Msg.certs m) j default))))))) ∧
   (∀ x_2 : Nat,
   (((x_2 ≤ List.length (Msg.certs m)) ∧
   (∀ j : Nat,
   ((j < x_2) →
   (goodC m (List.getD (Msg.certs m) j default))))) →
   (((decide ((↑x_2 : Int) < (↑(List.length (Msg.certs m)) : Int)) = true) →
   ((((0 : Int) ≤ (↑x_2 : Int)) ∧
   ((↑x_2 : Int) < (↑(List.length (Msg.certs m)) : Int))) ∧
   ((pr52 (Cert.slot (List.getD (Msg.certs m) (Int.toNat (↑x_2 : Int)) default)) (1 : Int) (30 : Int)) ∧
   ((tq (!!decide (inR (Cert.slot (List.getD (Msg.certs m) (Int.toNat (↑x_2 : Int)) default)) (1 : Int) (30 : Int)))) ∧
   ((tq (!!decide (inR (Cert.slot (List.getD (Msg.certs m) (Int.toNat (↑x_2 : Int)) default)) (1 : Int) (30 : Int)))) ∧
   ((tq (!!decide (inR (Cert.slot (List.getD (Msg.certs m) (Int.toNat (↑x_2 : Int)) default)) (1 : Int) (30 : Int)))) ∧
   ((tq (!!decide (inR (Cert.slot (List.getD (Msg.certs m) (Int.toNat (↑x_2 : Int)) default)) (1 : Int) (30 : Int)))) ∧
   ((tq (!!decide (inR (Cert.slot (List.getD (Msg.certs m) (Int.toNat (↑x_2 : Int)) default)) (1 : Int) (30 : Int)))) ∧
   ((((!!decide (inR (Cert.slot (List.getD (Msg.certs m) (Int.toNat (↑x_2 : Int)) default)) (1 : Int) (30 : Int))) = true) →
   (inK IntKind.i64 (Msg.view m - (1 : Int)))) ∧
   ((tq (!!decide (inR (Cert.slot (List.getD (Msg.certs m) (Int.toNat (↑x_2 : Int)) default)) (1 : Int) (30 : Int)))) ∧
   ((tq (!!decide (inR (Cert.slot (List.getD (Msg.certs m) (Int.toNat (↑x_2 : Int)) default)) (1 : Int) (30 : Int)))) ∧
   ((((!!decide (inR (Cert.slot (List.getD (Msg.certs m) (Int.toNat (↑x_2 : Int)) default)) (1 : Int) (30 : Int))) = true) →
   (pr52 (Cert.view (List.getD (Msg.certs m) (Int.toNat (↑x_2 : Int)) default)) (0 : Int) (Msg.view m - (1 : Int)))) ∧
   ((tq (!!decide (inR (Cert.slot (List.getD (Msg.certs m) (Int.toNat (↑x_2 : Int)) default)) (1 : Int) (30 : Int)))) ∧
   (((true = true) →
   (((!decide (inR (Cert.slot (List.getD (Msg.certs m) (Int.toNat (↑x_2 : Int)) default)) (1 : Int) (30 : Int))) = false) →
   ((!!decide (inR (Cert.slot (List.getD (Msg.certs m) (Int.toNat (↑x_2 : Int)) default)) (1 : Int) (30 : Int))) = true))) ∧
   (∀ b : Bool,
   ((b =
   bif !decide (inR (Cert.slot (List.getD (Msg.certs m) (Int.toNat (↑x_2 : Int)) default)) (1 : Int) (30 : Int)) then
   true
   else
   !decide
   (inR (Cert.view (List.getD (Msg.certs m) (Int.toNat (↑x_2 : Int)) default)) (0 : Int) (Msg.view m - (1 : Int)))) →
   ((tq (!b)) ∧
   ((tq (!b)) ∧
   ((((!b) = true) →
   (pr52 (Cert.value (List.getD (Msg.certs m) (Int.toNat (↑x_2 : Int)) default)) (0 : Int) (12 : Int))) ∧
   ((tq (!b)) ∧
   (((true = true) →
   ((b = false) →
   ((!b) = true))) ∧
   (∀ b_1 : Bool,
   ((b_1 =
   bif b then true
   else !decide (inR (Cert.value (List.getD (Msg.certs m) (Int.toNat (↑x_2 : Int)) default)) (0 : Int) (12 : Int))) →
   (((b_1 = true) →
   (VLe (V.int IntKind.i64 (3 : Int)) (V.int IntKind.i64 (listsFault m)))) ∧
   ((b_1 = false) →
   ((inK IntKind.i64 ((↑x_2 : Int) + (1 : Int))) ∧
   (∃ y : Nat, ((SLe (AS.mk [(0, encPMsg 1 m), (5, V.int IntKind.i64 ((↑x_2 : Int) + (1 : Int)))] [])
   (AS.mk [(0, encPMsg 1 m), (5, V.int IntKind.i64 (↑y : Int))] [])) ∧
   (((y ≤ List.length (Msg.certs m)) ∧
   (∀ j : Nat,
   ((j < y) →
   (goodC m (List.getD (Msg.certs m) j default))))) ∧
   (List.length (Msg.certs m) - y < List.length (Msg.certs m) - x_2)))))))))))))))))))))))))))))) ∧
   ((decide ((↑x_2 : Int) < (↑(List.length (Msg.certs m)) : Int)) = false) →
   ((∃ x_3 : Nat, ((SLe (AS.mk [(0, encPMsg 1 m), (7, V.int IntKind.i64 (0 : Int))] [])
   (AS.mk [(0, encPMsg 1 m), (7, V.int IntKind.i64 (↑x_3 : Int))] [])) ∧
   ((x_3 ≤ List.length (Msg.refs m)) ∧
   (∀ j : Nat,
   ((j < x_3) →
   (goodR (List.getD (Msg.refs m) j default))))))) ∧
   (∀ x_3 : Nat,
   (((x_3 ≤ List.length (Msg.refs m)) ∧
   (∀ j : Nat,
   ((j < x_3) →
   (goodR (List.getD (Msg.refs m) j default))))) →
   (((decide ((↑x_3 : Int) < (↑(List.length (Msg.refs m)) : Int)) = true) →
   ((((0 : Int) ≤ (↑x_3 : Int)) ∧
   ((↑x_3 : Int) < (↑(List.length (Msg.refs m)) : Int))) ∧
   ((pr52 (List.getD (Msg.refs m) (Int.toNat (↑x_3 : Int)) default) (0 : Int) (239 : Int)) ∧
   ((((!decide (inR (List.getD (Msg.refs m) (Int.toNat (↑x_3 : Int)) default) (0 : Int) (239 : Int))) = true) →
   (VLe (V.int IntKind.i64 (3 : Int)) (V.int IntKind.i64 (listsFault m)))) ∧
   (((!decide (inR (List.getD (Msg.refs m) (Int.toNat (↑x_3 : Int)) default) (0 : Int) (239 : Int))) = false) →
   ((inK IntKind.i64 ((↑x_3 : Int) + (1 : Int))) ∧
   (∃ y : Nat, ((SLe (AS.mk [(0, encPMsg 1 m), (7, V.int IntKind.i64 ((↑x_3 : Int) + (1 : Int)))] [])
   (AS.mk [(0, encPMsg 1 m), (7, V.int IntKind.i64 (↑y : Int))] [])) ∧
   (((y ≤ List.length (Msg.refs m)) ∧
   (∀ j : Nat,
   ((j < y) →
   (goodR (List.getD (Msg.refs m) j default))))) ∧
   (List.length (Msg.refs m) - y < List.length (Msg.refs m) - x_3)))))))))) ∧
   ((decide ((↑x_3 : Int) < (↑(List.length (Msg.refs m)) : Int)) = false) →
   (VLe (V.int IntKind.i64 (0 : Int)) (V.int IntKind.i64 (listsFault m))))))))))))))))))))))) := by
    obtain ⟨⟨hc, hr⟩, hv⟩ := hpre
    unfold maxLen at hc hr
    unfold inR at hv
    refine ⟨⟨1, SLe.refl _, by omega, Or.inr rfl, fun j h1 h2 => by omega⟩, ?_⟩
    rintro i ⟨h1, hi, hj⟩
    have e1 : ((i : Int) - 1).toNat = i - 1 := by omega
    simp only [Int.toNat_natCast, e1]
    refine ⟨fun h => ?_, fun h => ?_⟩
    · have hlt : i < m.certs.length := by simpa using h
      refine ⟨⟨by omega, by omega⟩, inK64 (by omega), ⟨by omega, by omega⟩, fun h2 => ?_, fun h2 => ⟨inK64 (by omega), i + 1, SLe.refl _, ⟨by omega, by omega, fun j h3 h4 => ?_⟩, by omega⟩⟩
      · refine vle_int ?_
        have : ¬ (riseC m.certs ∧ riseR m.refs) := fun hh => by
          have h6 := hh.1 i h1 hlt
          have h7 := of_decide_eq_true h2
          omega
        unfold listsFault
        rw [if_pos this]
      · rcases Nat.lt_or_ge j i with h5 | h5
        · exact hj j h3 h5
        · have : j = i := by omega
          subst this
          have h7 := of_decide_eq_false h2
          omega
    · have hge : m.certs.length ≤ i := by simpa using h
      have hrc : riseC m.certs := fun j h3 h4 => hj j h3 (by omega)
      clear hj hi h1 h hge e1 i
      refine ⟨⟨1, SLe.refl _, by omega, Or.inr rfl, fun j h1 h2 => by omega⟩, ?_⟩
      rintro i ⟨h1, hi, hj⟩
      have e1 : ((i : Int) - 1).toNat = i - 1 := by omega
      simp only [Int.toNat_natCast, e1]
      refine ⟨fun h => ?_, fun h => ?_⟩
      · have hlt : i < m.refs.length := by simpa using h
        refine ⟨⟨by omega, by omega⟩, inK64 (by omega), ⟨by omega, by omega⟩, fun h2 => ?_, fun h2 => ⟨inK64 (by omega), i + 1, SLe.refl _, ⟨by omega, by omega, fun j h3 h4 => ?_⟩, by omega⟩⟩
        · refine vle_int ?_
          have : ¬ (riseC m.certs ∧ riseR m.refs) := fun hh => by
            have h6 := hh.2 i h1 hlt
            have h7 := of_decide_eq_true h2
            omega
          unfold listsFault
          rw [if_pos this]
        · rcases Nat.lt_or_ge j i with h5 | h5
          · exact hj j h3 h5
          · have : j = i := by omega
            subst this
            have h7 := of_decide_eq_false h2
            omega
      · have hge : m.refs.length ≤ i := by simpa using h
        have hrr : riseR m.refs := fun j h3 h4 => hj j h3 (by omega)
        clear hj hi h1 h hge e1 i
        refine ⟨⟨0, SLe.refl _, by omega, fun j hj => absurd hj (Nat.not_lt_zero j)⟩, ?_⟩
        rintro i ⟨hi, hj⟩
        try simp only [Int.toNat_natCast]
        refine ⟨fun h => ?_, fun h => ?_⟩
        · have hlt : i < m.certs.length := by simpa using h
          have hin : m.certs.getD i default ∈ m.certs := by simp [hlt]
          refine ⟨⟨by omega, by omega⟩, ?_⟩
          repeat (first | (refine And.intro (fun h _ => h) ?_) | (refine And.intro (fun _ h => h) ?_) | (refine And.intro ?aa ?_; case aa => (simp [pr52]; done)) | (refine And.intro ?aa ?_; case aa => (simp_all [pr52]; done)) | (refine And.intro ?aa ?_; case aa => (intros; exact inK64 (by omega))) | (refine And.intro ?aa ?_; case aa => (intros; simp only [decide_eq_true_eq] at *; omega)) | (intro q hq))
          subst_vars
          refine ⟨fun h2 => ?_, fun h2 => ⟨inK64 (by omega), i + 1, SLe.refl _, ⟨by omega, fun j h3 => ?_⟩, by omega⟩⟩
          · have hb : ¬ goodC m (m.certs.getD i default) := fun hg => by
              obtain ⟨g1, g2, g3⟩ := hg
              simp only [g1, g2, g3, decide_true, Bool.not_true, cond_false, Bool.false_eq_true] at h2
            refine vle_int ?_
            unfold listsFault
            rw [if_neg (by simp [hrc, hrr]), if_pos fun hh => hb (hh.1 _ hin)]
          · rcases Nat.lt_or_ge j i with h4 | h4
            · exact hj j h4
            · have : j = i := by omega
              subst this
              simp at h2
              exact ⟨h2.1.1, h2.1.2, h2.2⟩
        · have hgc : ∀ c ∈ m.certs, goodC m c := fun c hc => by
            obtain ⟨k, hk, rfl⟩ := List.getElem_of_mem hc
            have hge : i = m.certs.length := by simp at h; omega
            have := hj k (by omega)
            simpa [hk] using this
          clear hj hi h i
          refine ⟨⟨0, SLe.refl _, by omega, fun j hj => absurd hj (Nat.not_lt_zero j)⟩, ?_⟩
          rintro i ⟨hi, hj⟩
          try simp only [Int.toNat_natCast]
          refine ⟨fun h => ?_, fun h => ?_⟩
          · have hlt : i < m.refs.length := by simpa using h
            have hin : m.refs.getD i default ∈ m.refs := by simp [hlt]
            refine ⟨⟨by omega, by omega⟩, trivial, fun h2 => ?_, fun h2 => ⟨inK64 (by omega), i + 1, SLe.refl _, ⟨by omega, fun j h3 => ?_⟩, by omega⟩⟩
            · have hb : ¬ goodR (m.refs.getD i default) := fun hg => by
                unfold goodR at hg
                simp only [hg, decide_true, Bool.not_true, Bool.false_eq_true] at h2
              refine vle_int ?_
              unfold listsFault
              rw [if_neg (by simp [hrc, hrr]), if_pos fun hh => hb (hh.2 _ hin)]
            · rcases Nat.lt_or_ge j i with h4 | h4
              · exact hj j h4
              · have : j = i := by omega
                subst this
                unfold goodR
                simpa using h2
          · have hgr : ∀ r ∈ m.refs, goodR r := fun r hr => by
              obtain ⟨k, hk, rfl⟩ := List.getElem_of_mem hr
              have hge : i = m.refs.length := by simp at h; omega
              have := hj k (by omega)
              simpa [hk] using this
            refine vle_int ?_
            unfold listsFault
            rw [if_neg (by simp [hrc, hrr]), if_neg (by simp; exact ⟨hgc, hgr⟩)]
  exact Eq.mp (by kernel_rfl) key
theorem so154 : Sound Tryz.prog 154 sp154 := by
  refine sound_of_body hmix (pol := 0) Tryz.func154 rfl (by kernel_rfl) fun args bin ob r bout hDe hob => ?_
  unfold sp154 at hDe
  split at hDe
  · rename_i a0
    cases hDe
    exact ⟨rfl, rfl, Nat.le_of_ble_eq_true (by kernel_rfl), cx154 (decPMsg a0), Eq.mp (by kernel_rfl) htt, Eq.mp (by kernel_rfl) da154, Eq.mp (by kernel_rfl) (noM_sound (P := Tryz.prog)), by kernel_rfl, [encPMsg 1 ((decPMsg a0))], args_of_vles (⟨hob.1, trivial⟩), Eq.mp (by kernel_rfl) (bd154 (decPMsg a0) (hob.2))⟩
  · cases hDe

/-! ### spec.l8Msg -/
def pr135 (f : Int) (m : Msg) : Prop := okF f ∧ m.bd
noncomputable def rs135 (f : Int) (m : Msg) : V := .int .i64 (msgFault f m)
noncomputable def sp135 : FSpec := fun args bin => match args, bin with
  | [.int .i64 a0, a1], [] => some (VLe a1 (encPMsg 1 ((decPMsg a1))) ∧ pr135 a0 (decPMsg a1), rs135 a0 (decPMsg a1), [])
  | _, _ => none
noncomputable def D135 : Nat → Option (Bool × FSpec) := lk [(153, (false, sp153)), (52, (false, sp52)), (140, (false, sp140)), (154, (false, sp154))]
theorem da135 : SoundAll Tryz.prog D135 := soundAll_cons so153 (soundAll_cons so52 (soundAll_cons so140 (soundAll_cons so154 (soundAll_nil))))
noncomputable def cx135 (f : Int) (m : Msg) : Cx := ⟨tt, D135, Tryz.f135.ntmps, [0, 1, 4, 5, 8, 47, 64], [], [], fun _ => none, [], noM, []⟩
theorem bd135 (f : Int) (m : Msg) (hpre : pr135 f m) : bodyP (cx135 f m) Tryz.f135 0 [.int .i64 (f), encPMsg 1 (m)] (fun rr => VLe rr (rs135 f m)) := by
  have key :
      (((VLe (encPMsg 1 m) (encPMsg 1 (decPMsg (encPMsg 1 m)))) ∧
   (pr153 (decPMsg (encPMsg 1 m)))) ∧
   ((((!decide (bare (decPMsg (encPMsg 1 m)))) = true) →
   (VLe (V.int IntKind.i64 (1 : Int)) (V.int IntKind.i64 (msgFault f m)))) ∧
   (((!decide (bare (decPMsg (encPMsg 1 m)))) = false) →
   ((pr52 (Msg.view m) (0 : Int) (20 : Int)) ∧
   ((tq (!!decide (inR (Msg.view m) (0 : Int) (20 : Int)))) ∧
   ((tq (!!decide (inR (Msg.view m) (0 : Int) (20 : Int)))) ∧
   ((tq (!!decide (inR (Msg.view m) (0 : Int) (20 : Int)))) ∧
   ((tq (!!decide (inR (Msg.view m) (0 : Int) (20 : Int)))) ∧
   ((tq (!!decide (inR (Msg.view m) (0 : Int) (20 : Int)))) ∧
   ((((!!decide (inR (Msg.view m) (0 : Int) (20 : Int))) = true) →
   (pr140 f (Msg.sender m))) ∧
   ((tq (!!decide (inR (Msg.view m) (0 : Int) (20 : Int)))) ∧
   (((true = true) →
   (((!decide (inR (Msg.view m) (0 : Int) (20 : Int))) = false) →
   ((!!decide (inR (Msg.view m) (0 : Int) (20 : Int))) = true))) ∧
   (∀ b : Bool,
   ((b =
   bif !decide (inR (Msg.view m) (0 : Int) (20 : Int)) then true
   else !decide (inR (Msg.sender m) (1 : Int) ((3 : Int) * f + (1 : Int)))) →
   ((tq (!b)) ∧
   ((tq (!b && decide (Msg.kind m ≤ (3 : Int)))) ∧
   ((tq (!b && decide (Msg.kind m ≤ (3 : Int)))) ∧
   ((tq (!b && decide (Msg.kind m ≤ (3 : Int)))) ∧
   ((tq (!b && decide (Msg.kind m ≤ (3 : Int)))) ∧
   ((((!b && decide (Msg.kind m ≤ (3 : Int))) = true) →
   (pr52 (Msg.slot m) (1 : Int) (30 : Int))) ∧
   ((tq (!b && decide (Msg.kind m ≤ (3 : Int)))) ∧
   ((tq (!b && decide (Msg.kind m ≤ (3 : Int)))) ∧
   ((tq (!b && decide (Msg.kind m ≤ (3 : Int)) && !!decide (inR (Msg.slot m) (1 : Int) (30 : Int)))) ∧
   ((tq (!b && decide (Msg.kind m ≤ (3 : Int)) && !!decide (inR (Msg.slot m) (1 : Int) (30 : Int)))) ∧
   ((tq (!b && decide (Msg.kind m ≤ (3 : Int)) && !!decide (inR (Msg.slot m) (1 : Int) (30 : Int)))) ∧
   ((tq (!b && decide (Msg.kind m ≤ (3 : Int)) && !!decide (inR (Msg.slot m) (1 : Int) (30 : Int)))) ∧
   ((((!b && decide (Msg.kind m ≤ (3 : Int)) && !!decide (inR (Msg.slot m) (1 : Int) (30 : Int))) = true) →
   (pr52 (Msg.value m) (0 : Int) (12 : Int))) ∧
   ((tq (!b && decide (Msg.kind m ≤ (3 : Int)) && !!decide (inR (Msg.slot m) (1 : Int) (30 : Int)))) ∧
   ((tq (!b && decide (Msg.kind m ≤ (3 : Int)))) ∧
   ((((!b && decide (Msg.kind m ≤ (3 : Int))) = true) →
   (((!b && decide (Msg.kind m ≤ (3 : Int))) = true) →
   (((!decide (inR (Msg.slot m) (1 : Int) (30 : Int))) = false) →
   ((!b && decide (Msg.kind m ≤ (3 : Int)) && !!decide (inR (Msg.slot m) (1 : Int) (30 : Int))) = true)))) ∧
   (∀ b_1 : Bool,
   ((b_1 =
   bif !decide (inR (Msg.slot m) (1 : Int) (30 : Int)) then true else !decide (inR (Msg.value m) (0 : Int) (12 : Int))) →
   ((tq (!b)) ∧
   ((((!b) = true) →
   (((!b) = true) →
   ((decide (Msg.kind m ≤ (3 : Int)) = true) →
   ((!b && decide (Msg.kind m ≤ (3 : Int))) = true)))) ∧
   (∀ b_2 : Bool,
   ((b_2 = bif decide (Msg.kind m ≤ (3 : Int)) then b_1 else false) →
   (((true = true) →
   ((b = false) →
   ((!b) = true))) ∧
   (∀ b_3 : Bool,
   ((b_3 = bif b then true else b_2) →
   (((b_3 = true) →
   (VLe (V.int IntKind.i64 (3 : Int)) (V.int IntKind.i64 (msgFault f m)))) ∧
   ((b_3 = false) →
   ((tq (!decide ((↑(List.length (Msg.certs m)) : Int) > (30 : Int)))) ∧
   ((tq (!decide ((↑(List.length (Msg.certs m)) : Int) > (30 : Int)))) ∧
   ((tq (!decide ((↑(List.length (Msg.certs m)) : Int) > (30 : Int)))) ∧
   ((tq (!decide ((↑(List.length (Msg.certs m)) : Int) > (30 : Int)))) ∧
   ((tq (!decide ((↑(List.length (Msg.certs m)) : Int) > (30 : Int)))) ∧
   ((((!decide ((↑(List.length (Msg.certs m)) : Int) > (30 : Int))) = true) →
   (inK IntKind.i64 ((3 : Int) * f))) ∧
   ((tq (!decide ((↑(List.length (Msg.certs m)) : Int) > (30 : Int)))) ∧
   ((((!decide ((↑(List.length (Msg.certs m)) : Int) > (30 : Int))) = true) →
   (inK IntKind.i64 ((3 : Int) * f + (1 : Int)))) ∧
   ((tq (!decide ((↑(List.length (Msg.certs m)) : Int) > (30 : Int)))) ∧
   ((tq (!decide ((↑(List.length (Msg.certs m)) : Int) > (30 : Int)))) ∧
   (((true = true) →
   ((decide ((↑(List.length (Msg.certs m)) : Int) > (30 : Int)) = false) →
   ((!decide ((↑(List.length (Msg.certs m)) : Int) > (30 : Int))) = true))) ∧
   (∀ b_4 : Bool,
   ((b_4 =
   bif decide ((↑(List.length (Msg.certs m)) : Int) > (30 : Int)) then true
   else decide ((↑(List.length (Msg.refs m)) : Int) > (3 : Int) * f + (1 : Int))) →
   (((b_4 = true) →
   (VLe (V.int IntKind.i64 (2 : Int)) (V.int IntKind.i64 (msgFault f m)))) ∧
   ((b_4 = false) →
   (((VLe (encPMsg 1 m) (encPMsg 1 (decPMsg (encPMsg 1 m)))) ∧
   (pr154 (decPMsg (encPMsg 1 m)))) ∧
   (VLe (V.int IntKind.i64 (listsFault (decPMsg (encPMsg 1 m)))) (V.int IntKind.i64 (msgFault f m)))))))))))))))))))))))))))))))))))))))))))))))))))))))))))) := by
    obtain ⟨hf, hc, hr⟩ := hpre
    have hf' : 1 ≤ f ∧ f ≤ 2 := by unfold okF at hf; omega
    simp only [dec_encPMsg]
    refine ⟨⟨VLe.refl _, trivial⟩, fun h => ?_, fun h => ?_⟩
    · refine vle_int ?_
      have hn : ¬ bare m := by simpa using h
      unfold msgFault
      rw [if_pos hn]
    · have hb : bare m := by simpa using h
      clear h
      have hk : 1 ≤ m.kind := hb.1.1
      repeat (first | (refine And.intro (fun h _ => h) ?_) | (refine And.intro (fun _ h => h) ?_) | (refine And.intro ?aa ?_; case aa => (simp [hf, pr153, pr52, pr140, pr154]; done)) | (refine And.intro ?aa ?_; case aa => (simp_all [hf, pr153, pr52, pr140, pr154]; done)) | (refine And.intro ?aa ?_; case aa => (intros; exact inK64 (by omega))) | (refine And.intro ?aa ?_; case aa => (intros; simp only [decide_eq_true_eq] at *; omega)) | (intro q hq))
      have e0 : q = decide (¬ ranged f m) := by
        subst_vars
        rw [Bool.eq_iff_iff]
        simp
        try simp only [ranged, inR]
        try omega
      clear hq
      refine ⟨fun h => ?_, fun h => ?_⟩
      · have hn : ¬ ranged f m := by simpa [e0] using h
        refine vle_int ?_
        unfold msgFault
        rw [if_neg (not_not_intro hb), if_pos hn]
      · have hra : ranged f m := by simpa [e0] using h
        clear e0 h
        repeat (first | (refine And.intro (fun h _ => h) ?_) | (refine And.intro (fun _ h => h) ?_) | (refine And.intro ?aa ?_; case aa => (simp [hf, pr153, pr52, pr140, pr154]; done)) | (refine And.intro ?aa ?_; case aa => (simp_all [hf, pr153, pr52, pr140, pr154]; done)) | (refine And.intro ?aa ?_; case aa => (intros; exact inK64 (by omega))) | (refine And.intro ?aa ?_; case aa => (intros; simp only [decide_eq_true_eq] at *; omega)) | (intro q hq))
        have e0 : q = decide (¬ few f m) := by
          subst_vars
          rw [Bool.eq_iff_iff]
          simp
          try simp only [few]
          try omega
        clear hq
        refine ⟨fun h => ?_, fun h => ?_⟩
        · have hn : ¬ few f m := by simpa [e0] using h
          refine vle_int ?_
          unfold msgFault
          rw [if_neg (not_not_intro hb), if_neg (not_not_intro hra), if_pos hn]
        · have hfw : few f m := by simpa [e0] using h
          clear e0 h
          refine ⟨⟨VLe.refl _, ⟨hc, hr⟩, hra.1⟩, vle_int ?_⟩
          unfold msgFault
          rw [if_neg (not_not_intro hb), if_neg (not_not_intro hra), if_neg (not_not_intro hfw)]
  exact Eq.mp (by kernel_rfl) key
theorem so135 : Sound Tryz.prog 135 sp135 := by
  refine sound_of_body hmix (pol := 0) Tryz.func135 rfl (by kernel_rfl) fun args bin ob r bout hDe hob => ?_
  unfold sp135 at hDe
  split at hDe
  · rename_i a0 a1
    cases hDe
    exact ⟨rfl, rfl, Nat.le_of_ble_eq_true (by kernel_rfl), cx135 a0 (decPMsg a1), Eq.mp (by kernel_rfl) htt, Eq.mp (by kernel_rfl) da135, Eq.mp (by kernel_rfl) (noM_sound (P := Tryz.prog)), by kernel_rfl, [.int .i64 (a0), encPMsg 1 ((decPMsg a1))], args_of_vles (⟨VLe.refl _, hob.1, trivial⟩), Eq.mp (by kernel_rfl) (bd135 a0 (decPMsg a1) (hob.2))⟩
  · cases hDe

/-! ### impl.msgFault -/
def pr81 (f : Int) (m : Msg) : Prop := okF f ∧ m.bd
noncomputable def rs81 (f : Int) (m : Msg) : V := .int .i64 (msgFault f m)
noncomputable def sp81 : FSpec := fun args bin => match args, bin with
  | [.int .i64 a0, a1], [] => some (VLe a1 (encMsg 1 ((decMsg a1))) ∧ pr81 a0 (decMsg a1), rs81 a0 (decMsg a1), [])
  | _, _ => none
noncomputable def in81_9 (f : Int) (m : Msg) : LoopInv :=
  ⟨Nat, fun i => ⟨[(0, .int .i64 f), (3, .oref 256 0 0), (95, encL (encCert 1) 1 m.certs), (96, .int .i64 m.certs.length), (97, .int .i64 i)], [(256, .box (encMsg 1 m).cells)]⟩, fun i => i ≤ m.certs.length ∧ ∀ j, 1 ≤ j → j < i → (m.certs.getD (j - 1) default).slot < (m.certs.getD j default).slot, fun i => m.certs.length - i⟩
noncomputable def in81_15 (f : Int) (m : Msg) : LoopInv :=
  ⟨Nat, fun i => ⟨[(3, .oref 256 0 0), (118, encL encI 1 m.refs), (119, .int .i64 m.refs.length), (120, .int .i64 i)], [(256, .box (encMsg 1 m).cells)]⟩, fun i => i ≤ m.refs.length ∧ ∀ j, 1 ≤ j → j < i → m.refs.getD (j - 1) default < m.refs.getD j default, fun i => m.refs.length - i⟩
noncomputable def iv81 (f : Int) (m : Msg) : Nat → Option LoopInv := fun rg_ => match rg_ with
  | 9 => some (in81_9 f m)
  | 15 => some (in81_15 f m)
  | _ => none
noncomputable def D81 : Nat → Option (Bool × FSpec) := lk [(123, (false, sp123)), (60, (false, sp60)), (50, (false, sp50)), (77, (false, sp77)), (116, (false, sp116)), (117, (false, sp117)), (57, (false, sp57)), (100, (false, sp100_124)), (58, (false, sp58_125))]
theorem da81 : SoundAll Tryz.prog D81 := soundAll_cons so123 (soundAll_cons so60 (soundAll_cons so50 (soundAll_cons so77 (soundAll_cons so116 (soundAll_cons so117 (soundAll_cons so57 (soundAll_cons so100_124 (soundAll_cons so58_125 (soundAll_nil)))))))))
noncomputable def cx81 (f : Int) (m : Msg) : Cx := ⟨tt, D81, Tryz.f81.ntmps, [0, 1, 3, 4, 5, 6, 7, 8, 9, 13, 54, 81, 95, 96, 97, 98, 115, 118, 119, 120, 121, 136, 141, 144], [(9, ⟨[(0, none), (3, none), (95, none), (96, none), (97, none)], [(256, [])]⟩), (15, ⟨[(3, none), (118, none), (119, none), (120, none)], [(256, [])]⟩)], [], iv81 f m, [], noM, []⟩
theorem bd81 (f : Int) (m : Msg) (hpre : pr81 f m) : bodyP (cx81 f m) Tryz.f81 0 [.int .i64 (f), encMsg 1 (m)] (fun rr => VLe rr (rs81 f m)) := by
  have key :
      ((pr123 (Msg.kind m)) ∧
   ((pr60 (Msg.kind m) (1 : Int) (5 : Int)) ∧
   ((tq (!!decide (inR (Msg.kind m) (1 : Int) (5 : Int)))) ∧
   ((tq (!!decide (inR (Msg.kind m) (1 : Int) (5 : Int)))) ∧
   ((tq (!!decide (inR (Msg.kind m) (1 : Int) (5 : Int)) && !decide (inR (Msg.kind m) (1 : Int) (3 : Int)))) ∧
   ((tq (!!decide (inR (Msg.kind m) (1 : Int) (5 : Int)) && !decide (inR (Msg.kind m) (1 : Int) (3 : Int)))) ∧
   ((tq (!!decide (inR (Msg.kind m) (1 : Int) (5 : Int)) && !decide (inR (Msg.kind m) (1 : Int) (3 : Int)))) ∧
   ((tq (!!decide (inR (Msg.kind m) (1 : Int) (5 : Int)) && !decide (inR (Msg.kind m) (1 : Int) (3 : Int)) &&
   !Msg.slot m != (0 : Int))) ∧
   ((tq (!!decide (inR (Msg.kind m) (1 : Int) (5 : Int)) && !decide (inR (Msg.kind m) (1 : Int) (3 : Int)) &&
   !Msg.slot m != (0 : Int))) ∧
   ((tq (!!decide (inR (Msg.kind m) (1 : Int) (5 : Int)) && !decide (inR (Msg.kind m) (1 : Int) (3 : Int)))) ∧
   ((((!!decide (inR (Msg.kind m) (1 : Int) (5 : Int)) && !decide (inR (Msg.kind m) (1 : Int) (3 : Int))) = true) →
   (((!!decide (inR (Msg.kind m) (1 : Int) (5 : Int)) && !decide (inR (Msg.kind m) (1 : Int) (3 : Int))) = true) →
   (((Msg.slot m != (0 : Int)) = false) →
   ((!!decide (inR (Msg.kind m) (1 : Int) (5 : Int)) && !decide (inR (Msg.kind m) (1 : Int) (3 : Int)) &&
   !Msg.slot m != (0 : Int)) =
   true)))) ∧
   (∀ b : Bool,
   ((b = bif Msg.slot m != (0 : Int) then true else Msg.value m != (0 : Int)) →
   ((tq (!!decide (inR (Msg.kind m) (1 : Int) (5 : Int)))) ∧
   ((((!!decide (inR (Msg.kind m) (1 : Int) (5 : Int))) = true) →
   (((!!decide (inR (Msg.kind m) (1 : Int) (5 : Int))) = true) →
   (((!decide (inR (Msg.kind m) (1 : Int) (3 : Int))) = true) →
   ((!!decide (inR (Msg.kind m) (1 : Int) (5 : Int)) && !decide (inR (Msg.kind m) (1 : Int) (3 : Int))) = true)))) ∧
   (∀ b_1 : Bool,
   ((b_1 = bif !decide (inR (Msg.kind m) (1 : Int) (3 : Int)) then b else false) →
   (((true = true) →
   (((!decide (inR (Msg.kind m) (1 : Int) (5 : Int))) = false) →
   ((!!decide (inR (Msg.kind m) (1 : Int) (5 : Int))) = true))) ∧
   (∀ b_2 : Bool,
   ((b_2 = bif !decide (inR (Msg.kind m) (1 : Int) (5 : Int)) then true else b_1) →
   ((tq (!b_2)) ∧
   ((tq (!b_2)) ∧
   ((tq (!b_2)) ∧
   ((tq (!b_2 && Msg.kind m != (4 : Int))) ∧
   ((tq (!b_2 && Msg.kind m != (4 : Int))) ∧
   ((tq (!b_2 && Msg.kind m != (4 : Int))) ∧
   ((tq (!b_2)) ∧
   ((((!b_2) = true) →
   (((!b_2) = true) →
   (((Msg.kind m != (4 : Int)) = true) →
   ((!b_2 && Msg.kind m != (4 : Int)) = true)))) ∧
   (∀ b_3 : Bool,
   ((b_3 = bif Msg.kind m != (4 : Int) then decide ((↑(List.length (Msg.certs m)) : Int) > (0 : Int)) else false) →
   (((true = true) →
   ((b_2 = false) →
   ((!b_2) = true))) ∧
   (∀ b_4 : Bool,
   ((b_4 = bif b_2 then true else b_3) →
   ((tq (!b_4)) ∧
   ((tq (!b_4)) ∧
   ((tq (!b_4)) ∧
   ((tq (!b_4 && Msg.kind m != (5 : Int))) ∧
   ((tq (!b_4 && Msg.kind m != (5 : Int))) ∧
   ((tq (!b_4 && Msg.kind m != (5 : Int))) ∧
   ((tq (!b_4)) ∧
   ((((!b_4) = true) →
   (((!b_4) = true) →
   (((Msg.kind m != (5 : Int)) = true) →
   ((!b_4 && Msg.kind m != (5 : Int)) = true)))) ∧
   (∀ b_5 : Bool,
   ((b_5 = bif Msg.kind m != (5 : Int) then decide ((↑(List.length (Msg.refs m)) : Int) > (0 : Int)) else false) →
   (((true = true) →
   ((b_4 = false) →
   ((!b_4) = true))) ∧
   (∀ b_6 : Bool,
   ((b_6 = bif b_4 then true else b_5) →
   (((b_6 = true) →
   (VLe (V.int IntKind.i64 (1 : Int)) (V.int IntKind.i64 (msgFault f m)))) ∧
   ((b_6 = false) →
   ((pr50 (Msg.view m)) ∧
   ((tq (!!decide (inR (Msg.view m) (0 : Int) (20 : Int)))) ∧
   ((tq (!!decide (inR (Msg.view m) (0 : Int) (20 : Int)))) ∧
   ((tq (!!decide (inR (Msg.view m) (0 : Int) (20 : Int)))) ∧
   ((((!!decide (inR (Msg.view m) (0 : Int) (20 : Int))) = true) →
   (pr77 f (Msg.sender m))) ∧
   ((tq (!!decide (inR (Msg.view m) (0 : Int) (20 : Int)))) ∧
   (((true = true) →
   (((!decide (inR (Msg.view m) (0 : Int) (20 : Int))) = false) →
   ((!!decide (inR (Msg.view m) (0 : Int) (20 : Int))) = true))) ∧
   (∀ b_7 : Bool,
   ((b_7 =
   bif !decide (inR (Msg.view m) (0 : Int) (20 : Int)) then true
   else !decide (inR (Msg.sender m) (1 : Int) ((3 : Int) * f + (1 : Int)))) →
   ((tq (!b_7)) ∧
   ((tq (!b_7 && decide (inR (Msg.kind m) (1 : Int) (3 : Int)))) ∧
   ((tq (!b_7 && decide (inR (Msg.kind m) (1 : Int) (3 : Int)))) ∧
   ((((!b_7 && decide (inR (Msg.kind m) (1 : Int) (3 : Int))) = true) →
   (pr116 (Msg.slot m))) ∧
   ((tq (!b_7 && decide (inR (Msg.kind m) (1 : Int) (3 : Int)))) ∧
   ((tq (!b_7 && decide (inR (Msg.kind m) (1 : Int) (3 : Int)))) ∧
   ((tq (!b_7 && decide (inR (Msg.kind m) (1 : Int) (3 : Int)) && !!decide (inR (Msg.slot m) (1 : Int) (30 : Int)))) ∧
   ((tq (!b_7 && decide (inR (Msg.kind m) (1 : Int) (3 : Int)) && !!decide (inR (Msg.slot m) (1 : Int) (30 : Int)))) ∧
   ((((!b_7 && decide (inR (Msg.kind m) (1 : Int) (3 : Int)) && !!decide (inR (Msg.slot m) (1 : Int) (30 : Int))) = true) →
   (pr117 (Msg.value m))) ∧
   ((tq (!b_7 && decide (inR (Msg.kind m) (1 : Int) (3 : Int)) && !!decide (inR (Msg.slot m) (1 : Int) (30 : Int)))) ∧
   ((tq (!b_7 && decide (inR (Msg.kind m) (1 : Int) (3 : Int)))) ∧
   ((((!b_7 && decide (inR (Msg.kind m) (1 : Int) (3 : Int))) = true) →
   (((!b_7 && decide (inR (Msg.kind m) (1 : Int) (3 : Int))) = true) →
   (((!decide (inR (Msg.slot m) (1 : Int) (30 : Int))) = false) →
   ((!b_7 && decide (inR (Msg.kind m) (1 : Int) (3 : Int)) && !!decide (inR (Msg.slot m) (1 : Int) (30 : Int))) = true)))) ∧
   (∀ b_8 : Bool,
   ((b_8 =
   bif !decide (inR (Msg.slot m) (1 : Int) (30 : Int)) then true else !decide (inR (Msg.value m) (0 : Int) (12 : Int))) →
   ((tq (!b_7)) ∧
   ((((!b_7) = true) →
   (((!b_7) = true) →
   ((decide (inR (Msg.kind m) (1 : Int) (3 : Int)) = true) →
   ((!b_7 && decide (inR (Msg.kind m) (1 : Int) (3 : Int))) = true)))) ∧
   (∀ b_9 : Bool,
   ((b_9 = bif decide (inR (Msg.kind m) (1 : Int) (3 : Int)) then b_8 else false) →
   (((true = true) →
   ((b_7 = false) →
   ((!b_7) = true))) ∧
   (∀ b_10 : Bool,
   ((b_10 = bif b_7 then true else b_9) →
   (((b_10 = true) →
   (VLe (V.int IntKind.i64 (3 : Int)) (V.int IntKind.i64 (msgFault f m)))) ∧
   ((b_10 = false) →
   ((tq (!decide ((↑(List.length (Msg.certs m)) : Int) > (30 : Int)))) ∧
   ((tq (!decide ((↑(List.length (Msg.certs m)) : Int) > (30 : Int)))) ∧
   ((tq (!decide ((↑(List.length (Msg.certs m)) : Int) > (30 : Int)))) ∧
   ((((!decide ((↑(List.length (Msg.certs m)) : Int) > (30 : Int))) = true) →
   (pr57 f)) ∧
   ((tq (!decide ((↑(List.length (Msg.certs m)) : Int) > (30 : Int)))) ∧
   ((tq (!decide ((↑(List.length (Msg.certs m)) : Int) > (30 : Int)))) ∧
   (((true = true) →
   ((decide ((↑(List.length (Msg.certs m)) : Int) > (30 : Int)) = false) →
   ((!decide ((↑(List.length (Msg.certs m)) : Int) > (30 : Int))) = true))) ∧
   (∀ b_11 : Bool,
   ((b_11 =
   bif decide ((↑(List.length (Msg.certs m)) : Int) > (30 : Int)) then true
   else decide ((↑(List.length (Msg.refs m)) : Int) > (3 : Int) * f + (1 : Int))) →
   (((b_11 = true) →
   (VLe (V.int IntKind.i64 (2 : Int)) (V.int IntKind.i64 (msgFault f m)))) ∧
   ((b_11 = false) →
   ((∃ x : Nat, ((SLe
   (AS.mk
   [(0, V.int IntKind.i64 f), (3, V.oref 256 0 0),
   (95, encL (encCert 1) 1 (Msg.certs m)),
   (96, V.int IntKind.i64 (↑(List.length (Msg.certs m)) : Int)), (97, V.int IntKind.i64 (0 : Int))]
   [(256,
   Blk.box
   [V.int IntKind.i64 (Msg.kind m), V.int IntKind.i64 (Msg.view m), V.int IntKind.i64 (Msg.sender m),
   V.int IntKind.i64 (Msg.slot m), V.int IntKind.i64 (Msg.value m),
   encL (encCert 1) 1 (Msg.certs m), encL encI 1 (Msg.refs m)])])
   (AS.mk
   [(0, V.int IntKind.i64 f), (3, V.oref 256 0 0),
   (95, encL (encCert 1) 1 (Msg.certs m)),
   (96, V.int IntKind.i64 (↑(List.length (Msg.certs m)) : Int)), (97, V.int IntKind.i64 (↑x : Int))]
   [(256,
   Blk.box
   [V.int IntKind.i64 (Msg.kind m), V.int IntKind.i64 (Msg.view m), V.int IntKind.i64 (Msg.sender m),
   V.int IntKind.i64 (Msg.slot m), V.int IntKind.i64 (Msg.value m),
   encL (encCert 1) 1 (Msg.certs m), encL encI 1 (Msg.refs m)])])) ∧
   ((x ≤ List.length (Msg.certs m)) ∧
   (∀ j : Nat,
   ((1 ≤ j) →
   ((j < x) →
   (Cert.slot (List.getD (Msg.certs m) (j - 1) default) < Cert.slot (List.getD (Msg.certs m) j default)))))))) ∧
   (∀ x : Nat,
   (((x ≤ List.length (Msg.certs m)) ∧
   (∀ j : Nat,
   ((1 ≤ j) →
   ((j < x) →
   (Cert.slot (List.getD (Msg.certs m) (j - 1) default) < Cert.slot (List.getD (Msg.certs m) j default)))))) →
   (((decide ((↑x : Int) < (↑(List.length (Msg.certs m)) : Int)) = true) →
   ((((0 : Int) ≤ (↑x : Int)) ∧
   ((↑x : Int) < (↑(List.length (Msg.certs m)) : Int))) ∧
   ((tq (decide ((↑x : Int) > (0 : Int)))) ∧
   ((tq (decide ((↑x : Int) > (0 : Int)))) ∧
   ((tq (decide ((↑x : Int) > (0 : Int)))) ∧
   (((decide ((↑x : Int) > (0 : Int)) = true) →
   (inK IntKind.i64 ((↑x : Int) - (1 : Int)))) ∧
   ((tq (decide ((↑x : Int) > (0 : Int)))) ∧
   ((tq (decide ((↑x : Int) > (0 : Int)))) ∧
   (((decide ((↑x : Int) > (0 : Int)) = true) →
   (((0 : Int) ≤ (↑x : Int) - (1 : Int)) ∧
   ((↑x : Int) - (1 : Int) < (↑(List.length (Msg.certs m)) : Int)))) ∧
   ((tq (decide ((↑x : Int) > (0 : Int)))) ∧
   ((tq (decide ((↑x : Int) > (0 : Int)))) ∧
   ((tq (decide ((↑x : Int) > (0 : Int)))) ∧
   ((tq (decide ((↑x : Int) > (0 : Int)))) ∧
   (((true = true) →
   ((decide ((↑x : Int) > (0 : Int)) = true) →
   (decide ((↑x : Int) > (0 : Int)) = true))) ∧
   (∀ b_12 : Bool,
   ((b_12 =
   bif decide ((↑x : Int) > (0 : Int)) then
   decide
   (Cert.slot (List.getD (Msg.certs m) (Int.toNat (↑x : Int)) default) ≤
   Cert.slot (List.getD (Msg.certs m) (Int.toNat ((↑x : Int) - (1 : Int))) default))
   else false) →
   (((b_12 = true) →
   (VLe (V.int IntKind.i64 (1 : Int)) (V.int IntKind.i64 (msgFault f m)))) ∧
   ((b_12 = false) →
   ((inK IntKind.i64 ((↑x : Int) + (1 : Int))) ∧
   (∃ y : Nat, ((SLe
   (AS.mk
   [(0, V.int IntKind.i64 f), (3, V.oref 256 0 0),
   (95, encL (encCert 1) 1 (Msg.certs m)),
   (96, V.int IntKind.i64 (↑(List.length (Msg.certs m)) : Int)),
   (97, V.int IntKind.i64 ((↑x : Int) + (1 : Int)))]
   [(256,
   Blk.box
   [V.int IntKind.i64 (Msg.kind m), V.int IntKind.i64 (Msg.view m), V.int IntKind.i64 (Msg.sender m),
   V.int IntKind.i64 (Msg.slot m), V.int IntKind.i64 (Msg.value m),
   encL (encCert 1) 1 (Msg.certs m), encL encI 1 (Msg.refs m)])])
   (AS.mk
   [(0, V.int IntKind.i64 f), (3, V.oref 256 0 0),
   (95, encL (encCert 1) 1 (Msg.certs m)),
   (96, V.int IntKind.i64 (↑(List.length (Msg.certs m)) : Int)), (97, V.int IntKind.i64 (↑y : Int))]
   [(256,
   Blk.box
   [V.int IntKind.i64 (Msg.kind m), V.int IntKind.i64 (Msg.view m), V.int IntKind.i64 (Msg.sender m),
   V.int IntKind.i64 (Msg.slot m), V.int IntKind.i64 (Msg.value m),
   encL (encCert 1) 1 (Msg.certs m), encL encI 1 (Msg.refs m)])])) ∧
   (((y ≤ List.length (Msg.certs m)) ∧
   (∀ j : Nat,
   ((1 ≤ j) →
   ((j < y) →
   (Cert.slot (List.getD (Msg.certs m) (j - 1) default) < Cert.slot (List.getD (Msg.certs m) j default)))))) ∧
   (List.length (Msg.certs m) - y < List.length (Msg.certs m) - x))))))))))))))))))))))) ∧
   ((decide ((↑x : Int) < (↑(List.length (Msg.certs m)) : Int)) = false) →
   ((∃ x_1 : Nat, ((SLe
   (AS.mk
   [(3, V.oref 256 0 0), (118, encL encI 1 (Msg.refs m)),
   (119, V.int IntKind.i64 (↑(List.length (Msg.refs m)) : Int)), (120, V.int IntKind.i64 (0 : Int))]
   [(256,
   Blk.box
   [V.int IntKind.i64 (Msg.kind m), V.int IntKind.i64 (Msg.view m), V.int IntKind.i64 (Msg.sender m),
   V.int IntKind.i64 (Msg.slot m), V.int IntKind.i64 (Msg.value m),
   encL (encCert 1) 1 (Msg.certs m), encL encI 1 (Msg.refs m)])])
   (AS.mk
   [(3, V.oref 256 0 0), (118, encL encI 1 (Msg.refs m)),
   (119, V.int IntKind.i64 (↑(List.length (Msg.refs m)) : Int)),
   (120, V.int IntKind.i64 (↑x_1 : Int))]
   [(256,
   Blk.box
   [V.int IntKind.i64 (Msg.kind m), V.int IntKind.i64 (Msg.view m), V.int IntKind.i64 (Msg.sender m),
   V.int IntKind.i64 (Msg.slot m), V.int IntKind.i64 (Msg.value m),
   encL (encCert 1) 1 (Msg.certs m), encL encI 1 (Msg.refs m)])])) ∧
   ((x_1 ≤ List.length (Msg.refs m)) ∧
   (∀ j : Nat,
   ((1 ≤ j) →
   ((j < x_1) →
   (List.getD (Msg.refs m) (j - 1) default < List.getD (Msg.refs m) j default))))))) ∧
   (∀ x_1 : Nat,
   (((x_1 ≤ List.length (Msg.refs m)) ∧
   (∀ j : Nat,
   ((1 ≤ j) →
   ((j < x_1) →
   (List.getD (Msg.refs m) (j - 1) default < List.getD (Msg.refs m) j default))))) →
   (((decide ((↑x_1 : Int) < (↑(List.length (Msg.refs m)) : Int)) = true) →
   ((((0 : Int) ≤ (↑x_1 : Int)) ∧
   ((↑x_1 : Int) < (↑(List.length (Msg.refs m)) : Int))) ∧
   ((tq (decide ((↑x_1 : Int) > (0 : Int)))) ∧
   ((tq (decide ((↑x_1 : Int) > (0 : Int)))) ∧
   (((decide ((↑x_1 : Int) > (0 : Int)) = true) →
   (inK IntKind.i64 ((↑x_1 : Int) - (1 : Int)))) ∧
   ((tq (decide ((↑x_1 : Int) > (0 : Int)))) ∧
   ((tq (decide ((↑x_1 : Int) > (0 : Int)))) ∧
   (((decide ((↑x_1 : Int) > (0 : Int)) = true) →
   (((0 : Int) ≤ (↑x_1 : Int) - (1 : Int)) ∧
   ((↑x_1 : Int) - (1 : Int) < (↑(List.length (Msg.refs m)) : Int)))) ∧
   ((tq (decide ((↑x_1 : Int) > (0 : Int)))) ∧
   ((tq (decide ((↑x_1 : Int) > (0 : Int)))) ∧
   ((tq (decide ((↑x_1 : Int) > (0 : Int)))) ∧
   (((true = true) →
   ((decide ((↑x_1 : Int) > (0 : Int)) = true) →
   (decide ((↑x_1 : Int) > (0 : Int)) = true))) ∧
   (∀ b_12 : Bool,
   ((b_12 =
   bif decide ((↑x_1 : Int) > (0 : Int)) then
   decide
   (List.getD (Msg.refs m) (Int.toNat (↑x_1 : Int)) default ≤
   List.getD (Msg.refs m) (Int.toNat ((↑x_1 : Int) - (1 : Int))) default)
   else false) →
   (((b_12 = true) →
   (VLe (V.int IntKind.i64 (1 : Int)) (V.int IntKind.i64 (msgFault f m)))) ∧
   ((b_12 = false) →
   ((inK IntKind.i64 ((↑x_1 : Int) + (1 : Int))) ∧
   (∃ y : Nat, ((SLe
   (AS.mk
   [(3, V.oref 256 0 0), (118, encL encI 1 (Msg.refs m)),
   (119, V.int IntKind.i64 (↑(List.length (Msg.refs m)) : Int)),
   (120, V.int IntKind.i64 ((↑x_1 : Int) + (1 : Int)))]
   [(256,
   Blk.box
   [V.int IntKind.i64 (Msg.kind m), V.int IntKind.i64 (Msg.view m), V.int IntKind.i64 (Msg.sender m),
   V.int IntKind.i64 (Msg.slot m), V.int IntKind.i64 (Msg.value m),
   encL (encCert 1) 1 (Msg.certs m), encL encI 1 (Msg.refs m)])])
   (AS.mk
   [(3, V.oref 256 0 0), (118, encL encI 1 (Msg.refs m)),
   (119, V.int IntKind.i64 (↑(List.length (Msg.refs m)) : Int)), (120, V.int IntKind.i64 (↑y : Int))]
   [(256,
   Blk.box
   [V.int IntKind.i64 (Msg.kind m), V.int IntKind.i64 (Msg.view m), V.int IntKind.i64 (Msg.sender m),
   V.int IntKind.i64 (Msg.slot m), V.int IntKind.i64 (Msg.value m),
   encL (encCert 1) 1 (Msg.certs m), encL encI 1 (Msg.refs m)])])) ∧
   (((y ≤ List.length (Msg.refs m)) ∧
   (∀ j : Nat,
   ((1 ≤ j) →
   ((j < y) →
   (List.getD (Msg.refs m) (j - 1) default < List.getD (Msg.refs m) j default))))) ∧
   (List.length (Msg.refs m) - y < List.length (Msg.refs m) - x_1))))))))))))))))))))) ∧
   ((decide ((↑x_1 : Int) < (↑(List.length (Msg.refs m)) : Int)) = false) →
   (((VLe (encL (encCert 1) 1 (Msg.certs m))
   (encL (encCert 1) 1 (decL decCert (encL (encCert 1) 1 (Msg.certs m))))) ∧
   ((VLe (encPMsg 1 m) (encPMsg 1 (decPMsg (encPMsg 1 m)))) ∧
   (pr100_124 (decL decCert (encL (encCert 1) 1 (Msg.certs m))) (decPMsg (encPMsg 1 m))))) ∧
   ((((List.any (decL decCert (encL (encCert 1) 1 (Msg.certs m))) fun (c : Cert) ↦
   decide ¬goodC (decPMsg (encPMsg 1 m)) c) =
   true) →
   (VLe (V.int IntKind.i64 (3 : Int)) (V.int IntKind.i64 (msgFault f m)))) ∧
   (((List.any (decL decCert (encL (encCert 1) 1 (Msg.certs m))) fun (c : Cert) ↦
   decide ¬goodC (decPMsg (encPMsg 1 m)) c) =
   false) →
   (((VLe (encL encI 1 (Msg.refs m)) (encL encI 1 (decL decI (encL encI 1 (Msg.refs m))))) ∧
   (pr58_125 (decL decI (encL encI 1 (Msg.refs m))))) ∧
   ((((List.any (decL decI (encL encI 1 (Msg.refs m))) fun (r : Int) ↦ decide ¬goodR r) = true) →
   (VLe (V.int IntKind.i64 (3 : Int)) (V.int IntKind.i64 (msgFault f m)))) ∧
   (((List.any (decL decI (encL encI 1 (Msg.refs m))) fun (r : Int) ↦ decide ¬goodR r) = false) →
   (VLe (V.int IntKind.i64 (0 : Int)) (V.int IntKind.i64 (msgFault f m)))))))))))))))))))))))))))))))))))))))))))))))))))))))))))))))))))))))))))))))))))))))))))))))))))))))))))))) := by
    obtain ⟨hf, hc, hr⟩ := hpre
    have hf' : 1 ≤ f ∧ f ≤ 2 := by unfold okF at hf; omega
    unfold maxLen at hc hr
    repeat (first | (refine And.intro (fun h _ => h) ?_) | (refine And.intro (fun _ h => h) ?_) | (refine And.intro ?aa ?_; case aa => (simp [hf, pr123, pr60, pr50, pr77, pr116, pr117, pr57, pr100_124, pr58_125]; done)) | (refine And.intro ?aa ?_; case aa => (simp_all [hf, pr123, pr60, pr50, pr77, pr116, pr117, pr57, pr100_124, pr58_125]; done)) | (refine And.intro ?aa ?_; case aa => (intros; exact inK64 (by omega))) | (refine And.intro ?aa ?_; case aa => (intros; simp only [decide_eq_true_eq] at *; omega)) | (intro q hq))
    have e0 : q = decide (¬ bare m) := by
      subst_vars
      rw [Bool.eq_iff_iff]
      simp
      try simp only [bare, inR, ← List.length_eq_zero_iff]
      try omega
    clear hq
    refine ⟨fun h => ?_, fun h => ?_⟩
    · have hn : ¬ bare m := by simpa [e0] using h
      refine vle_int ?_
      unfold msgFault
      rw [if_pos hn]
    · have hb : bare m := by simpa [e0] using h
      clear e0 h
      repeat (first | (refine And.intro (fun h _ => h) ?_) | (refine And.intro (fun _ h => h) ?_) | (refine And.intro ?aa ?_; case aa => (simp [hf, pr123, pr60, pr50, pr77, pr116, pr117, pr57, pr100_124, pr58_125]; done)) | (refine And.intro ?aa ?_; case aa => (simp_all [hf, pr123, pr60, pr50, pr77, pr116, pr117, pr57, pr100_124, pr58_125]; done)) | (refine And.intro ?aa ?_; case aa => (intros; exact inK64 (by omega))) | (refine And.intro ?aa ?_; case aa => (intros; simp only [decide_eq_true_eq] at *; omega)) | (intro q hq))
      have e0 : q = decide (¬ ranged f m) := by
        subst_vars
        rw [Bool.eq_iff_iff]
        simp
        try simp only [ranged, inR]
        try omega
      clear hq
      refine ⟨fun h => ?_, fun h => ?_⟩
      · have hn : ¬ ranged f m := by simpa [e0] using h
        refine vle_int ?_
        unfold msgFault
        rw [if_neg (not_not_intro hb), if_pos hn]
      · have hra : ranged f m := by simpa [e0] using h
        clear e0 h
        repeat (first | (refine And.intro (fun h _ => h) ?_) | (refine And.intro (fun _ h => h) ?_) | (refine And.intro ?aa ?_; case aa => (simp [hf, pr123, pr60, pr50, pr77, pr116, pr117, pr57, pr100_124, pr58_125]; done)) | (refine And.intro ?aa ?_; case aa => (simp_all [hf, pr123, pr60, pr50, pr77, pr116, pr117, pr57, pr100_124, pr58_125]; done)) | (refine And.intro ?aa ?_; case aa => (intros; exact inK64 (by omega))) | (refine And.intro ?aa ?_; case aa => (intros; simp only [decide_eq_true_eq] at *; omega)) | (intro q hq))
        have e0 : q = decide (¬ few f m) := by
          subst_vars
          rw [Bool.eq_iff_iff]
          simp
          try simp only [few]
          try omega
        clear hq
        refine ⟨fun h => ?_, fun h => ?_⟩
        · have hn : ¬ few f m := by simpa [e0] using h
          refine vle_int ?_
          unfold msgFault
          rw [if_neg (not_not_intro hb), if_neg (not_not_intro hra), if_pos hn]
        · have hfw : few f m := by simpa [e0] using h
          clear e0 h
          refine ⟨⟨0, SLe.refl _, by omega, fun j h1 h2 => by omega⟩, ?_⟩
          rintro i ⟨hi, hj⟩
          refine ⟨fun h => ?_, fun h => ?_⟩
          · have hlt : i < m.certs.length := by simpa using h
            clear h
            try simp only [Int.toNat_natCast]
            refine ⟨⟨by omega, by omega⟩, ?_⟩
            repeat (first | (refine And.intro (fun h _ => h) ?_) | (refine And.intro (fun _ h => h) ?_) | (refine And.intro ?aa ?_; case aa => (simp [pr123, pr60, pr50, pr77, pr116, pr117, pr57, pr100_124, pr58_125]; done)) | (refine And.intro ?aa ?_; case aa => (simp_all [pr123, pr60, pr50, pr77, pr116, pr117, pr57, pr100_124, pr58_125]; done)) | (refine And.intro ?aa ?_; case aa => (intros; exact inK64 (by omega))) | (refine And.intro ?aa ?_; case aa => (intros; simp only [decide_eq_true_eq] at *; omega)) | (intro q hq))
            subst_vars
            refine ⟨fun h2 => ?_, fun h2 => ⟨inK64 (by omega), i + 1, SLe.refl _, ⟨by omega, fun j h3 h4 => ?_⟩, by omega⟩⟩
            · simp at h2
              have e1 : ((i : Int) - 1).toNat = i - 1 := by omega
              refine vle_int ?_
              have : ¬ (riseC m.certs ∧ riseR m.refs) := fun hh => by
                have h6 := hh.1 i (by omega) hlt
                have h7 := h2.2
                try simp only [e1] at h7
                simp at h6 h7
                omega
              unfold msgFault listsFault
              rw [if_neg (not_not_intro hb), if_neg (not_not_intro hra), if_neg (not_not_intro hfw), if_pos this]
            · rcases Nat.lt_or_ge j i with h5 | h5
              · exact hj j h3 h5
              · have : j = i := by omega
                subst this
                have e1 : ((j : Int) - 1).toNat = j - 1 := by omega
                have hj0 : (0 : Int) < j := by omega
                simp only [e1, hj0, gt_iff_lt, decide_true, cond_true, decide_eq_false_iff_not] at h2
                omega
          · have hge : m.certs.length ≤ i := by simpa using h
            have hrc : riseC m.certs := fun j h3 h4 => hj j h3 (by omega)
            clear hj hi h hge i
            refine ⟨⟨0, SLe.refl _, by omega, fun j h1 h2 => by omega⟩, ?_⟩
            rintro i ⟨hi, hj⟩
            refine ⟨fun h => ?_, fun h => ?_⟩
            · have hlt : i < m.refs.length := by simpa using h
              clear h
              try simp only [Int.toNat_natCast]
              refine ⟨⟨by omega, by omega⟩, ?_⟩
              repeat (first | (refine And.intro (fun h _ => h) ?_) | (refine And.intro (fun _ h => h) ?_) | (refine And.intro ?aa ?_; case aa => (simp [pr123, pr60, pr50, pr77, pr116, pr117, pr57, pr100_124, pr58_125]; done)) | (refine And.intro ?aa ?_; case aa => (simp_all [pr123, pr60, pr50, pr77, pr116, pr117, pr57, pr100_124, pr58_125]; done)) | (refine And.intro ?aa ?_; case aa => (intros; exact inK64 (by omega))) | (refine And.intro ?aa ?_; case aa => (intros; simp only [decide_eq_true_eq] at *; omega)) | (intro q hq))
              subst_vars
              refine ⟨fun h2 => ?_, fun h2 => ⟨inK64 (by omega), i + 1, SLe.refl _, ⟨by omega, fun j h3 h4 => ?_⟩, by omega⟩⟩
              · simp at h2
                have e1 : ((i : Int) - 1).toNat = i - 1 := by omega
                refine vle_int ?_
                have : ¬ (riseC m.certs ∧ riseR m.refs) := fun hh => by
                  have h6 := hh.2 i (by omega) hlt
                  have h7 := h2.2
                  try simp only [e1] at h7
                  simp at h6 h7
                  omega
                unfold msgFault listsFault
                rw [if_neg (not_not_intro hb), if_neg (not_not_intro hra), if_neg (not_not_intro hfw), if_pos this]
              · rcases Nat.lt_or_ge j i with h5 | h5
                · exact hj j h3 h5
                · have : j = i := by omega
                  subst this
                  have e1 : ((j : Int) - 1).toNat = j - 1 := by omega
                  have hj0 : (0 : Int) < j := by omega
                  simp only [e1, hj0, gt_iff_lt, decide_true, cond_true, decide_eq_false_iff_not] at h2
                  omega
            · have hge : m.refs.length ≤ i := by simpa using h
              have hrr : riseR m.refs := fun j h3 h4 => hj j h3 (by omega)
              clear hj hi h hge i
              simp only [decL_Cert, decL_ints, dec_encPMsg]
              refine ⟨⟨VLe.refl _, VLe.refl _, by unfold maxLen; omega, hra.1⟩, fun h2 => ?_, fun h2 => ⟨⟨VLe.refl _, by unfold maxLen; omega, trivial⟩, fun h3 => ?_, fun h3 => ?_⟩⟩
              · refine vle_int ?_
                unfold msgFault listsFault
                rw [if_neg (not_not_intro hb), if_neg (not_not_intro hra), if_neg (not_not_intro hfw), if_neg (not_not_intro ⟨hrc, hrr⟩), if_pos ?_]
                intro hh
                obtain ⟨c, hc, hg⟩ := List.any_eq_true.1 h2
                exact (of_decide_eq_true hg) (hh.1 c hc)
              · refine vle_int ?_
                unfold msgFault listsFault
                rw [if_neg (not_not_intro hb), if_neg (not_not_intro hra), if_neg (not_not_intro hfw), if_neg (not_not_intro ⟨hrc, hrr⟩), if_pos ?_]
                intro hh
                obtain ⟨c, hc, hg⟩ := List.any_eq_true.1 h3
                exact (of_decide_eq_true hg) (hh.2 c hc)
              · have hA : ∀ c ∈ m.certs, goodC m c := fun c hc => by
                  have := List.any_eq_false.1 h2 c hc
                  simpa using this
                have hB : ∀ r ∈ m.refs, goodR r := fun c hc => by
                  have := List.any_eq_false.1 h3 c hc
                  simpa using this
                refine vle_int ?_
                unfold msgFault listsFault
                rw [if_neg (not_not_intro hb), if_neg (not_not_intro hra), if_neg (not_not_intro hfw), if_neg (not_not_intro ⟨hrc, hrr⟩), if_neg (not_not_intro ⟨hA, hB⟩)]
  exact Eq.mp (by kernel_rfl) key
theorem so81 : Sound Tryz.prog 81 sp81 := by
  refine sound_of_body hmix (pol := 0) Tryz.func81 rfl (by kernel_rfl) fun args bin ob r bout hDe hob => ?_
  unfold sp81 at hDe
  split at hDe
  · rename_i a0 a1
    cases hDe
    exact ⟨rfl, rfl, Nat.le_of_ble_eq_true (by kernel_rfl), cx81 a0 (decMsg a1), Eq.mp (by kernel_rfl) htt, Eq.mp (by kernel_rfl) da81, Eq.mp (by kernel_rfl) (noM_sound (P := Tryz.prog)), by kernel_rfl, [.int .i64 (a0), encMsg 1 ((decMsg a1))], args_of_vles (⟨VLe.refl _, hob.1, trivial⟩), Eq.mp (by kernel_rfl) (bd81 a0 (decMsg a1) (hob.2))⟩
  · cases hDe

/-! ### impl.MsgFault -/
def pr36 (f : Int) (m : Msg) : Prop := m.bd
noncomputable def rs36 (f : Int) (m : Msg) : V := .int .i64 (if okF f then msgFault f m else 3)
noncomputable def sp36 : FSpec := fun args bin => match args, bin with
  | [.int .i64 a0, a1], [] => some (VLe a1 (encMsg 1 ((decMsg a1))) ∧ pr36 a0 (decMsg a1), rs36 a0 (decMsg a1), [])
  | _, _ => none
noncomputable def D36 : Nat → Option (Bool × FSpec) := lk [(55, (false, sp55)), (81, (false, sp81))]
theorem da36 : SoundAll Tryz.prog D36 := soundAll_cons so55 (soundAll_cons so81 (soundAll_nil))
noncomputable def cx36 (f : Int) (m : Msg) : Cx := ⟨tt, D36, Tryz.f36.ntmps, [0, 1, 3, 4, 7], [], [], fun _ => none, [], noM, []⟩
theorem bd36 (f : Int) (m : Msg) (hpre : pr36 f m) : bodyP (cx36 f m) Tryz.f36 0 [.int .i64 (f), encMsg 1 (m)] (fun rr => VLe rr (rs36 f m)) := by
  have key :
      ((pr55 f) ∧
   ((((!decide (okF f)) = true) →
   (VLe (V.int IntKind.i64 (3 : Int)) (V.int IntKind.i64 (if okF f then msgFault f m else (3 : Int))))) ∧
   (((!decide (okF f)) = false) →
   (((VLe (encMsg 1 m) (encMsg 1 (decMsg (encMsg 1 m)))) ∧
   (pr81 f (decMsg (encMsg 1 m)))) ∧
   (VLe (V.int IntKind.i64 (msgFault f (decMsg (encMsg 1 m))))
   (V.int IntKind.i64 (if okF f then msgFault f m else (3 : Int)))))))) := by
    simp only [dec_encMsg]
    refine ⟨trivial, fun h => ?_, fun h => ?_⟩
    · have hf : ¬ okF f := by simpa using h
      simp [hf]
    · have hf : okF f := by simpa using h
      refine ⟨⟨VLe.refl _, hf, hpre⟩, vle_int ?_⟩
      rw [if_pos hf]
  exact Eq.mp (by kernel_rfl) key
theorem so36 : Sound Tryz.prog 36 sp36 := by
  refine sound_of_body hmix (pol := 0) Tryz.func36 rfl (by kernel_rfl) fun args bin ob r bout hDe hob => ?_
  unfold sp36 at hDe
  split at hDe
  · rename_i a0 a1
    cases hDe
    exact ⟨rfl, rfl, Nat.le_of_ble_eq_true (by kernel_rfl), cx36 a0 (decMsg a1), Eq.mp (by kernel_rfl) htt, Eq.mp (by kernel_rfl) da36, Eq.mp (by kernel_rfl) (noM_sound (P := Tryz.prog)), by kernel_rfl, [.int .i64 (a0), encMsg 1 ((decMsg a1))], args_of_vles (⟨VLe.refl _, hob.1, trivial⟩), Eq.mp (by kernel_rfl) (bd36 a0 (decMsg a1) (hob.2))⟩
  · cases hDe

end Go.Av
