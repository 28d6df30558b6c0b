/- How many are enough, who is the primary: as they are asked. -/
import Derived.Test.YtakcaanpnmkccaaGreatE11
namespace Go.Av
open Go.Proofs
set_option maxRecDepth 100000
set_option linter.unusedVariables false
set_option linter.unusedSimpArgs false

def needOfF (f : Int) : IntResult := if okF f then ⟨0, 2 * f + 1⟩ else ⟨3, 0⟩
noncomputable def primaryOfF (f view : Int) : IntResult := if okF f ∧ inR view 0 20 then ⟨0, primaryF f view⟩ else ⟨3, 0⟩

/-! ### impl.NeedOf -/
def pr12 (f : Int) : Prop := True
noncomputable def rs12 (f : Int) : V := encIntResult 0 (needOfF f)
noncomputable def sp12 : FSpec := fun args bin => match args, bin with
  | [.int .i64 a0], [] => some (pr12 a0, rs12 a0, [])
  | _, _ => none
noncomputable def D12 : Nat → Option (Bool × FSpec) := lk [(36, (false, sp36))]
theorem da12 : SoundAll Tryz.prog D12 := soundAll_cons so36 (soundAll_nil)
noncomputable def cx12 (f : Int) : Cx := ⟨tt, D12, Tryz.f12.ntmps, [0, 2, 5], [], [], fun _ => none, [], noM, []⟩
theorem bd12 (f : Int) (hpre : pr12 f) : bodyP (cx12 f) Tryz.f12 0 [.int .i64 (f)] (fun rr => VLe rr (rs12 f)) := by
  have key :
      ((pr36 f) ∧
   ((((!decide (okF f)) = true) →
   (VLe (V.agg [V.int IntKind.i64 (3 : Int), V.int IntKind.i64 (0 : Int)]) (encIntResult 1 (needOfF f)))) ∧
   (((!decide (okF f)) = false) →
   ((inK IntKind.i64 ((2 : Int) * f)) ∧
   ((inK IntKind.i64 ((2 : Int) * f + (1 : Int))) ∧
   (VLe (V.agg [V.int IntKind.i64 (0 : Int), V.int IntKind.i64 ((2 : Int) * f + (1 : Int))])
   (encIntResult 1 (needOfF f)))))))) := by
    unfold needOfF
    refine ⟨trivial, fun h => ?_, fun h => ?_⟩
    · have hf : ¬ okF f := by simpa using h
      rw [if_neg hf]
      exact VLe.refl _
    · have hf : okF f := by simpa using h
      rw [if_pos hf]
      unfold okF at hf
      exact ⟨inK64 (by omega), inK64 (by omega), VLe.refl _⟩
  exact Eq.mp (by kernel_rfl) key
theorem so12 : Sound Tryz.prog 12 sp12 := by
  refine sound_of_body hmix (pol := 0) Tryz.func12 rfl (by kernel_rfl) fun args bin ob r bout hDe hob => ?_
  unfold sp12 at hDe
  split at hDe
  · rename_i a0
    cases hDe
    exact ⟨rfl, rfl, Nat.le_of_ble_eq_true (by kernel_rfl), cx12 a0, Eq.mp (by kernel_rfl) htt, Eq.mp (by kernel_rfl) da12, Eq.mp (by kernel_rfl) (noM_sound (P := Tryz.prog)), by kernel_rfl, [.int .i64 (a0)], args_of_vles (⟨VLe.refl _, trivial⟩), Eq.mp (by kernel_rfl) (bd12 a0 (hob))⟩
  · cases hDe

/-! ### impl.PrimaryOf -/
def pr13 (f : Int) (view : Int) : Prop := True
noncomputable def rs13 (f : Int) (view : Int) : V := encIntResult 0 (primaryOfF f view)
noncomputable def sp13 : FSpec := fun args bin => match args, bin with
  | [.int .i64 a0, .int .i64 a1], [] => some (pr13 a0 a1, rs13 a0 a1, [])
  | _, _ => none
noncomputable def D13 : Nat → Option (Bool × FSpec) := lk [(36, (false, sp36)), (31, (false, sp31)), (37, (false, sp37))]
theorem da13 : SoundAll Tryz.prog D13 := soundAll_cons so36 (soundAll_cons so31 (soundAll_cons so37 (soundAll_nil)))
noncomputable def cx13 (f : Int) (view : Int) : Cx := ⟨tt, D13, Tryz.f13.ntmps, [0, 1, 4, 12], [], [], fun _ => none, [], noM, []⟩
theorem bd13 (f : Int) (view : Int) (hpre : pr13 f view) : bodyP (cx13 f view) Tryz.f13 0 [.int .i64 (f), .int .i64 (view)] (fun rr => VLe rr (rs13 f view)) := by
  have key :
      ((pr36 f) ∧
   ((tq (!!decide (okF f))) ∧
   ((((!!decide (okF f)) = true) →
   (pr31 view)) ∧
   ((tq (!!decide (okF f))) ∧
   (((true = true) →
   (((!decide (okF f)) = false) →
   ((!!decide (okF f)) = true))) ∧
   (∀ b : Bool,
   ((b = bif !decide (okF f) then true else !decide (inR view (0 : Int) (20 : Int))) →
   (((b = true) →
   (VLe (V.agg [V.int IntKind.i64 (3 : Int), V.int IntKind.i64 (0 : Int)]) (encIntResult 1 (primaryOfF f view)))) ∧
   ((b = false) →
   ((pr37 f view) ∧
   (VLe (V.agg [V.int IntKind.i64 (0 : Int), V.int IntKind.i64 (primaryF f view)])
   (encIntResult 1 (primaryOfF f view))))))))))))) := by
    unfold primaryOfF
    repeat (first | (refine And.intro (fun h _ => h) ?_) | (refine And.intro (fun _ h => h) ?_) | (refine And.intro ?aa ?_; case aa => (exact trivial)) | (refine And.intro ?aa ?_; case aa => (exact fun _ => trivial)) | (refine And.intro ?aa ?_; case aa => (intros; simp_all [pr36, pr31, pr37]; done)) | (refine And.intro ?aa ?_; case aa => (intros; exact inK64 (by omega))) | (refine And.intro ?aa ?_; case aa => (intros; simp only [decide_eq_true_eq] at *; omega)) | (intro q hq))
    have e : q = decide (¬ (okF f ∧ inR view 0 20)) := by
      rw [hq, Bool.eq_iff_iff]
      by_cases a : okF f <;> simp [a]
    refine ⟨fun h => ?_, fun h => ?_⟩
    · rw [e] at h
      rw [if_neg (of_decide_eq_true h)]
      exact VLe.refl _
    · rw [e] at h
      have h1 := Classical.byContradiction fun g => of_decide_eq_false h g
      rw [if_pos h1]
      exact ⟨h1, VLe.refl _⟩
  exact Eq.mp (by kernel_rfl) key
theorem so13 : Sound Tryz.prog 13 sp13 := by
  refine sound_of_body hmix (pol := 0) Tryz.func13 rfl (by kernel_rfl) fun args bin ob r bout hDe hob => ?_
  unfold sp13 at hDe
  split at hDe
  · rename_i a0 a1
    cases hDe
    exact ⟨rfl, rfl, Nat.le_of_ble_eq_true (by kernel_rfl), cx13 a0 a1, Eq.mp (by kernel_rfl) htt, Eq.mp (by kernel_rfl) da13, Eq.mp (by kernel_rfl) (noM_sound (P := Tryz.prog)), by kernel_rfl, [.int .i64 (a0), .int .i64 (a1)], args_of_vles (⟨VLe.refl _, VLe.refl _, trivial⟩), Eq.mp (by kernel_rfl) (bd13 a0 a1 (hob))⟩
  · cases hDe

end Go.Av
