/- slices.Index, slices.Contains over whole numbers. -/
import Derived.Test.YtnfelcpanphhlaaGreatE1
import Derived.Test.YtnfelcpanphhlaaGreatP8
namespace Go.Av
open Go.Proofs
set_option maxRecDepth 100000
set_option linter.unusedVariables false
set_option linter.unusedSimpArgs false


/-! ### slices.Index(()int64,int64) -/
def pr134 (xs : List Int) (v : Int) : Prop := xs.length ≤ maxLen
noncomputable def rs134 (xs : List Int) (v : Int) : V := .int .i64 (idxF (fun x => decide (v = x)) xs)
noncomputable def sp134 : FSpec := fun args bin => match args, bin with
  | [a0, .int .i64 a1], [] => some (VLe a0 (encL encI 1 (((decL decI) a0))) ∧ pr134 ((decL decI) a0) a1, rs134 ((decL decI) a0) a1, [])
  | _, _ => none
noncomputable def in134_2 (xs : List Int) (v : Int) : LoopInv :=
  ⟨Nat, fun i => ⟨[(0, encL encI 1 xs), (1, .int .i64 v), (7, .int .i64 xs.length), (8, .int .i64 i)], []⟩,
    fun i => i ≤ xs.length ∧ ∀ j, j < i → (fun x => decide (v = x)) (xs.getD j default) = false, fun i => xs.length - i⟩
noncomputable def iv134 (xs : List Int) (v : Int) : Nat → Option LoopInv := fun rg_ => match rg_ with
  | 2 => some (in134_2 xs v)
  | _ => none
noncomputable def D134 : Nat → Option (Bool × FSpec) := lk []
theorem da134 : SoundAll Tryz.prog D134 := soundAll_nil
noncomputable def cx134 (xs : List Int) (v : Int) : Cx := ⟨tt, D134, Tryz.f134.ntmps, [0, 1, 4, 5, 7, 8, 9, 16], [(2, ⟨[(0, none), (1, none), (7, none), (8, none)], []⟩)], [], iv134 xs v, [], noM, []⟩
theorem bd134 (xs : List Int) (v : Int) (hpre : pr134 xs v) : bodyP (cx134 xs v) Tryz.f134 0 [encL encI 1 (xs), .int .i64 (v)] (fun rr => VLe rr (rs134 xs v)) := by
  have key :
      ((∃ x : Nat, ((SLe
   (AS.mk
   [(0, encL encI 1 xs), (1, V.int IntKind.i64 v),
   (7, V.int IntKind.i64 (↑(List.length xs) : Int)), (8, V.int IntKind.i64 (0 : Int))]
   [])
   (AS.mk
   [(0, encL encI 1 xs), (1, V.int IntKind.i64 v),
   (7, V.int IntKind.i64 (↑(List.length xs) : Int)), (8, V.int IntKind.i64 (↑x : Int))]
   [])) ∧
   ((x ≤ List.length xs) ∧
   (∀ j : Nat,
   ((j < x) →
   (decide (v = List.getD xs j default) = false)))))) ∧
   (∀ x : Nat,
   (((x ≤ List.length xs) ∧
   (∀ j : Nat,
   ((j < x) →
   (decide (v = List.getD xs j default) = false)))) →
   (((decide ((↑x : Int) < (↑(List.length xs) : Int)) = true) →
   ((((0 : Int) ≤ (↑x : Int)) ∧
   ((↑x : Int) < (↑(List.length xs) : Int))) ∧
   ((((v == List.getD xs (Int.toNat (↑x : Int)) default) = true) →
   (VLe (V.int IntKind.i64 (↑x : Int)) (V.int IntKind.i64 (idxF (fun (x : Int) ↦ decide (v = x)) xs)))) ∧
   (((v == List.getD xs (Int.toNat (↑x : Int)) default) = false) →
   ((inK IntKind.i64 ((↑x : Int) + (1 : Int))) ∧
   (∃ y : Nat, ((SLe
   (AS.mk
   [(0, encL encI 1 xs), (1, V.int IntKind.i64 v),
   (7, V.int IntKind.i64 (↑(List.length xs) : Int)), (8, V.int IntKind.i64 ((↑x : Int) + (1 : Int)))]
   [])
   (AS.mk
   [(0, encL encI 1 xs), (1, V.int IntKind.i64 v),
   (7, V.int IntKind.i64 (↑(List.length xs) : Int)), (8, V.int IntKind.i64 (↑y : Int))]
   [])) ∧
   (((y ≤ List.length xs) ∧
   (∀ j : Nat,
   ((j < y) →
   (decide (v = List.getD xs j default) = false)))) ∧
   (List.length xs - y < List.length xs - x))))))))) ∧
   ((decide ((↑x : Int) < (↑(List.length xs) : Int)) = false) →
   (VLe (V.int IntKind.i64 (-1 : Int)) (V.int IntKind.i64 (idxF (fun (x : Int) ↦ decide (v = x)) xs)))))))) := by
    unfold pr134 maxLen at hpre
    refine ⟨⟨0, SLe.refl _, by omega, fun j hj => absurd hj (Nat.not_lt_zero j)⟩, ?_⟩
    rintro i ⟨hi, hj⟩
    refine ⟨fun h => ?_, fun h => ?_⟩
    · have hlt : i < xs.length := by simpa using h
      simp only [Int.toNat_natCast]
      refine ⟨⟨by omega, by omega⟩, fun h2 => vle_int (idxF_some hlt hj (by simpa using h2)).symm, fun h2 => ⟨inK64 (by omega), i + 1, SLe.refl _, ⟨by omega, fun j h3 => ?_⟩, by omega⟩⟩
      rcases Nat.lt_or_ge j i with h4 | h4
      · exact hj j h4
      · have : j = i := by omega
        subst this
        simpa using h2
    · have hge : i = xs.length := by simp at h; omega
      exact vle_int (idxF_none fun j h3 => hj j (by omega)).symm
  exact Eq.mp (by kernel_rfl) key
theorem so134 : Sound Tryz.prog 134 sp134 := by
  refine sound_of_body hmix (pol := 0) Tryz.func134 rfl (by kernel_rfl) fun args bin ob r bout hDe hob => ?_
  unfold sp134 at hDe
  split at hDe
  · rename_i a0 a1
    cases hDe
    exact ⟨rfl, rfl, Nat.le_of_ble_eq_true (by kernel_rfl), cx134 ((decL decI) a0) a1, Eq.mp (by kernel_rfl) htt, Eq.mp (by kernel_rfl) da134, Eq.mp (by kernel_rfl) (noM_sound (P := Tryz.prog)), by kernel_rfl, [encL encI 1 (((decL decI) a0)), .int .i64 (a1)], args_of_vles (⟨hob.1, VLe.refl _, trivial⟩), Eq.mp (by kernel_rfl) (bd134 ((decL decI) a0) a1 (hob.2))⟩
  · cases hDe

/-! ### slices.Contains(()int64,int64) -/
def pr94 (xs : List Int) (v : Int) : Prop := xs.length ≤ maxLen
noncomputable def rs94 (xs : List Int) (v : Int) : V := .bool (decide (v ∈ xs))
noncomputable def sp94 : FSpec := fun args bin => match args, bin with
  | [a0, .int .i64 a1], [] => some (VLe a0 (encL encI 1 (((decL decI) a0))) ∧ pr94 ((decL decI) a0) a1, rs94 ((decL decI) a0) a1, [])
  | _, _ => none
noncomputable def D94 : Nat → Option (Bool × FSpec) := lk [(134, (false, sp134))]
theorem da94 : SoundAll Tryz.prog D94 := soundAll_cons so134 (soundAll_nil)
noncomputable def cx94 (xs : List Int) (v : Int) : Cx := ⟨tt, D94, Tryz.f94.ntmps, [0, 1, 4], [], [], fun _ => none, [], noM, []⟩
theorem bd94 (xs : List Int) (v : Int) (hpre : pr94 xs v) : bodyP (cx94 xs v) Tryz.f94 0 [encL encI 1 (xs), .int .i64 (v)] (fun rr => VLe rr (rs94 xs v)) := by
  have key :
      (((VLe (encL encI 1 xs) (encL encI 1 (decL decI (encL encI 1 xs)))) ∧
   (pr134 (decL decI (encL encI 1 xs)) v)) ∧
   (VLe (V.bool (decide (idxF (fun (x : Int) ↦ decide (v = x)) (decL decI (encL encI 1 xs)) ≥ (0 : Int))))
   (V.bool (decide (v ∈ xs))))) := by
    simp only [decL_ints]
    refine ⟨⟨VLe.refl _, hpre⟩, vle_bool ?_⟩
    refine (idxF_nonneg _ _).trans ?_
    rw [Bool.eq_iff_iff]
    simp
  exact Eq.mp (by kernel_rfl) key
theorem so94 : Sound Tryz.prog 94 sp94 := by
  refine sound_of_body hmix (pol := 0) Tryz.func94 rfl (by kernel_rfl) fun args bin ob r bout hDe hob => ?_
  unfold sp94 at hDe
  split at hDe
  · rename_i a0 a1
    cases hDe
    exact ⟨rfl, rfl, Nat.le_of_ble_eq_true (by kernel_rfl), cx94 ((decL decI) a0) a1, Eq.mp (by kernel_rfl) htt, Eq.mp (by kernel_rfl) da94, Eq.mp (by kernel_rfl) (noM_sound (P := Tryz.prog)), by kernel_rfl, [encL encI 1 (((decL decI) a0)), .int .i64 (a1)], args_of_vles (⟨hob.1, VLe.refl _, trivial⟩), Eq.mp (by kernel_rfl) (bd94 ((decL decI) a0) a1 (hob.2))⟩
  · cases hDe

end Go.Av
