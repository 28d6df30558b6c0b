/- A source, and the numbers that it draws. -/
import Derived.Test.YtgefdljcommhhaaGreatDoorE0
import Derived.Test.YtgefdljcommhhaaGreatDoorP29
namespace Go.Av
open Go.Proofs
set_option maxRecDepth 100000
set_option maxHeartbeats 2000000
set_option linter.unusedVariables false
set_option linter.unusedSimpArgs false

theorem ble_arrI {n : Nat} {g : Nat → V} (h : ∀ i, i < n → ELe (g i) (.int .i64 (intA (g i)))) : BLe (.arr 1 n g tagS) (.arr 1 ((List.range n).map fun i => intA (g i)).length (gL encI ((List.range n).map fun i => intA (g i))) tagS) := by
  have e0 : ((List.range n).map fun i => intA (g i)).length = n := by simp
  rw [e0]
  refine ble_arr (fun i hi => ?_) (Or.inl rfl)
  have e : gL encI ((List.range n).map fun i => intA (g i)) i = .int .i64 (intA (g i)) := by simp [gL, encI, hi]
  rw [e]
  exact h i hi
theorem ble_src {xs : List Int} {a b : Int} (h : a = b) : BLe (.box [encL encY 1 xs, .int .i64 a]) (.box [encL encY 1 xs, .int .i64 b]) := by
  subst h
  exact BLe.refl _
theorem byteF_def (xs : List Int) (a : Int) : xs.getD (a.tmod xs.length).toNat default = byteF xs a := rfl
theorem nextF_e {xs : List Int} {a n : Int} (h1 : ¬ n < 1) (h2 : ¬ (xs.length : Int) = 0) : nextF xs a n = if 200 < n then ((byteF xs a + a.tdiv xs.length * 37) * 251 + byteF xs (a + 1) * 13 + a).tmod n else (byteF xs a + a.tdiv xs.length * 37).tmod n := by
  unfold nextF
  rw [if_neg h1, if_neg h2]

/-! ### spec.l1Source -/
def pr11 (xs : List Int)  : Prop := True
noncomputable def sb11 (xs : List Int)  : List V := [encL encY 1 xs, .int .i64 (0)]
noncomputable def D11 : Nat → Option (Bool × FSpec) := lk []
theorem da11 : SoundAll Tryz.prog D11 := soundAll_nil
noncomputable def cx11 (xs : List Int)  : Cx := ⟨tt, D11, Tryz.f11.ntmps, [0, 2], [], [], fun _ => none, [], noM, []⟩
theorem bd11 (xs : List Int)  (hpre : pr11 xs ) : bodyB (cx11 xs ) Tryz.f11 [encL encY 1 xs] (fun cs => BLe (.box cs) (.box (sb11 xs ))) := by
  have key : (BLe (Blk.box [encL encY 1 xs, vi (0 : Int)]) (Blk.box [encL encY 1 xs, vi (0 : Int)])) := by
    delta vi
    exact BLe.refl _
  exact Eq.mp (by kernel_rfl) key
noncomputable def sp11 : FSpec := fun args bin => match args, bin with
  | [v0], [] => some (VLe v0 (encL encY 1 (decL decY v0)) ∧ pr11 (decL decY v0), .oref 0 0 0, [.box (sb11 (decL decY v0))])
  | _, _ => none
theorem so11 : Sound Tryz.prog 11 sp11 := by
  refine sound_of_bodyB hmix Tryz.func11 rfl (by kernel_rfl) fun args bin ob r bout hDe hob => ?_
  unfold sp11 at hDe
  split at hDe
  · rename_i v0
    cases hDe
    obtain ⟨h0, hpre⟩ := hob
    exact ⟨rfl, rfl, _, rfl, Nat.le_of_ble_eq_true (by kernel_rfl), cx11 (decL decY v0), Eq.mp (by kernel_rfl) htt, Eq.mp (by kernel_rfl) da11, Eq.mp (by kernel_rfl) (noM_sound (P := Tryz.prog)), by kernel_rfl, [encL encY 1 (decL decY v0)], args_of_vles (l' := [encL encY 1 (decL decY v0)]) ⟨h0, trivial⟩, Eq.mp (by kernel_rfl) (bd11 (decL decY v0) hpre)⟩
  · cases hDe

/-! ### spec.l1Next -/
def pr27 (xs : List Int) (at_ : Int) (n : Int) : Prop := okX xs at_
noncomputable def rs27 (xs : List Int) (at_ : Int) (n : Int) : V := .int .i64 (nextF xs at_ n)
noncomputable def ra27 (xs : List Int) (at_ : Int) (n : Int) : Int := at_ + 1
noncomputable def D27 : Nat → Option (Bool × FSpec) := lk []
theorem da27 : SoundAll Tryz.prog D27 := soundAll_nil
noncomputable def cx27 (xs : List Int) (at_ : Int) (n : Int) : Cx := ⟨tt, D27, Tryz.f27.ntmps, [0, 1, 4, 5, 6, 7, 17, 29, 50], [], [], fun _ => none, [], noM, []⟩
noncomputable def k27_0 (xs : List Int) (at_ : Int) (n : Int) : Prop := (BLe (Blk.box [encL encY 1 xs, vi (at_ + (1 : Int))]) (Blk.box [encL encY 1 xs, vi (ra27 xs at_ n)]))
theorem bd27 (xs : List Int) (at_ : Int) (n : Int) (hpre : pr27 xs at_ n) : bodyO (cx27 xs at_ n) Tryz.f27 [] [.oref 0 0 0, .int .i64 (n)] [(.box [encL encY 1 xs, .int .i64 at_])] (fun rr bs => VLe rr (rs27 xs at_ n) ∧ BinLe bs [(.box [encL encY 1 xs, .int .i64 (ra27 xs at_ n)])]) := by
  have key : ((inK IntKind.i64 (at_ + (1 : Int))) ∧ (((decide (n < (1 : Int)) = true) → ((VLe (vi (0 : Int)) (vi (nextF xs at_ n))) ∧ ((k27_0 xs at_ n) ∧ (True)))) ∧ ((decide (n < (1 : Int)) = false) → ((inK IntKind.i64 (at_ + (1 : Int) - (1 : Int))) ∧ (((((↑(List.length xs) : Int) == (0 : Int)) = true) → ((inK IntKind.i64 ((at_ + (1 : Int) - (1 : Int)) * (7 : Int))) ∧ ((n ≠ (0 : Int)) ∧ ((VLe (vi (Int.tmod ((at_ + (1 : Int) - (1 : Int)) * (7 : Int)) n)) (vi (nextF xs at_ n))) ∧ ((k27_0 xs at_ n) ∧ (True)))))) ∧ ((((↑(List.length xs) : Int) == (0 : Int)) = false) → (((↑(List.length xs) : Int) ≠ (0 : Int)) ∧ ((((0 : Int) ≤ Int.tmod (at_ + (1 : Int) - (1 : Int)) (↑(List.length xs) : Int)) ∧ (Int.tmod (at_ + (1 : Int) - (1 : Int)) (↑(List.length xs) : Int) < (↑(List.length xs) : Int))) ∧ ((inK IntKind.i64 (List.getD xs (Int.toNat (Int.tmod (at_ + (1 : Int) - (1 : Int)) (↑(List.length xs) : Int))) default)) ∧ (((↑(List.length xs) : Int) ≠ (0 : Int)) ∧ ((inK IntKind.i64 (Int.tdiv (at_ + (1 : Int) - (1 : Int)) (↑(List.length xs) : Int))) ∧ ((inK IntKind.i64 (Int.tdiv (at_ + (1 : Int) - (1 : Int)) (↑(List.length xs) : Int) * (37 : Int))) ∧ ((inK IntKind.i64 (List.getD xs (Int.toNat (Int.tmod (at_ + (1 : Int) - (1 : Int)) (↑(List.length xs) : Int))) default + Int.tdiv (at_ + (1 : Int) - (1 : Int)) (↑(List.length xs) : Int) * (37 : Int))) ∧ (((decide (n > (200 : Int)) = true) → ((inK IntKind.i64 ((List.getD xs (Int.toNat (Int.tmod (at_ + (1 : Int) - (1 : Int)) (↑(List.length xs) : Int))) default + Int.tdiv (at_ + (1 : Int) - (1 : Int)) (↑(List.length xs) : Int) * (37 : Int)) * (251 : Int))) ∧ ((inK IntKind.i64 (at_ + (1 : Int) - (1 : Int) + (1 : Int))) ∧ (((↑(List.length xs) : Int) ≠ (0 : Int)) ∧ ((((0 : Int) ≤ Int.tmod (at_ + (1 : Int) - (1 : Int) + (1 : Int)) (↑(List.length xs) : Int)) ∧ (Int.tmod (at_ + (1 : Int) - (1 : Int) + (1 : Int)) (↑(List.length xs) : Int) < (↑(List.length xs) : Int))) ∧ ((inK IntKind.i64 (List.getD xs (Int.toNat (Int.tmod (at_ + (1 : Int) - (1 : Int) + (1 : Int)) (↑(List.length xs) : Int))) default)) ∧ ((inK IntKind.i64 (List.getD xs (Int.toNat (Int.tmod (at_ + (1 : Int) - (1 : Int) + (1 : Int)) (↑(List.length xs) : Int))) default * (13 : Int))) ∧ ((inK IntKind.i64 ((List.getD xs (Int.toNat (Int.tmod (at_ + (1 : Int) - (1 : Int)) (↑(List.length xs) : Int))) default + Int.tdiv (at_ + (1 : Int) - (1 : Int)) (↑(List.length xs) : Int) * (37 : Int)) * (251 : Int) + List.getD xs (Int.toNat (Int.tmod (at_ + (1 : Int) - (1 : Int) + (1 : Int)) (↑(List.length xs) : Int))) default * (13 : Int))) ∧ ((inK IntKind.i64 ((List.getD xs (Int.toNat (Int.tmod (at_ + (1 : Int) - (1 : Int)) (↑(List.length xs) : Int))) default + Int.tdiv (at_ + (1 : Int) - (1 : Int)) (↑(List.length xs) : Int) * (37 : Int)) * (251 : Int) + List.getD xs (Int.toNat (Int.tmod (at_ + (1 : Int) - (1 : Int) + (1 : Int)) (↑(List.length xs) : Int))) default * (13 : Int) + (at_ + (1 : Int) - (1 : Int)))) ∧ ((n ≠ (0 : Int)) ∧ ((VLe (vi (Int.tmod ((List.getD xs (Int.toNat (Int.tmod (at_ + (1 : Int) - (1 : Int)) (↑(List.length xs) : Int))) default + Int.tdiv (at_ + (1 : Int) - (1 : Int)) (↑(List.length xs) : Int) * (37 : Int)) * (251 : Int) + List.getD xs (Int.toNat (Int.tmod (at_ + (1 : Int) - (1 : Int) + (1 : Int)) (↑(List.length xs) : Int))) default * (13 : Int) + (at_ + (1 : Int) - (1 : Int))) n)) (vi (nextF xs at_ n))) ∧ ((k27_0 xs at_ n) ∧ (True))))))))))))) ∧ ((decide (n > (200 : Int)) = false) → ((n ≠ (0 : Int)) ∧ ((VLe (vi (Int.tmod (List.getD xs (Int.toNat (Int.tmod (at_ + (1 : Int) - (1 : Int)) (↑(List.length xs) : Int))) default + Int.tdiv (at_ + (1 : Int) - (1 : Int)) (↑(List.length xs) : Int) * (37 : Int)) n)) (vi (nextF xs at_ n))) ∧ ((k27_0 xs at_ n) ∧ (True))))))))))))))))))) := by
    delta k27_0; delta vi
    have h0 : okX xs at_ := hpre
    obtain ⟨h1, h2, h3, h4⟩ := hpre
    have e0 : at_ + 1 - 1 = at_ := by omega
    have b1 := byteF_bd h0 at_
    have b2 := byteF_bd h0 (at_ + 1)
    have b3 := tdiv_bd h3 xs.length
    rw [e0]
    simp only [byteF_def]
    refine ⟨inK64 (by omega), fun h => ?_, fun h => ⟨inK64 (by omega), fun h5 => ?_, fun h5 => ?_⟩⟩
    · have hn := of_decide_eq_true h
      exact ⟨vle_int ((nextF_bd h0 n).2.2 hn).symm, BLe.refl _, trivial⟩
    · have hn := of_decide_eq_false h
      have hz : (xs.length : Int) = 0 := by simpa using h5
      exact ⟨inK64 (by omega), by omega, vle_int (by unfold nextF; rw [if_neg hn, if_pos hz]), BLe.refl _, trivial⟩
    · have hn := of_decide_eq_false h
      have hz : ¬ (xs.length : Int) = 0 := by simpa using h5
      have m1 := tmod_bd h3 (n := (xs.length : Int)) (by omega)
      have m2 := tmod_bd (a := at_ + 1) (by omega) (n := (xs.length : Int)) (by omega)
      refine ⟨hz, m1, inK64 (by omega), hz, inK64 (by omega), inK64 (by omega), inK64 (by omega), fun h6 => ?_, fun h6 => ?_⟩
      · have hg := of_decide_eq_true h6
        exact ⟨inK64 (by omega), inK64 (by omega), hz, m2, inK64 (by omega), inK64 (by omega), inK64 (by omega), inK64 (by omega), by omega, vle_int (by rw [nextF_e hn hz, if_pos (by omega)]), BLe.refl _, trivial⟩
      · have hg := of_decide_eq_false h6
        exact ⟨by omega, vle_int (by rw [nextF_e hn hz, if_neg (by omega)]), BLe.refl _, trivial⟩
  exact Eq.mp (by kernel_rfl) key
noncomputable def sp27 : FSpec := fun args bin => match args, bin with
  | [.oref i0 j0 o0, .int .i64 a1], [.box [v0, .int .i64 p0]] => some ((i0 = 0 ∧ j0 = 0 ∧ o0 = 0) ∧ VLe v0 (encL encY 1 (decL decY v0)) ∧ pr27 (decL decY v0) p0 a1, rs27 (decL decY v0) p0 a1, [.box [encL encY 1 (decL decY v0), .int .i64 (ra27 (decL decY v0) p0 a1)]])
  | _, _ => none
theorem so27 : Sound Tryz.prog 27 sp27 := by
  refine sound_of_bodyO hmix (tpl := []) Tryz.func27 rfl (by kernel_rfl) fun args bin ob r bout hDe hob => ?_
  unfold sp27 at hDe
  split at hDe
  · rename_i i0 j0 o0 a1 v0 p0
    cases hDe
    obtain ⟨⟨rfl, rfl, rfl⟩, h0, hpre⟩ := hob
    have hb := bd27 (decL decY v0) p0 a1 hpre
    exact ⟨Nat.le_of_ble_eq_true (by kernel_rfl), cx27 (decL decY v0) p0 a1, Eq.mp (by kernel_rfl) htt, Eq.mp (by kernel_rfl) da27, Eq.mp (by kernel_rfl) (noM_sound (P := Tryz.prog)), by kernel_rfl, [.oref 0 0 0, .int .i64 (a1)], [(.box [encL encY 1 (decL decY v0), .int .i64 p0])], args_of_vles (l' := [.oref 0 0 0, .int .i64 (a1)]) ⟨VLe.refl _, VLe.refl _, trivial⟩, ⟨ble_box ⟨h0, VLe.refl _, trivial⟩, trivial⟩, Eq.mp (by kernel_rfl) hb⟩
  · cases hDe

/-! ### spec.l1Chance -/
def pr32 (xs : List Int) (at_ : Int) (n : Int) : Prop := okX xs at_
noncomputable def rs32 (xs : List Int) (at_ : Int) (n : Int) : V := .bool (decide (nextF xs at_ n = 0))
noncomputable def ra32 (xs : List Int) (at_ : Int) (n : Int) : Int := at_ + 1
noncomputable def D32 : Nat → Option (Bool × FSpec) := lk [(27, (true, sp27))]
theorem da32 : SoundAll Tryz.prog D32 := soundAll_cons so27 (soundAll_nil)
noncomputable def cx32 (xs : List Int) (at_ : Int) (n : Int) : Cx := ⟨tt, D32, Tryz.f32.ntmps, [0, 1, 4], [], [], fun _ => none, [], noM, []⟩
theorem bd32 (xs : List Int) (at_ : Int) (n : Int) (hpre : pr32 xs at_ n) : bodyO (cx32 xs at_ n) Tryz.f32 [] [.oref 0 0 0, .int .i64 (n)] [(.box [encL encY 1 xs, .int .i64 at_])] (fun rr bs => VLe rr (rs32 xs at_ n) ∧ BinLe bs [(.box [encL encY 1 xs, .int .i64 (ra32 xs at_ n)])]) := by
  have key : ((((0 = 0) ∧ ((0 = 0) ∧ (0 = 0))) ∧ ((VLe (encL encY 1 xs) (encL encY 1 (decL decY (encL encY 1 xs)))) ∧ (pr27 (decL decY (encL encY 1 xs)) at_ n))) ∧ ((VLe (V.bool (nextF (decL decY (encL encY 1 xs)) at_ n == (0 : Int))) (V.bool (decide (nextF xs at_ n = (0 : Int))))) ∧ ((BLe (Blk.box [encL encY 1 (decL decY (encL encY 1 xs)), vi (ra27 (decL decY (encL encY 1 xs)) at_ n)]) (Blk.box [encL encY 1 xs, vi (ra32 xs at_ n)])) ∧ (True)))) := by
    delta vi
    simp only [decL_bytes]
    exact ⟨⟨⟨trivial, trivial, trivial⟩, VLe.refl _, hpre⟩, vle_bool (by rw [Bool.eq_iff_iff]; simp), BLe.refl _, trivial⟩
  exact Eq.mp (by kernel_rfl) key
noncomputable def sp32 : FSpec := fun args bin => match args, bin with
  | [.oref i0 j0 o0, .int .i64 a1], [.box [v0, .int .i64 p0]] => some ((i0 = 0 ∧ j0 = 0 ∧ o0 = 0) ∧ VLe v0 (encL encY 1 (decL decY v0)) ∧ pr32 (decL decY v0) p0 a1, rs32 (decL decY v0) p0 a1, [.box [encL encY 1 (decL decY v0), .int .i64 (ra32 (decL decY v0) p0 a1)]])
  | _, _ => none
theorem so32 : Sound Tryz.prog 32 sp32 := by
  refine sound_of_bodyO hmix (tpl := []) Tryz.func32 rfl (by kernel_rfl) fun args bin ob r bout hDe hob => ?_
  unfold sp32 at hDe
  split at hDe
  · rename_i i0 j0 o0 a1 v0 p0
    cases hDe
    obtain ⟨⟨rfl, rfl, rfl⟩, h0, hpre⟩ := hob
    have hb := bd32 (decL decY v0) p0 a1 hpre
    exact ⟨Nat.le_of_ble_eq_true (by kernel_rfl), cx32 (decL decY v0) p0 a1, Eq.mp (by kernel_rfl) htt, Eq.mp (by kernel_rfl) da32, Eq.mp (by kernel_rfl) (noM_sound (P := Tryz.prog)), by kernel_rfl, [.oref 0 0 0, .int .i64 (a1)], [(.box [encL encY 1 (decL decY v0), .int .i64 p0])], args_of_vles (l' := [.oref 0 0 0, .int .i64 (a1)]) ⟨VLe.refl _, VLe.refl _, trivial⟩, ⟨ble_box ⟨h0, VLe.refl _, trivial⟩, trivial⟩, Eq.mp (by kernel_rfl) hb⟩
  · cases hDe

/-! ### spec.l1Pick -/
def pr35 (xs : List Int) (at_ : Int) (ls : List Int) : Prop := okX xs at_ ∧ 1 ≤ ls.length ∧ ls.length ≤ 1000
noncomputable def rs35 (xs : List Int) (at_ : Int) (ls : List Int) : V := .int .i64 (pickF xs at_ ls)
noncomputable def ra35 (xs : List Int) (at_ : Int) (ls : List Int) : Int := at_ + 1
noncomputable def D35 : Nat → Option (Bool × FSpec) := lk [(27, (true, sp27))]
theorem da35 : SoundAll Tryz.prog D35 := soundAll_cons so27 (soundAll_nil)
noncomputable def cx35 (xs : List Int) (at_ : Int) (ls : List Int) : Cx := ⟨tt, D35, Tryz.f35.ntmps, [0, 1, 4], [], [], fun _ => none, [], noM, []⟩
theorem bd35 (xs : List Int) (at_ : Int) (ls : List Int) (hpre : pr35 xs at_ ls) : bodyO (cx35 xs at_ ls) Tryz.f35 [] [.oref 0 0 0, .osl 1 ls.length] [(.box [encL encY 1 xs, .int .i64 at_]), (.arr 1 ls.length (gL encI ls) tagS)] (fun rr bs => VLe rr (rs35 xs at_ ls) ∧ BinLe bs [(.box [encL encY 1 xs, .int .i64 (ra35 xs at_ ls)]), (.arr 1 ls.length (gL encI ls) tagS)]) := by
  have key : ((((0 = 0) ∧ ((0 = 0) ∧ (0 = 0))) ∧ ((VLe (encL encY 1 xs) (encL encY 1 (decL decY (encL encY 1 xs)))) ∧ (pr27 (decL decY (encL encY 1 xs)) at_ (↑(List.length ls) : Int)))) ∧ ((((0 : Int) ≤ nextF (decL decY (encL encY 1 xs)) at_ (↑(List.length ls) : Int)) ∧ (nextF (decL decY (encL encY 1 xs)) at_ (↑(List.length ls) : Int) < (↑(List.length ls) : Int))) ∧ ((Int.toNat (nextF (decL decY (encL encY 1 xs)) at_ (↑(List.length ls) : Int)) < List.length ls) ∧ ((VLe (vi (List.getD ls (Int.toNat (nextF (decL decY (encL encY 1 xs)) at_ (↑(List.length ls) : Int))) default)) (vi (pickF xs at_ ls))) ∧ ((BLe (Blk.box [encL encY 1 (decL decY (encL encY 1 xs)), vi (ra27 (decL decY (encL encY 1 xs)) at_ (↑(List.length ls) : Int))]) (Blk.box [encL encY 1 xs, vi (ra35 xs at_ ls)])) ∧ ((BLe (Blk.arr 1 (List.length ls) (gL encI ls) 100) (Blk.arr 1 (List.length ls) (gL encI ls) 100)) ∧ (True))))))) := by
    delta vi
    obtain ⟨h0, h1, h2⟩ := hpre
    have b := nextF_bd h0 ls.length
    simp only [decL_bytes]
    exact ⟨⟨⟨trivial, trivial, trivial⟩, VLe.refl _, h0⟩, ⟨b.1, b.2.1 (by omega)⟩, by have := b.2.1 (by omega); omega, VLe.refl _, BLe.refl _, BLe.refl _, trivial⟩
  exact Eq.mp (by kernel_rfl) key
noncomputable def sp35 : FSpec := fun args bin => match args, bin with
  | [.oref i0 j0 o0, .osl i1 m1], [.box [v0, .int .i64 p0], .arr s1 n1 g1 t1] => some ((i0 = 0 ∧ j0 = 0 ∧ o0 = 0) ∧ VLe v0 (encL encY 1 (decL decY v0)) ∧ (i1 = 1 ∧ s1 = 1 ∧ t1 = tagS ∧ n1 = m1 ∧ ∀ i, i < m1 → ELe (g1 i) (.int .i64 (intA (g1 i)))) ∧ pr35 (decL decY v0) p0 ((List.range n1).map fun i => intA (g1 i)), rs35 (decL decY v0) p0 ((List.range n1).map fun i => intA (g1 i)), [.box [encL encY 1 (decL decY v0), .int .i64 (ra35 (decL decY v0) p0 ((List.range n1).map fun i => intA (g1 i)))], .arr 1 ((List.range n1).map fun i => intA (g1 i)).length (gL encI ((List.range n1).map fun i => intA (g1 i))) tagS])
  | _, _ => none
theorem so35 : Sound Tryz.prog 35 sp35 := by
  refine sound_of_bodyO hmix (tpl := []) Tryz.func35 rfl (by kernel_rfl) fun args bin ob r bout hDe hob => ?_
  unfold sp35 at hDe
  split at hDe
  · rename_i i0 j0 o0 i1 m1 v0 p0 s1 n1 g1 t1
    cases hDe
    obtain ⟨⟨rfl, rfl, rfl⟩, h0, ⟨rfl, rfl, rfl, rfl, hg1⟩, hpre⟩ := hob
    have hb := bd35 (decL decY v0) p0 ((List.range n1).map fun i => intA (g1 i)) hpre
    exact ⟨Nat.le_of_ble_eq_true (by kernel_rfl), cx35 (decL decY v0) p0 ((List.range n1).map fun i => intA (g1 i)), Eq.mp (by kernel_rfl) htt, Eq.mp (by kernel_rfl) da35, Eq.mp (by kernel_rfl) (noM_sound (P := Tryz.prog)), by kernel_rfl, [.oref 0 0 0, .osl 1 (((List.range n1).map fun i => intA (g1 i))).length], [(.box [encL encY 1 (decL decY v0), .int .i64 p0]), (.arr 1 (((List.range n1).map fun i => intA (g1 i))).length (gL encI ((List.range n1).map fun i => intA (g1 i))) tagS)], args_of_vles (l' := [.oref 0 0 0, .osl 1 (((List.range n1).map fun i => intA (g1 i))).length]) ⟨VLe.refl _, VLe.of_eq (by simp), trivial⟩, ⟨ble_box ⟨h0, VLe.refl _, trivial⟩, ble_arrI hg1, trivial⟩, Eq.mp (by kernel_rfl) hb⟩
  · cases hDe

end Go.Av
