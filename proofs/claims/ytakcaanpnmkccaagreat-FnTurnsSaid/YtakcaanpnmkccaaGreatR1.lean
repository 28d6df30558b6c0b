/- A source, and the numbers that it draws. -/
import Derived.Test.YtakcaanpnmkccaaGreatE0
import Derived.Test.YtakcaanpnmkccaaGreatP30
namespace Go.Av
open Go.Proofs
set_option maxRecDepth 100000
set_option maxHeartbeats 2000000
set_option linter.unusedVariables false
set_option linter.unusedSimpArgs false

theorem ble_arrI {n : Nat} {g : Nat → V} (h : ∀ i, i < n → ELe (g i) (.int .i64 (intA (g i)))) : BLe (.arr 1 n g tagS) (.arr 1 ((List.range n).map fun i => intA (g i)).length (gL encI ((List.range n).map fun i => intA (g i))) tagS) := by
  have e0 : ((List.range n).map fun i => intA (g i)).length = n := by simp
  rw [e0]
  refine ble_arr (fun i hi => ?_) (Or.inl rfl)
  have e : gL encI ((List.range n).map fun i => intA (g i)) i = .int .i64 (intA (g i)) := by simp [gL, encI, hi]
  rw [e]
  exact h i hi
theorem ble_src {xs : List Int} {a b : Int} (h : a = b) : BLe (.box [encL encY 1 xs, .int .i64 a]) (.box [encL encY 1 xs, .int .i64 b]) := by
  subst h
  exact BLe.refl _
theorem byteF_def (xs : List Int) (a : Int) : xs.getD (a.tmod xs.length).toNat default = byteF xs a := rfl
theorem nextF_e {xs : List Int} {a n : Int} (h1 : ¬ n < 1) (h2 : ¬ (xs.length : Int) = 0) : nextF xs a n = if 200 < n then ((byteF xs a + a.tdiv xs.length * 37) * 251 + byteF xs (a + 1) * 13 + a).tmod n else (byteF xs a + a.tdiv xs.length * 37).tmod n := by
  unfold nextF
  rw [if_neg h1, if_neg h2]

/-! ### spec.l1Source -/
def pr23 (xs : List Int)  : Prop := True
noncomputable def sb23 (xs : List Int)  : List V := [encL encY 1 xs, .int .i64 (0)]
noncomputable def D23 : Nat → Option (Bool × FSpec) := lk []
theorem da23 : SoundAll Tryz.prog D23 := soundAll_nil
noncomputable def cx23 (xs : List Int)  : Cx := ⟨tt, D23, Tryz.f23.ntmps, [0, 2], [], [], fun _ => none, [], noM, []⟩
theorem bd23 (xs : List Int)  (hpre : pr23 xs ) : bodyB (cx23 xs ) Tryz.f23 [encL encY 1 xs] (fun cs => BLe (.box cs) (.box (sb23 xs ))) := by
  have key : (BLe (Blk.box [encL encY 1 xs, vi (0 : Int)]) (Blk.box [encL encY 1 xs, vi (0 : Int)])) := by
    delta vi
    exact BLe.refl _
  exact Eq.mp (by kernel_rfl) key
noncomputable def sp23 : FSpec := fun args bin => match args, bin with
  | [v0], [] => some (VLe v0 (encL encY 1 (decL decY v0)) ∧ pr23 (decL decY v0), .oref 0 0 0, [.box (sb23 (decL decY v0))])
  | _, _ => none
theorem so23 : Sound Tryz.prog 23 sp23 := by
  refine sound_of_bodyB hmix Tryz.func23 rfl (by kernel_rfl) fun args bin ob r bout hDe hob => ?_
  unfold sp23 at hDe
  split at hDe
  · rename_i v0
    cases hDe
    obtain ⟨h0, hpre⟩ := hob
    exact ⟨rfl, rfl, _, rfl, Nat.le_of_ble_eq_true (by kernel_rfl), cx23 (decL decY v0), Eq.mp (by kernel_rfl) htt, Eq.mp (by kernel_rfl) da23, Eq.mp (by kernel_rfl) (noM_sound (P := Tryz.prog)), by kernel_rfl, [encL encY 1 (decL decY v0)], args_of_vles (l' := [encL encY 1 (decL decY v0)]) ⟨h0, trivial⟩, Eq.mp (by kernel_rfl) (bd23 (decL decY v0) hpre)⟩
  · cases hDe

/-! ### spec.l1Next -/
def pr59 (xs : List Int) (at_ : Int) (n : Int) : Prop := okX xs at_
noncomputable def rs59 (xs : List Int) (at_ : Int) (n : Int) : V := .int .i64 (nextF xs at_ n)
noncomputable def ra59 (xs : List Int) (at_ : Int) (n : Int) : Int := at_ + 1
noncomputable def D59 : Nat → Option (Bool × FSpec) := lk []
theorem da59 : SoundAll Tryz.prog D59 := soundAll_nil
noncomputable def cx59 (xs : List Int) (at_ : Int) (n : Int) : Cx := ⟨tt, D59, Tryz.f59.ntmps, [0, 1, 4, 5, 6, 7, 17, 29, 50], [], [], fun _ => none, [], noM, []⟩
noncomputable def k59_0 (xs : List Int) (at_ : Int) (n : Int) : Prop := (BLe (Blk.box [encL encY 1 xs, vi (at_ + (1 : Int))]) (Blk.box [encL encY 1 xs, vi (ra59 xs at_ n)]))
theorem bd59 (xs : List Int) (at_ : Int) (n : Int) (hpre : pr59 xs at_ n) : bodyO (cx59 xs at_ n) Tryz.f59 [] [.oref 0 0 0, .int .i64 (n)] [(.box [encL encY 1 xs, .int .i64 at_])] (fun rr bs => VLe rr (rs59 xs at_ n) ∧ BinLe bs [(.box [encL encY 1 xs, .int .i64 (ra59 xs at_ n)])]) := by
  have key : ((inK IntKind.i64 (at_ + (1 : Int))) ∧ (((decide (n < (1 : Int)) = true) → ((VLe (vi (0 : Int)) (vi (nextF xs at_ n))) ∧ ((k59_0 xs at_ n) ∧ (True)))) ∧ ((decide (n < (1 : Int)) = false) → ((inK IntKind.i64 (at_ + (1 : Int) - (1 : Int))) ∧ (((((↑(List.length xs) : Int) == (0 : Int)) = true) → ((inK IntKind.i64 ((at_ + (1 : Int) - (1 : Int)) * (7 : Int))) ∧ ((n ≠ (0 : Int)) ∧ ((VLe (vi (Int.tmod ((at_ + (1 : Int) - (1 : Int)) * (7 : Int)) n)) (vi (nextF xs at_ n))) ∧ ((k59_0 xs at_ n) ∧ (True)))))) ∧ ((((↑(List.length xs) : Int) == (0 : Int)) = false) → (((↑(List.length xs) : Int) ≠ (0 : Int)) ∧ ((((0 : Int) ≤ Int.tmod (at_ + (1 : Int) - (1 : Int)) (↑(List.length xs) : Int)) ∧ (Int.tmod (at_ + (1 : Int) - (1 : Int)) (↑(List.length xs) : Int) < (↑(List.length xs) : Int))) ∧ ((inK IntKind.i64 (List.getD xs (Int.toNat (Int.tmod (at_ + (1 : Int) - (1 : Int)) (↑(List.length xs) : Int))) default)) ∧ (((↑(List.length xs) : Int) ≠ (0 : Int)) ∧ ((inK IntKind.i64 (Int.tdiv (at_ + (1 : Int) - (1 : Int)) (↑(List.length xs) : Int))) ∧ ((inK IntKind.i64 (Int.tdiv (at_ + (1 : Int) - (1 : Int)) (↑(List.length xs) : Int) * (37 : Int))) ∧ ((inK IntKind.i64 (List.getD xs (Int.toNat (Int.tmod (at_ + (1 : Int) - (1 : Int)) (↑(List.length xs) : Int))) default + Int.tdiv (at_ + (1 : Int) - (1 : Int)) (↑(List.length xs) : Int) * (37 : Int))) ∧ (((decide (n > (200 : Int)) = true) → ((inK IntKind.i64 ((List.getD xs (Int.toNat (Int.tmod (at_ + (1 : Int) - (1 : Int)) (↑(List.length xs) : Int))) default + Int.tdiv (at_ + (1 : Int) - (1 : Int)) (↑(List.length xs) : Int) * (37 : Int)) * (251 : Int))) ∧ ((inK IntKind.i64 (at_ + (1 : Int) - (1 : Int) + (1 : Int))) ∧ (((↑(List.length xs) : Int) ≠ (0 : Int)) ∧ ((((0 : Int) ≤ Int.tmod (at_ + (1 : Int) - (1 : Int) + (1 : Int)) (↑(List.length xs) : Int)) ∧ (Int.tmod (at_ + (1 : Int) - (1 : Int) + (1 : Int)) (↑(List.length xs) : Int) < (↑(List.length xs) : Int))) ∧ ((inK IntKind.i64 (List.getD xs (Int.toNat (Int.tmod (at_ + (1 : Int) - (1 : Int) + (1 : Int)) (↑(List.length xs) : Int))) default)) ∧ ((inK IntKind.i64 (List.getD xs (Int.toNat (Int.tmod (at_ + (1 : Int) - (1 : Int) + (1 : Int)) (↑(List.length xs) : Int))) default * (13 : Int))) ∧ ((inK IntKind.i64 ((List.getD xs (Int.toNat (Int.tmod (at_ + (1 : Int) - (1 : Int)) (↑(List.length xs) : Int))) default + Int.tdiv (at_ + (1 : Int) - (1 : Int)) (↑(List.length xs) : Int) * (37 : Int)) * (251 : Int) + List.getD xs (Int.toNat (Int.tmod (at_ + (1 : Int) - (1 : Int) + (1 : Int)) (↑(List.length xs) : Int))) default * (13 : Int))) ∧ ((inK IntKind.i64 ((List.getD xs (Int.toNat (Int.tmod (at_ + (1 : Int) - (1 : Int)) (↑(List.length xs) : Int))) default + Int.tdiv (at_ + (1 : Int) - (1 : Int)) (↑(List.length xs) : Int) * (37 : Int)) * (251 : Int) + List.getD xs (Int.toNat (Int.tmod (at_ + (1 : Int) - (1 : Int) + (1 : Int)) (↑(List.length xs) : Int))) default * (13 : Int) + (at_ + (1 : Int) - (1 : Int)))) ∧ ((n ≠ (0 : Int)) ∧ ((VLe (vi (Int.tmod ((List.getD xs (Int.toNat (Int.tmod (at_ + (1 : Int) - (1 : Int)) (↑(List.length xs) : Int))) default + Int.tdiv (at_ + (1 : Int) - (1 : Int)) (↑(List.length xs) : Int) * (37 : Int)) * (251 : Int) + List.getD xs (Int.toNat (Int.tmod (at_ + (1 : Int) - (1 : Int) + (1 : Int)) (↑(List.length xs) : Int))) default * (13 : Int) + (at_ + (1 : Int) - (1 : Int))) n)) (vi (nextF xs at_ n))) ∧ ((k59_0 xs at_ n) ∧ (True))))))))))))) ∧ ((decide (n > (200 : Int)) = false) → ((n ≠ (0 : Int)) ∧ ((VLe (vi (Int.tmod (List.getD xs (Int.toNat (Int.tmod (at_ + (1 : Int) - (1 : Int)) (↑(List.length xs) : Int))) default + Int.tdiv (at_ + (1 : Int) - (1 : Int)) (↑(List.length xs) : Int) * (37 : Int)) n)) (vi (nextF xs at_ n))) ∧ ((k59_0 xs at_ n) ∧ (True))))))))))))))))))) := by
    delta k59_0; delta vi
    have h0 : okX xs at_ := hpre
    obtain ⟨h1, h2, h3, h4⟩ := hpre
    have e0 : at_ + 1 - 1 = at_ := by omega
    have b1 := byteF_bd h0 at_
    have b2 := byteF_bd h0 (at_ + 1)
    have b3 := tdiv_bd h3 xs.length
    rw [e0]
    simp only [byteF_def]
    refine ⟨inK64 (by omega), fun h => ?_, fun h => ⟨inK64 (by omega), fun h5 => ?_, fun h5 => ?_⟩⟩
    · have hn := of_decide_eq_true h
      exact ⟨vle_int ((nextF_bd h0 n).2.2 hn).symm, BLe.refl _, trivial⟩
    · have hn := of_decide_eq_false h
      have hz : (xs.length : Int) = 0 := by simpa using h5
      exact ⟨inK64 (by omega), by omega, vle_int (by unfold nextF; rw [if_neg hn, if_pos hz]), BLe.refl _, trivial⟩
    · have hn := of_decide_eq_false h
      have hz : ¬ (xs.length : Int) = 0 := by simpa using h5
      have m1 := tmod_bd h3 (n := (xs.length : Int)) (by omega)
      have m2 := tmod_bd (a := at_ + 1) (by omega) (n := (xs.length : Int)) (by omega)
      refine ⟨hz, m1, inK64 (by omega), hz, inK64 (by omega), inK64 (by omega), inK64 (by omega), fun h6 => ?_, fun h6 => ?_⟩
      · have hg := of_decide_eq_true h6
        exact ⟨inK64 (by omega), inK64 (by omega), hz, m2, inK64 (by omega), inK64 (by omega), inK64 (by omega), inK64 (by omega), by omega, vle_int (by rw [nextF_e hn hz, if_pos (by omega)]), BLe.refl _, trivial⟩
      · have hg := of_decide_eq_false h6
        exact ⟨by omega, vle_int (by rw [nextF_e hn hz, if_neg (by omega)]), BLe.refl _, trivial⟩
  exact Eq.mp (by kernel_rfl) key
noncomputable def sp59 : FSpec := fun args bin => match args, bin with
  | [.oref i0 j0 o0, .int .i64 a1], [.box [v0, .int .i64 p0]] => some ((i0 = 0 ∧ j0 = 0 ∧ o0 = 0) ∧ VLe v0 (encL encY 1 (decL decY v0)) ∧ pr59 (decL decY v0) p0 a1, rs59 (decL decY v0) p0 a1, [.box [encL encY 1 (decL decY v0), .int .i64 (ra59 (decL decY v0) p0 a1)]])
  | _, _ => none
theorem so59 : Sound Tryz.prog 59 sp59 := by
  refine sound_of_bodyO hmix (tpl := []) Tryz.func59 rfl (by kernel_rfl) fun args bin ob r bout hDe hob => ?_
  unfold sp59 at hDe
  split at hDe
  · rename_i i0 j0 o0 a1 v0 p0
    cases hDe
    obtain ⟨⟨rfl, rfl, rfl⟩, h0, hpre⟩ := hob
    have hb := bd59 (decL decY v0) p0 a1 hpre
    exact ⟨Nat.le_of_ble_eq_true (by kernel_rfl), cx59 (decL decY v0) p0 a1, Eq.mp (by kernel_rfl) htt, Eq.mp (by kernel_rfl) da59, Eq.mp (by kernel_rfl) (noM_sound (P := Tryz.prog)), by kernel_rfl, [.oref 0 0 0, .int .i64 (a1)], [(.box [encL encY 1 (decL decY v0), .int .i64 p0])], args_of_vles (l' := [.oref 0 0 0, .int .i64 (a1)]) ⟨VLe.refl _, VLe.refl _, trivial⟩, ⟨ble_box ⟨h0, VLe.refl _, trivial⟩, trivial⟩, Eq.mp (by kernel_rfl) hb⟩
  · cases hDe

/-! ### spec.l1Chance -/
def pr52 (xs : List Int) (at_ : Int) (n : Int) : Prop := okX xs at_
noncomputable def rs52 (xs : List Int) (at_ : Int) (n : Int) : V := .bool (decide (nextF xs at_ n = 0))
noncomputable def ra52 (xs : List Int) (at_ : Int) (n : Int) : Int := at_ + 1
noncomputable def D52 : Nat → Option (Bool × FSpec) := lk [(59, (true, sp59))]
theorem da52 : SoundAll Tryz.prog D52 := soundAll_cons so59 (soundAll_nil)
noncomputable def cx52 (xs : List Int) (at_ : Int) (n : Int) : Cx := ⟨tt, D52, Tryz.f52.ntmps, [0, 1, 4], [], [], fun _ => none, [], noM, []⟩
theorem bd52 (xs : List Int) (at_ : Int) (n : Int) (hpre : pr52 xs at_ n) : bodyO (cx52 xs at_ n) Tryz.f52 [] [.oref 0 0 0, .int .i64 (n)] [(.box [encL encY 1 xs, .int .i64 at_])] (fun rr bs => VLe rr (rs52 xs at_ n) ∧ BinLe bs [(.box [encL encY 1 xs, .int .i64 (ra52 xs at_ n)])]) := by
  have key : ((((0 = 0) ∧ ((0 = 0) ∧ (0 = 0))) ∧ ((VLe (encL encY 1 xs) (encL encY 1 (decL decY (encL encY 1 xs)))) ∧ (pr59 (decL decY (encL encY 1 xs)) at_ n))) ∧ ((VLe (V.bool (nextF (decL decY (encL encY 1 xs)) at_ n == (0 : Int))) (V.bool (decide (nextF xs at_ n = (0 : Int))))) ∧ ((BLe (Blk.box [encL encY 1 (decL decY (encL encY 1 xs)), vi (ra59 (decL decY (encL encY 1 xs)) at_ n)]) (Blk.box [encL encY 1 xs, vi (ra52 xs at_ n)])) ∧ (True)))) := by
    delta vi
    simp only [decL_bytes]
    exact ⟨⟨⟨trivial, trivial, trivial⟩, VLe.refl _, hpre⟩, vle_bool (by rw [Bool.eq_iff_iff]; simp), BLe.refl _, trivial⟩
  exact Eq.mp (by kernel_rfl) key
noncomputable def sp52 : FSpec := fun args bin => match args, bin with
  | [.oref i0 j0 o0, .int .i64 a1], [.box [v0, .int .i64 p0]] => some ((i0 = 0 ∧ j0 = 0 ∧ o0 = 0) ∧ VLe v0 (encL encY 1 (decL decY v0)) ∧ pr52 (decL decY v0) p0 a1, rs52 (decL decY v0) p0 a1, [.box [encL encY 1 (decL decY v0), .int .i64 (ra52 (decL decY v0) p0 a1)]])
  | _, _ => none
theorem so52 : Sound Tryz.prog 52 sp52 := by
  refine sound_of_bodyO hmix (tpl := []) Tryz.func52 rfl (by kernel_rfl) fun args bin ob r bout hDe hob => ?_
  unfold sp52 at hDe
  split at hDe
  · rename_i i0 j0 o0 a1 v0 p0
    cases hDe
    obtain ⟨⟨rfl, rfl, rfl⟩, h0, hpre⟩ := hob
    have hb := bd52 (decL decY v0) p0 a1 hpre
    exact ⟨Nat.le_of_ble_eq_true (by kernel_rfl), cx52 (decL decY v0) p0 a1, Eq.mp (by kernel_rfl) htt, Eq.mp (by kernel_rfl) da52, Eq.mp (by kernel_rfl) (noM_sound (P := Tryz.prog)), by kernel_rfl, [.oref 0 0 0, .int .i64 (a1)], [(.box [encL encY 1 (decL decY v0), .int .i64 p0])], args_of_vles (l' := [.oref 0 0 0, .int .i64 (a1)]) ⟨VLe.refl _, VLe.refl _, trivial⟩, ⟨ble_box ⟨h0, VLe.refl _, trivial⟩, trivial⟩, Eq.mp (by kernel_rfl) hb⟩
  · cases hDe

/-! ### spec.l1Pick -/
def pr45 (xs : List Int) (at_ : Int) (ls : List Int) : Prop := okX xs at_ ∧ 1 ≤ ls.length ∧ ls.length ≤ 1000
noncomputable def rs45 (xs : List Int) (at_ : Int) (ls : List Int) : V := .int .i64 (pickF xs at_ ls)
noncomputable def ra45 (xs : List Int) (at_ : Int) (ls : List Int) : Int := at_ + 1
noncomputable def D45 : Nat → Option (Bool × FSpec) := lk [(59, (true, sp59))]
theorem da45 : SoundAll Tryz.prog D45 := soundAll_cons so59 (soundAll_nil)
noncomputable def cx45 (xs : List Int) (at_ : Int) (ls : List Int) : Cx := ⟨tt, D45, Tryz.f45.ntmps, [0, 1, 4], [], [], fun _ => none, [], noM, []⟩
theorem bd45 (xs : List Int) (at_ : Int) (ls : List Int) (hpre : pr45 xs at_ ls) : bodyO (cx45 xs at_ ls) Tryz.f45 [] [.oref 0 0 0, .osl 1 ls.length] [(.box [encL encY 1 xs, .int .i64 at_]), (.arr 1 ls.length (gL encI ls) tagS)] (fun rr bs => VLe rr (rs45 xs at_ ls) ∧ BinLe bs [(.box [encL encY 1 xs, .int .i64 (ra45 xs at_ ls)]), (.arr 1 ls.length (gL encI ls) tagS)]) := by
  have key : ((((0 = 0) ∧ ((0 = 0) ∧ (0 = 0))) ∧ ((VLe (encL encY 1 xs) (encL encY 1 (decL decY (encL encY 1 xs)))) ∧ (pr59 (decL decY (encL encY 1 xs)) at_ (↑(List.length ls) : Int)))) ∧ ((((0 : Int) ≤ nextF (decL decY (encL encY 1 xs)) at_ (↑(List.length ls) : Int)) ∧ (nextF (decL decY (encL encY 1 xs)) at_ (↑(List.length ls) : Int) < (↑(List.length ls) : Int))) ∧ ((Int.toNat (nextF (decL decY (encL encY 1 xs)) at_ (↑(List.length ls) : Int)) < List.length ls) ∧ ((VLe (vi (List.getD ls (Int.toNat (nextF (decL decY (encL encY 1 xs)) at_ (↑(List.length ls) : Int))) default)) (vi (pickF xs at_ ls))) ∧ ((BLe (Blk.box [encL encY 1 (decL decY (encL encY 1 xs)), vi (ra59 (decL decY (encL encY 1 xs)) at_ (↑(List.length ls) : Int))]) (Blk.box [encL encY 1 xs, vi (ra45 xs at_ ls)])) ∧ ((BLe (Blk.arr 1 (List.length ls) (gL encI ls) 100) (Blk.arr 1 (List.length ls) (gL encI ls) 100)) ∧ (True))))))) := by
    delta vi
    obtain ⟨h0, h1, h2⟩ := hpre
    have b := nextF_bd h0 ls.length
    simp only [decL_bytes]
    exact ⟨⟨⟨trivial, trivial, trivial⟩, VLe.refl _, h0⟩, ⟨b.1, b.2.1 (by omega)⟩, by have := b.2.1 (by omega); omega, VLe.refl _, BLe.refl _, BLe.refl _, trivial⟩
  exact Eq.mp (by kernel_rfl) key
noncomputable def sp45 : FSpec := fun args bin => match args, bin with
  | [.oref i0 j0 o0, .osl i1 m1], [.box [v0, .int .i64 p0], .arr s1 n1 g1 t1] => some ((i0 = 0 ∧ j0 = 0 ∧ o0 = 0) ∧ VLe v0 (encL encY 1 (decL decY v0)) ∧ (i1 = 1 ∧ s1 = 1 ∧ t1 = tagS ∧ n1 = m1 ∧ ∀ i, i < m1 → ELe (g1 i) (.int .i64 (intA (g1 i)))) ∧ pr45 (decL decY v0) p0 ((List.range n1).map fun i => intA (g1 i)), rs45 (decL decY v0) p0 ((List.range n1).map fun i => intA (g1 i)), [.box [encL encY 1 (decL decY v0), .int .i64 (ra45 (decL decY v0) p0 ((List.range n1).map fun i => intA (g1 i)))], .arr 1 ((List.range n1).map fun i => intA (g1 i)).length (gL encI ((List.range n1).map fun i => intA (g1 i))) tagS])
  | _, _ => none
theorem so45 : Sound Tryz.prog 45 sp45 := by
  refine sound_of_bodyO hmix (tpl := []) Tryz.func45 rfl (by kernel_rfl) fun args bin ob r bout hDe hob => ?_
  unfold sp45 at hDe
  split at hDe
  · rename_i i0 j0 o0 i1 m1 v0 p0 s1 n1 g1 t1
    cases hDe
    obtain ⟨⟨rfl, rfl, rfl⟩, h0, ⟨rfl, rfl, rfl, rfl, hg1⟩, hpre⟩ := hob
    have hb := bd45 (decL decY v0) p0 ((List.range n1).map fun i => intA (g1 i)) hpre
    exact ⟨Nat.le_of_ble_eq_true (by kernel_rfl), cx45 (decL decY v0) p0 ((List.range n1).map fun i => intA (g1 i)), Eq.mp (by kernel_rfl) htt, Eq.mp (by kernel_rfl) da45, Eq.mp (by kernel_rfl) (noM_sound (P := Tryz.prog)), by kernel_rfl, [.oref 0 0 0, .osl 1 (((List.range n1).map fun i => intA (g1 i))).length], [(.box [encL encY 1 (decL decY v0), .int .i64 p0]), (.arr 1 (((List.range n1).map fun i => intA (g1 i))).length (gL encI ((List.range n1).map fun i => intA (g1 i))) tagS)], args_of_vles (l' := [.oref 0 0 0, .osl 1 (((List.range n1).map fun i => intA (g1 i))).length]) ⟨VLe.refl _, VLe.of_eq (by simp), trivial⟩, ⟨ble_box ⟨h0, VLe.refl _, trivial⟩, ble_arrI hg1, trivial⟩, Eq.mp (by kernel_rfl) hb⟩
  · cases hDe

end Go.Av
