/- Places in a world; what a source draws of new views. -/
import Derived.Test.YtakcaanpnmkccaaGreatR8
import Derived.Test.YtakcaanpnmkccaaGreatR5a
namespace Go.Av
open Go.Proofs
set_option maxRecDepth 100000
set_option maxHeartbeats 2000000
set_option linter.unusedVariables false
set_option linter.unusedSimpArgs false

theorem plcTo_get {l : List Msg} {kind : Int} {i : Nat} (h : i < (plcTo l kind l.length).length) : (plcTo l kind l.length).getD i default ∈ plcTo l kind l.length := by simp [h]

/-! ### spec.l10Wrong%z -/
def pr24z (xs : List Int) (at_ : Int)  : Prop := okX xs at_ ∧ at_ ≤ 890000
noncomputable def rs24z (xs : List Int) (at_ : Int)  : V := encL (encMsg 1) 2 ((wrong10 xs at_).1)
noncomputable def ra24z (xs : List Int) (at_ : Int)  : Int := (wrong10 xs at_).2
noncomputable def D24z : Nat → Option (Bool × FSpec) := lk [(52, (true, sp52)), (57, (true, sp57)), (58, (true, sp58))]
theorem da24z : SoundAll Tryz.prog D24z := soundAll_cons so52 (soundAll_cons so57 (soundAll_cons so58 (soundAll_nil)))
noncomputable def cx24z (xs : List Int) (at_ : Int)  : Cx := ⟨tt, D24z, Tryz.f24.ntmps, [0, 2, 4], [], [], fun _ => none, [], noM, []⟩
noncomputable def k24z_0 (xs : List Int) : List Int := (decL decY (encL encY 1 (decL decY (encL encY 1 xs))))
noncomputable def k24z_1 (xs : List Int) (at_ : Int) : Int := (ra52 (decL decY (encL encY 1 xs)) at_ (10 : Int))
theorem bd24z (xs : List Int) (at_ : Int)  (hpre : pr24z xs at_ ) : bodyO (cx24z xs at_ ) Tryz.f24 [] [.oref 0 0 0] [(.box [encL encY 1 xs, .int .i64 at_])] (fun rr bs => VLe rr (rs24z xs at_ ) ∧ BinLe bs [(.box [encL encY 1 xs, .int .i64 (ra24z xs at_ )])]) := by
  have key : ((((0 = 0) ∧ ((0 = 0) ∧ (0 = 0))) ∧ ((VLe (encL encY 1 xs) (encL encY 1 (decL decY (encL encY 1 xs)))) ∧ (pr52 (decL decY (encL encY 1 xs)) at_ (10 : Int)))) ∧ (((decide (nextF (decL decY (encL encY 1 xs)) at_ (10 : Int) = (0 : Int)) = true) → ((((0 = 0) ∧ ((0 = 0) ∧ (0 = 0))) ∧ ((VLe (encL encY 1 (decL decY (encL encY 1 xs))) (encL encY 1 (k24z_0 xs))) ∧ (pr57 (k24z_0 xs) (k24z_1 xs at_)))) ∧ ((VLe (encL (encMsg 1) 2 (ro57 (k24z_0 xs) (k24z_1 xs at_))) (encL (encMsg 1) 2 (Prod.fst (wrong10 xs at_)))) ∧ ((BLe (Blk.box [encL encY 1 (k24z_0 xs), vi (ra57 (k24z_0 xs) (k24z_1 xs at_))]) (Blk.box [encL encY 1 xs, vi (ra24z xs at_)])) ∧ (True))))) ∧ ((decide (nextF (decL decY (encL encY 1 xs)) at_ (10 : Int) = (0 : Int)) = false) → ((((0 = 0) ∧ ((0 = 0) ∧ (0 = 0))) ∧ ((VLe (encL encY 1 (decL decY (encL encY 1 xs))) (encL encY 1 (k24z_0 xs))) ∧ (pr58 (k24z_0 xs) (k24z_1 xs at_)))) ∧ ((VLe (encL (encMsg 1) 2 (ro58 (k24z_0 xs) (k24z_1 xs at_))) (encL (encMsg 1) 2 (Prod.fst (wrong10 xs at_)))) ∧ ((BLe (Blk.box [encL encY 1 (k24z_0 xs), vi (ra58 (k24z_0 xs) (k24z_1 xs at_))]) (Blk.box [encL encY 1 xs, vi (ra24z xs at_)])) ∧ (True))))))) := by
    delta k24z_1; delta k24z_0; delta vi
    obtain ⟨h0, h1⟩ := hpre
    have h3 := h0.2.2.1
    simp only [decL_bytes, decL_Msg, ra52, ra57, ra58, ro57, ro58]
    have st : ∀ (m : List Msg) (b : Int), wrong10 xs at_ = (m, b) → (wrong10 xs at_).1 = m ∧ b = ra24z xs at_ := fun m b e => by
      unfold ra24z
      rw [e]
      exact ⟨rfl, rfl⟩
    refine ⟨srcO h0, fun c => ?_, fun c => ?_⟩
    · obtain ⟨q1, q2⟩ := st (wrongD xs (at_ + 1)).1 (wrongD xs (at_ + 1)).2 (if_pos (of_decide_eq_true c))
      rw [q1]
      exact ⟨srcO ⟨h0.to (by omega) (by omega), by omega⟩, VLe.refl _, ble_src q2, trivial⟩
    · obtain ⟨q1, q2⟩ := st (world10 xs (at_ + 1)).1 (world10 xs (at_ + 1)).2 (if_neg (of_decide_eq_false c))
      rw [q1]
      exact ⟨srcO ⟨h0.to (by omega) (by omega), by omega⟩, VLe.refl _, ble_src q2, trivial⟩
  exact Eq.mp (by kernel_rfl) key
noncomputable def sp24z : FSpec := fun args bin => match args, bin with
  | [.oref i0 j0 o0], [.box [v0, .int .i64 p0]] => some ((i0 = 0 ∧ j0 = 0 ∧ o0 = 0) ∧ VLe v0 (encL encY 1 (decL decY v0)) ∧ pr24z (decL decY v0) p0, rs24z (decL decY v0) p0, [.box [encL encY 1 (decL decY v0), .int .i64 (ra24z (decL decY v0) p0)]])
  | _, _ => none
theorem so24z : Sound Tryz.prog 24 sp24z := by
  refine sound_of_bodyO hmix (tpl := []) Tryz.func24 rfl (by kernel_rfl) fun args bin ob r bout hDe hob => ?_
  unfold sp24z at hDe
  split at hDe
  · rename_i i0 j0 o0 v0 p0
    cases hDe
    obtain ⟨⟨rfl, rfl, rfl⟩, h0, hpre⟩ := hob
    have hb := bd24z (decL decY v0) p0 hpre
    exact ⟨Nat.le_of_ble_eq_true (by kernel_rfl), cx24z (decL decY v0) p0, Eq.mp (by kernel_rfl) htt, Eq.mp (by kernel_rfl) da24z, Eq.mp (by kernel_rfl) (noM_sound (P := Tryz.prog)), by kernel_rfl, [.oref 0 0 0], [(.box [encL encY 1 (decL decY v0), .int .i64 p0])], args_of_vles (l' := [.oref 0 0 0]) ⟨VLe.refl _, trivial⟩, ⟨ble_box ⟨h0, VLe.refl _, trivial⟩, trivial⟩, Eq.mp (by kernel_rfl) hb⟩
  · cases hDe

/-! ### spec.l10Place -/
def pr26 (xs : List Int) (at_ : Int) (l : List Msg) (kind : Int) : Prop := okX xs at_ ∧ at_ ≤ 990000 ∧ l.length ≤ 1000
noncomputable def rs26 (xs : List Int) (at_ : Int) (l : List Msg) (kind : Int) : V := .int .i64 ((placeD xs at_ l kind).1)
noncomputable def ra26 (xs : List Int) (at_ : Int) (l : List Msg) (kind : Int) : Int := (placeD xs at_ l kind).2
noncomputable def in26_3 (xs : List Int) (at_ : Int) (l : List Msg) (kind : Int) : LoopInv :=
  ⟨Nat, fun i => ⟨[(0, .oref 0 0 0), (1, encL (encMsg 1) 1 l), (2, .int .i64 kind), (7, .osl (canonT 7) (plcTo l kind i).length), (8, .int .i64 i)], [(canonT 7, .arr 1 (plcTo l kind i).length (gL encI (plcTo l kind i)) tagS), (0, .box [encL encY 0 xs, .int .i64 at_])]⟩,
    fun i => i ≤ l.length, fun i => l.length - i⟩
noncomputable def iv26 (xs : List Int) (at_ : Int) (l : List Msg) (kind : Int) : Nat → Option LoopInv := fun k0 => match k0 with
  | 3 => some (in26_3 xs at_ l kind)
  | _ => none
noncomputable def D26 : Nat → Option (Bool × FSpec) := lk [(59, (true, sp59)), (52, (true, sp52))]
theorem da26 : SoundAll Tryz.prog D26 := soundAll_cons so59 (soundAll_cons so52 (soundAll_nil))
noncomputable def cx26 (xs : List Int) (at_ : Int) (l : List Msg) (kind : Int) : Cx := ⟨tt, D26, Tryz.f26.ntmps, [0, 1, 2, 6, 7, 8, 13, 22, 33], [(3, ⟨[(0, none), (1, none), (2, none), (7, some 1), (8, none)], [(0, [])]⟩)], [], iv26 xs at_ l kind, [], noM, []⟩
noncomputable def k26_0 (xs : List Int) : List Int := (decL decY (encL encY 1 (decL decY (encL encY 1 xs))))
noncomputable def k26_1 (xs : List Int) (at_ : Int) (l : List Msg) (kind : Int) (y : Nat) : AS := (AS.mk [(0, V.oref 0 0 0), (1, encL (encMsg 1) 1 l), (2, vi kind), (7, V.osl 32000512 (List.length (plcTo l kind y))), (8, vi (↑y : Int))] [(32000512, Blk.arr 1 (List.length (plcTo l kind y)) (gL encI (plcTo l kind y)) 100), (0, Blk.box [encL encY 0 xs, vi at_])])
theorem bd26 (xs : List Int) (at_ : Int) (l : List Msg) (kind : Int) (hpre : pr26 xs at_ l kind) : bodyO (cx26 xs at_ l kind) Tryz.f26 [] [.oref 0 0 0, encL (encMsg 1) 1 (l), .int .i64 (kind)] [(.box [encL encY 1 xs, .int .i64 at_])] (fun rr bs => VLe rr (rs26 xs at_ l kind) ∧ BinLe bs [(.box [encL encY 1 xs, .int .i64 (ra26 xs at_ l kind)])]) := by
  have key : ((∃ x : Nat, ((SLe (AS.mk [(0, V.oref 0 0 0), (1, encL (encMsg 1) 1 l), (2, vi kind), (7, V.osl 32000512 0), (8, vi (0 : Int))] [(32000512, Blk.arr 1 0 (rowg []) 100), (0, Blk.box [encL encY 1 xs, vi at_])]) (AS.mk [(0, V.oref 0 0 0), (1, encL (encMsg 1) 1 l), (2, vi kind), (7, V.osl 32000512 (List.length (plcTo l kind x))), (8, vi (↑x : Int))] [(32000512, Blk.arr 1 (List.length (plcTo l kind x)) (gL encI (plcTo l kind x)) 100), (0, Blk.box [encL encY 0 xs, vi at_])])) ∧ (x ≤ List.length l))) ∧ (∀ x : Nat, ((x ≤ List.length l) → (((decide ((↑x : Int) < (↑(List.length l) : Int)) = true) → ((((0 : Int) ≤ (↑x : Int)) ∧ ((↑x : Int) < (↑(List.length l) : Int))) ∧ ((((Msg.kind (List.getD l (Int.toNat (↑x : Int)) default) == kind) = true) → ((List.length (plcTo l kind x) = List.length (plcTo l kind x)) ∧ ((List.length (plcTo l kind x) + 1 ≤ 1073741824) ∧ ((sizedL 1 1 (rowg [vi (↑x : Int)])) ∧ ((inK IntKind.i64 ((↑x : Int) + (1 : Int))) ∧ (∃ y : Nat, ((SLe (AS.mk [(0, V.oref 0 0 0), (1, encL (encMsg 1) 1 l), (2, vi kind), (7, V.osl 32000512 (List.length (plcTo l kind x) + 1)), (8, vi ((↑x : Int) + (1 : Int)))] [(32000512, Blk.arr 1 (List.length (plcTo l kind x) + 1) (appg (List.length (plcTo l kind x)) (gL encI (plcTo l kind x)) (rowg [vi (↑x : Int)])) 100), (0, Blk.box [encL encY 0 xs, vi at_])]) (k26_1 xs at_ l kind y)) ∧ ((y ≤ List.length l) ∧ (List.length l - y < List.length l - x))))))))) ∧ (((Msg.kind (List.getD l (Int.toNat (↑x : Int)) default) == kind) = false) → ((inK IntKind.i64 ((↑x : Int) + (1 : Int))) ∧ (∃ y : Nat, ((SLe (AS.mk [(0, V.oref 0 0 0), (1, encL (encMsg 1) 1 l), (2, vi kind), (7, V.osl 32000512 (List.length (plcTo l kind x))), (8, vi ((↑x : Int) + (1 : Int)))] [(32000512, Blk.arr 1 (List.length (plcTo l kind x)) (gL encI (plcTo l kind x)) 100), (0, Blk.box [encL encY 0 xs, vi at_])]) (k26_1 xs at_ l kind y)) ∧ ((y ≤ List.length l) ∧ (List.length l - y < List.length l - x))))))))) ∧ ((decide ((↑x : Int) < (↑(List.length l) : Int)) = false) → ((tq (!(↑(List.length (plcTo l kind x)) : Int) == (0 : Int))) ∧ ((((!(↑(List.length (plcTo l kind x)) : Int) == (0 : Int)) = true) → (((0 = 0) ∧ ((0 = 0) ∧ (0 = 0))) ∧ ((VLe (encL encY 1 xs) (encL encY 1 (decL decY (encL encY 1 xs)))) ∧ (pr52 (decL decY (encL encY 1 xs)) at_ (8 : Int))))) ∧ ((((!(↑(List.length (plcTo l kind x)) : Int) == (0 : Int)) = false) → (encL encY 0 xs = encL encY 0 (decL decY (encL encY 1 xs)))) ∧ (((true = true) → ((((↑(List.length (plcTo l kind x)) : Int) == (0 : Int)) = false) → ((!(↑(List.length (plcTo l kind x)) : Int) == (0 : Int)) = true))) ∧ (∀ b : Bool, ((b = bif (↑(List.length (plcTo l kind x)) : Int) == (0 : Int) then true else decide (nextF (decL decY (encL encY 1 xs)) at_ (8 : Int) = (0 : Int))) → (((b = true) → ((((0 = 0) ∧ ((0 = 0) ∧ (0 = 0))) ∧ ((VLe (encL encY 1 (decL decY (encL encY 1 xs))) (encL encY 1 (k26_0 xs))) ∧ (pr59 (k26_0 xs) (bif !(↑(List.length (plcTo l kind x)) : Int) == (0 : Int) then ra52 (decL decY (encL encY 1 xs)) at_ (8 : Int) else at_) (30 : Int)))) ∧ ((inK IntKind.i64 (nextF (k26_0 xs) (bif !(↑(List.length (plcTo l kind x)) : Int) == (0 : Int) then ra52 (decL decY (encL encY 1 xs)) at_ (8 : Int) else at_) (30 : Int) - (1 : Int))) ∧ ((VLe (vi (nextF (k26_0 xs) (bif !(↑(List.length (plcTo l kind x)) : Int) == (0 : Int) then ra52 (decL decY (encL encY 1 xs)) at_ (8 : Int) else at_) (30 : Int) - (1 : Int))) (vi (Prod.fst (placeD xs at_ l kind)))) ∧ ((BLe (Blk.box [encL encY 1 (k26_0 xs), vi (ra59 (k26_0 xs) (bif !(↑(List.length (plcTo l kind x)) : Int) == (0 : Int) then ra52 (decL decY (encL encY 1 xs)) at_ (8 : Int) else at_) (30 : Int))]) (Blk.box [encL encY 1 xs, vi (ra26 xs at_ l kind)])) ∧ (True)))))) ∧ ((b = false) → ((((0 = 0) ∧ ((0 = 0) ∧ (0 = 0))) ∧ ((VLe (encL encY 1 (decL decY (encL encY 1 xs))) (encL encY 1 (k26_0 xs))) ∧ (pr59 (k26_0 xs) (bif !(↑(List.length (plcTo l kind x)) : Int) == (0 : Int) then ra52 (decL decY (encL encY 1 xs)) at_ (8 : Int) else at_) (↑(List.length (plcTo l kind x)) : Int)))) ∧ ((((0 : Int) ≤ nextF (k26_0 xs) (bif !(↑(List.length (plcTo l kind x)) : Int) == (0 : Int) then ra52 (decL decY (encL encY 1 xs)) at_ (8 : Int) else at_) (↑(List.length (plcTo l kind x)) : Int)) ∧ (nextF (k26_0 xs) (bif !(↑(List.length (plcTo l kind x)) : Int) == (0 : Int) then ra52 (decL decY (encL encY 1 xs)) at_ (8 : Int) else at_) (↑(List.length (plcTo l kind x)) : Int) < (↑(List.length (plcTo l kind x)) : Int))) ∧ ((Int.toNat (nextF (k26_0 xs) (bif !(↑(List.length (plcTo l kind x)) : Int) == (0 : Int) then ra52 (decL decY (encL encY 1 xs)) at_ (8 : Int) else at_) (↑(List.length (plcTo l kind x)) : Int)) < List.length (plcTo l kind x)) ∧ ((VLe (vi (List.getD (plcTo l kind x) (Int.toNat (nextF (k26_0 xs) (bif !(↑(List.length (plcTo l kind x)) : Int) == (0 : Int) then ra52 (decL decY (encL encY 1 xs)) at_ (8 : Int) else at_) (↑(List.length (plcTo l kind x)) : Int))) default)) (vi (Prod.fst (placeD xs at_ l kind)))) ∧ ((BLe (Blk.box [encL encY 1 (k26_0 xs), vi (ra59 (k26_0 xs) (bif !(↑(List.length (plcTo l kind x)) : Int) == (0 : Int) then ra52 (decL decY (encL encY 1 xs)) at_ (8 : Int) else at_) (↑(List.length (plcTo l kind x)) : Int))]) (Blk.box [encL encY 1 xs, vi (ra26 xs at_ l kind)])) ∧ (True))))))))))))))))))) := by
    delta k26_1; delta k26_0; delta vi
    obtain ⟨h0, h1, h2⟩ := hpre
    have h3 := h0.2.2.1
    simp only [decL_bytes, decL_Msg, decL_ints, ra59, ra52]
    refine ⟨⟨0, sle_of ⟨rfl, VLe.refl _, rfl, VLe.refl _, rfl, VLe.refl _, rfl, VLe.refl _, rfl, VLe.refl _, trivial⟩ ⟨rfl, ble_nilR _, rfl, src0, trivial⟩, Nat.zero_le _⟩, fun i hi => ⟨fun h => ?_, fun h => ?_⟩⟩
    · have hlt : i < l.length := by simpa using h
      have hpl := plcTo_len l kind i
      simp only [Int.toNat_natCast]
      refine ⟨by omega, fun c => ⟨trivial, by omega, sizedL_int, inK64 (by omega), i + 1, ?_, by omega, by omega⟩, fun c => ⟨inK64 (by omega), i + 1, ?_, by omega, by omega⟩⟩
      · have e : plcTo l kind (i + 1) = plcTo l kind i ++ [(i : Int)] := by
          show _ ++ (if _ then _ else _) = _
          rw [if_pos (by simpa using c)]
        rw [e, List.length_append, List.length_singleton]
        exact sle_of ⟨rfl, VLe.refl _, rfl, VLe.refl _, rfl, VLe.refl _, rfl, VLe.refl _, rfl, vle_int (by omega), trivial⟩ ⟨rfl, ble_push rfl rfl, rfl, BLe.refl _, trivial⟩
      · have e : plcTo l kind (i + 1) = plcTo l kind i := by
          show _ ++ (if _ then _ else _) = _
          rw [if_neg (by simpa using c), List.append_nil]
        rw [e]
        exact sle_of ⟨rfl, VLe.refl _, rfl, VLe.refl _, rfl, VLe.refl _, rfl, VLe.refl _, rfl, vle_int (by omega), trivial⟩ ⟨rfl, BLe.refl _, rfl, BLe.refl _, trivial⟩
    · have hil : i = l.length := by simp at h; omega
      subst hil
      unfold ra26 placeD
      have ha1 : okX xs (at_ + 1) := h0.to (by omega) (by omega)
      have hpl := plcTo_len l kind l.length
      generalize plcTo l kind l.length = p at *
      by_cases hp : p.length = 0
      · have b1 : ((p.length : Int) == 0) = true := by simp [hp]
        have n := nextF_bd h0 30
        simp only [b1, Bool.not_true, cond_false, cond_true, if_pos hp]
        refine ⟨tqB _, fun h => (by cases h), fun _ => trivial, fun _ h => (by cases h), fun b hb => ⟨fun _ => ?_, fun h => ?_⟩⟩
        · exact ⟨srcO h0, inK64 (by omega), VLe.refl _, ble_src rfl, trivial⟩
        · rw [hb] at h; cases h
      · have b1 : ((p.length : Int) == 0) = false := by rw [beq_eq_false_iff_ne]; omega
        have n := nextF_bd ha1 30
        have n2 := nextF_bd ha1 p.length
        simp only [b1, Bool.not_false, cond_false, cond_true, if_neg hp, Int.add_assoc, Int.reduceAdd]
        refine ⟨tqB _, fun _ => srcO h0, fun _ => trivial, by simp, fun b hb => ⟨fun h => ?_, fun h => ?_⟩⟩
        · rw [h] at hb
          rw [if_pos (of_decide_eq_true hb.symm)]
          exact ⟨srcO ha1, inK64 (by omega), VLe.refl _, ble_src rfl, trivial⟩
        · rw [h] at hb
          rw [if_neg (of_decide_eq_false hb.symm)]
          exact ⟨srcO ha1, ⟨n2.1, n2.2.1 (by omega)⟩, by omega, VLe.refl _, ble_src rfl, trivial⟩
  exact Eq.mp (by kernel_rfl) key
noncomputable def sp26 : FSpec := fun args bin => match args, bin with
  | [.oref i0 j0 o0, a1, .int .i64 a2], [.box [v0, .int .i64 p0]] => some ((i0 = 0 ∧ j0 = 0 ∧ o0 = 0) ∧ VLe v0 (encL encY 1 (decL decY v0)) ∧ VLe a1 (encL (encMsg 1) 1 (((decL decMsg) a1))) ∧ pr26 (decL decY v0) p0 ((decL decMsg) a1) a2, rs26 (decL decY v0) p0 ((decL decMsg) a1) a2, [.box [encL encY 1 (decL decY v0), .int .i64 (ra26 (decL decY v0) p0 ((decL decMsg) a1) a2)]])
  | _, _ => none
theorem so26 : Sound Tryz.prog 26 sp26 := by
  refine sound_of_bodyO hmix (tpl := []) Tryz.func26 rfl (by kernel_rfl) fun args bin ob r bout hDe hob => ?_
  unfold sp26 at hDe
  split at hDe
  · rename_i i0 j0 o0 a1 a2 v0 p0
    cases hDe
    obtain ⟨⟨rfl, rfl, rfl⟩, h0, hv1, hpre⟩ := hob
    have hb := bd26 (decL decY v0) p0 ((decL decMsg) a1) a2 hpre
    exact ⟨Nat.le_of_ble_eq_true (by kernel_rfl), cx26 (decL decY v0) p0 ((decL decMsg) a1) a2, Eq.mp (by kernel_rfl) htt, Eq.mp (by kernel_rfl) da26, Eq.mp (by kernel_rfl) (noM_sound (P := Tryz.prog)), by kernel_rfl, [.oref 0 0 0, encL (encMsg 1) 1 (((decL decMsg) a1)), .int .i64 (a2)], [(.box [encL encY 1 (decL decY v0), .int .i64 p0])], args_of_vles (l' := [.oref 0 0 0, encL (encMsg 1) 1 (((decL decMsg) a1)), .int .i64 (a2)]) ⟨VLe.refl _, hv1, VLe.refl _, trivial⟩, ⟨ble_box ⟨h0, VLe.refl _, trivial⟩, trivial⟩, Eq.mp (by kernel_rfl) hb⟩
  · cases hDe

end Go.Av
