/- Places in a world; what a source draws of new views. -/
import Derived.Test.YtakcaanpnmkccaaR8
import Derived.Test.YtakcaanpnmkccaaR5a
namespace Go.Av
open Go.Proofs
set_option maxRecDepth 100000
set_option maxHeartbeats 2000000
set_option linter.unusedVariables false
set_option linter.unusedSimpArgs false

theorem plcTo_get {l : List Msg} {kind : Int} {i : Nat} (h : i < (plcTo l kind l.length).length) : (plcTo l kind l.length).getD i default ∈ plcTo l kind l.length := by simp [h]

/-! ### spec.l10Wrong%z -/
def pr47z (xs : List Int) (at_ : Int)  : Prop := okX xs at_ ∧ at_ ≤ 890000
noncomputable def rs47z (xs : List Int) (at_ : Int)  : V := encL (encMsg 1) 2 ((wrong10 xs at_).1)
noncomputable def ra47z (xs : List Int) (at_ : Int)  : Int := (wrong10 xs at_).2
noncomputable def D47z : Nat → Option (Bool × FSpec) := lk [(25, (true, sp25)), (58, (true, sp58)), (77, (true, sp77))]
theorem da47z : SoundAll Try.prog D47z := soundAll_cons so25 (soundAll_cons so58 (soundAll_cons so77 (soundAll_nil)))
noncomputable def cx47z (xs : List Int) (at_ : Int)  : Cx := ⟨tt, D47z, Try.f47.ntmps, [0, 2, 4], [], [], fun _ => none, [], noM, []⟩
theorem bd47z (xs : List Int) (at_ : Int)  (hpre : pr47z xs at_ ) : bodyO (cx47z xs at_ ) Try.f47 [] [.oref 0 0 0] [(.box [encL encY 1 xs, .int .i64 at_])] (fun rr bs => VLe rr (rs47z xs at_ ) ∧ BinLe bs [(.box [encL encY 1 xs, .int .i64 (ra47z xs at_ )])]) := by
  have key :
      ((((0 = 0) ∧
   ((0 = 0) ∧
   (0 = 0))) ∧
   ((VLe (encL encY 1 xs) (encL encY 1 (decL decY (encL encY 1 xs)))) ∧
   (pr25 (decL decY (encL encY 1 xs)) at_ (10 : Int)))) ∧
   (((decide (nextF (decL decY (encL encY 1 xs)) at_ (10 : Int) = (0 : Int)) = true) →
   ((((0 = 0) ∧
   ((0 = 0) ∧
   (0 = 0))) ∧
   ((VLe (encL encY 1 (decL decY (encL encY 1 xs)))
   (encL encY 1 (decL decY (encL encY 1 (decL decY (encL encY 1 xs)))))) ∧
   (pr58 (decL decY (encL encY 1 (decL decY (encL encY 1 xs))))
   (ra25 (decL decY (encL encY 1 xs)) at_ (10 : Int))))) ∧
   ((VLe
   (encL (encMsg 1) 2
   (ro58 (decL decY (encL encY 1 (decL decY (encL encY 1 xs))))
   (ra25 (decL decY (encL encY 1 xs)) at_ (10 : Int))))
   (encL (encMsg 1) 2 (Prod.fst (wrong10 xs at_)))) ∧
   ((BLe
   (Blk.box
   [encL encY 1 (decL decY (encL encY 1 (decL decY (encL encY 1 xs)))),
   V.int IntKind.i64
   (ra58 (decL decY (encL encY 1 (decL decY (encL encY 1 xs))))
   (ra25 (decL decY (encL encY 1 xs)) at_ (10 : Int)))])
   (Blk.box [encL encY 1 xs, V.int IntKind.i64 (ra47z xs at_)])) ∧
   (True))))) ∧
   ((decide (nextF (decL decY (encL encY 1 xs)) at_ (10 : Int) = (0 : Int)) = false) →
   ((((0 = 0) ∧
   ((0 = 0) ∧
   (0 = 0))) ∧
   ((VLe (encL encY 1 (decL decY (encL encY 1 xs)))
   (encL encY 1 (decL decY (encL encY 1 (decL decY (encL encY 1 xs)))))) ∧
   (pr77 (decL decY (encL encY 1 (decL decY (encL encY 1 xs))))
   (ra25 (decL decY (encL encY 1 xs)) at_ (10 : Int))))) ∧
   ((VLe
   (encL (encMsg 1) 2
   (ro77 (decL decY (encL encY 1 (decL decY (encL encY 1 xs))))
   (ra25 (decL decY (encL encY 1 xs)) at_ (10 : Int))))
   (encL (encMsg 1) 2 (Prod.fst (wrong10 xs at_)))) ∧
   ((BLe
   (Blk.box
   [encL encY 1 (decL decY (encL encY 1 (decL decY (encL encY 1 xs)))),
   V.int IntKind.i64
   (ra77 (decL decY (encL encY 1 (decL decY (encL encY 1 xs))))
   (ra25 (decL decY (encL encY 1 xs)) at_ (10 : Int)))])
   (Blk.box [encL encY 1 xs, V.int IntKind.i64 (ra47z xs at_)])) ∧
   (True))))))) := by
    obtain ⟨h0, h1⟩ := hpre
    have h3 := h0.2.2.1
    simp only [decL_bytes, decL_Msg, ra25, ra58, ra77, ro58, ro77]
    have st : ∀ (m : List Msg) (b : Int), wrong10 xs at_ = (m, b) → (wrong10 xs at_).1 = m ∧ b = ra47z xs at_ := fun m b e => by
      unfold ra47z
      rw [e]
      exact ⟨rfl, rfl⟩
    refine ⟨srcO h0, fun c => ?_, fun c => ?_⟩
    · obtain ⟨q1, q2⟩ := st (wrongD xs (at_ + 1)).1 (wrongD xs (at_ + 1)).2 (if_pos (of_decide_eq_true c))
      rw [q1]
      exact ⟨srcO ⟨h0.to (by omega) (by omega), by omega⟩, VLe.refl _, ble_src q2, trivial⟩
    · obtain ⟨q1, q2⟩ := st (world10 xs (at_ + 1)).1 (world10 xs (at_ + 1)).2 (if_neg (of_decide_eq_false c))
      rw [q1]
      exact ⟨srcO ⟨h0.to (by omega) (by omega), by omega⟩, VLe.refl _, ble_src q2, trivial⟩
  exact Eq.mp (by kernel_rfl) key
noncomputable def sp47z : FSpec := fun args bin => match args, bin with
  | [.oref i0 j0 o0], [.box [v0, .int .i64 p0]] => some ((i0 = 0 ∧ j0 = 0 ∧ o0 = 0) ∧ VLe v0 (encL encY 1 (decL decY v0)) ∧ pr47z (decL decY v0) p0, rs47z (decL decY v0) p0, [.box [encL encY 1 (decL decY v0), .int .i64 (ra47z (decL decY v0) p0)]])
  | _, _ => none
theorem so47z : Sound Try.prog 47 sp47z := by
  refine sound_of_bodyO hmix (tpl := []) Try.func47 rfl (by kernel_rfl) fun args bin ob r bout hDe hob => ?_
  unfold sp47z at hDe
  split at hDe
  · rename_i i0 j0 o0 v0 p0
    cases hDe
    obtain ⟨⟨rfl, rfl, rfl⟩, h0, hpre⟩ := hob
    have hb := bd47z (decL decY v0) p0 hpre
    exact ⟨Nat.le_of_ble_eq_true (by kernel_rfl), cx47z (decL decY v0) p0, Eq.mp (by kernel_rfl) htt, Eq.mp (by kernel_rfl) da47z, Eq.mp (by kernel_rfl) (noM_sound (P := Try.prog)), by kernel_rfl, [.oref 0 0 0], [(.box [encL encY 1 (decL decY v0), .int .i64 p0])], args_of_vles (l' := [.oref 0 0 0]) ⟨VLe.refl _, trivial⟩, ⟨ble_box ⟨h0, VLe.refl _, trivial⟩, trivial⟩, Eq.mp (by kernel_rfl) hb⟩
  · cases hDe

/-! ### spec.l10Place -/
def pr48 (xs : List Int) (at_ : Int) (l : List Msg) (kind : Int) : Prop := okX xs at_ ∧ at_ ≤ 990000 ∧ l.length ≤ 1000
noncomputable def rs48 (xs : List Int) (at_ : Int) (l : List Msg) (kind : Int) : V := .int .i64 ((placeD xs at_ l kind).1)
noncomputable def ra48 (xs : List Int) (at_ : Int) (l : List Msg) (kind : Int) : Int := (placeD xs at_ l kind).2
noncomputable def in48_3 (xs : List Int) (at_ : Int) (l : List Msg) (kind : Int) : LoopInv :=
  ⟨Nat, fun i => ⟨[(0, .oref 0 0 0), (1, encL (encMsg 1) 1 l), (2, .int .i64 kind), (7, .osl (canonT 7) (plcTo l kind i).length), (8, .int .i64 i)], [(canonT 7, .arr 1 (plcTo l kind i).length (gL encI (plcTo l kind i)) tagS), (0, .box [encL encY 0 xs, .int .i64 at_])]⟩,
    fun i => i ≤ l.length, fun i => l.length - i⟩
noncomputable def iv48 (xs : List Int) (at_ : Int) (l : List Msg) (kind : Int) : Nat → Option LoopInv := fun k0 => match k0 with
  | 3 => some (in48_3 xs at_ l kind)
  | _ => none
noncomputable def D48 : Nat → Option (Bool × FSpec) := lk [(28, (true, sp28)), (25, (true, sp25))]
theorem da48 : SoundAll Try.prog D48 := soundAll_cons so28 (soundAll_cons so25 (soundAll_nil))
noncomputable def cx48 (xs : List Int) (at_ : Int) (l : List Msg) (kind : Int) : Cx := ⟨tt, D48, Try.f48.ntmps, [0, 1, 2, 6, 7, 8, 13, 22, 33], [(3, ⟨[(0, none), (1, none), (2, none), (7, some 1), (8, none)], [(0, [])]⟩)], [], iv48 xs at_ l kind, [], noM, []⟩
theorem bd48 (xs : List Int) (at_ : Int) (l : List Msg) (kind : Int) (hpre : pr48 xs at_ l kind) : bodyO (cx48 xs at_ l kind) Try.f48 [] [.oref 0 0 0, encL (encMsg 1) 1 (l), .int .i64 (kind)] [(.box [encL encY 1 xs, .int .i64 at_])] (fun rr bs => VLe rr (rs48 xs at_ l kind) ∧ BinLe bs [(.box [encL encY 1 xs, .int .i64 (ra48 xs at_ l kind)])]) := by
  have key :
      ((∃ x : Nat, ((SLe
   (AS.mk
   [(0, V.oref 0 0 0), (1, encL (encMsg 1) 1 l),
   (2, V.int IntKind.i64 kind), (7, V.osl 32000512 0),
   (8, V.int IntKind.i64 (0 : Int))]
   [(32000512, Blk.arr 1 0 (rowg []) 100),
   (0, Blk.box [encL encY 1 xs, V.int IntKind.i64 at_])])
   (AS.mk
   [(0, V.oref 0 0 0), (1, encL (encMsg 1) 1 l),
   (2, V.int IntKind.i64 kind), (7, V.osl 32000512 (List.length (plcTo l kind x))),
   (8, V.int IntKind.i64 (↑x : Int))]
   [(32000512, Blk.arr 1 (List.length (plcTo l kind x)) (gL encI (plcTo l kind x)) 100),
   (0, Blk.box [encL encY 0 xs, V.int IntKind.i64 at_])])) ∧
   (x ≤ List.length l))) ∧
   (∀ x : Nat,
   ((x ≤ List.length l) →
   (((decide ((↑x : Int) < (↑(List.length l) : Int)) = true) →
   ((((0 : Int) ≤ (↑x : Int)) ∧
   ((↑x : Int) < (↑(List.length l) : Int))) ∧
   ((((Msg.kind (List.getD l (Int.toNat (↑x : Int)) default) == kind) = true) →
   ((List.length (plcTo l kind x) = List.length (plcTo l kind x)) ∧
   ((List.length (plcTo l kind x) + 1 ≤ 1073741824) ∧
   ((sizedL 1 1 (rowg [V.int IntKind.i64 (↑x : Int)])) ∧
   ((inK IntKind.i64 ((↑x : Int) + (1 : Int))) ∧
   (∃ y : Nat, ((SLe
   (AS.mk
   [(0, V.oref 0 0 0), (1, encL (encMsg 1) 1 l),
   (2, V.int IntKind.i64 kind),
   (7, V.osl 32000512 (List.length (plcTo l kind x) + 1)),
   (8, V.int IntKind.i64 ((↑x : Int) + (1 : Int)))]
   [(32000512,
   Blk.arr 1 (List.length (plcTo l kind x) + 1)
   (appg (List.length (plcTo l kind x)) (gL encI (plcTo l kind x)) (rowg [V.int IntKind.i64 (↑x : Int)]))
   100),
   (0, Blk.box [encL encY 0 xs, V.int IntKind.i64 at_])])
   (AS.mk
   [(0, V.oref 0 0 0), (1, encL (encMsg 1) 1 l),
   (2, V.int IntKind.i64 kind), (7, V.osl 32000512 (List.length (plcTo l kind y))),
   (8, V.int IntKind.i64 (↑y : Int))]
   [(32000512, Blk.arr 1 (List.length (plcTo l kind y)) (gL encI (plcTo l kind y)) 100),
   (0, Blk.box [encL encY 0 xs, V.int IntKind.i64 at_])])) ∧
   ((y ≤ List.length l) ∧
   (List.length l - y < List.length l - x))))))))) ∧
   (((Msg.kind (List.getD l (Int.toNat (↑x : Int)) default) == kind) = false) →
   ((inK IntKind.i64 ((↑x : Int) + (1 : Int))) ∧
   (∃ y : Nat, ((SLe
   (AS.mk
   [(0, V.oref 0 0 0), (1, encL (encMsg 1) 1 l),
   (2, V.int IntKind.i64 kind), (7, V.osl 32000512 (List.length (plcTo l kind x))),
   (8, V.int IntKind.i64 ((↑x : Int) + (1 : Int)))]
   [(32000512, Blk.arr 1 (List.length (plcTo l kind x)) (gL encI (plcTo l kind x)) 100),
   (0, Blk.box [encL encY 0 xs, V.int IntKind.i64 at_])])
   (AS.mk
   [(0, V.oref 0 0 0), (1, encL (encMsg 1) 1 l),
   (2, V.int IntKind.i64 kind), (7, V.osl 32000512 (List.length (plcTo l kind y))),
   (8, V.int IntKind.i64 (↑y : Int))]
   [(32000512, Blk.arr 1 (List.length (plcTo l kind y)) (gL encI (plcTo l kind y)) 100),
   (0, Blk.box [encL encY 0 xs, V.int IntKind.i64 at_])])) ∧
   ((y ≤ List.length l) ∧
   (List.length l - y < List.length l - x))))))))) ∧
   ((decide ((↑x : Int) < (↑(List.length l) : Int)) = false) →
   ((tq (!(↑(List.length (plcTo l kind x)) : Int) == (0 : Int))) ∧
   ((((!(↑(List.length (plcTo l kind x)) : Int) == (0 : Int)) = true) →
   (((0 = 0) ∧
   ((0 = 0) ∧
   (0 = 0))) ∧
   ((VLe (encL encY 1 xs) (encL encY 1 (decL decY (encL encY 1 xs)))) ∧
   (pr25 (decL decY (encL encY 1 xs)) at_ (8 : Int))))) ∧
   ((((!(↑(List.length (plcTo l kind x)) : Int) == (0 : Int)) = false) →
   (encL encY 0 xs = encL encY 0 (decL decY (encL encY 1 xs)))) ∧
   (((true = true) →
   ((((↑(List.length (plcTo l kind x)) : Int) == (0 : Int)) = false) →
   ((!(↑(List.length (plcTo l kind x)) : Int) == (0 : Int)) = true))) ∧
   (∀ b : Bool,
   ((b =
   bif (↑(List.length (plcTo l kind x)) : Int) == (0 : Int) then true
   else decide (nextF (decL decY (encL encY 1 xs)) at_ (8 : Int) = (0 : Int))) →
   (((b = true) →
   ((((0 = 0) ∧
   ((0 = 0) ∧
   (0 = 0))) ∧
   ((VLe (encL encY 1 (decL decY (encL encY 1 xs)))
   (encL encY 1 (decL decY (encL encY 1 (decL decY (encL encY 1 xs)))))) ∧
   (pr28 (decL decY (encL encY 1 (decL decY (encL encY 1 xs))))
   (bif !(↑(List.length (plcTo l kind x)) : Int) == (0 : Int) then
   ra25 (decL decY (encL encY 1 xs)) at_ (8 : Int)
   else at_)
   (30 : Int)))) ∧
   ((inK IntKind.i64
   (nextF (decL decY (encL encY 1 (decL decY (encL encY 1 xs))))
   (bif !(↑(List.length (plcTo l kind x)) : Int) == (0 : Int) then
   ra25 (decL decY (encL encY 1 xs)) at_ (8 : Int)
   else at_)
   (30 : Int) -
   (1 : Int))) ∧
   ((VLe
   (V.int IntKind.i64
   (nextF (decL decY (encL encY 1 (decL decY (encL encY 1 xs))))
   (bif !(↑(List.length (plcTo l kind x)) : Int) == (0 : Int) then
   ra25 (decL decY (encL encY 1 xs)) at_ (8 : Int)
   else at_)
   (30 : Int) -
   (1 : Int)))
   (V.int IntKind.i64 (Prod.fst (placeD xs at_ l kind)))) ∧
   ((BLe
   (Blk.box
   [encL encY 1 (decL decY (encL encY 1 (decL decY (encL encY 1 xs)))),
   V.int IntKind.i64
   (ra28 (decL decY (encL encY 1 (decL decY (encL encY 1 xs))))
   (bif !(↑(List.length (plcTo l kind x)) : Int) == (0 : Int) then
   ra25 (decL decY (encL encY 1 xs)) at_ (8 : Int)
   else at_)
   (30 : Int))])
   (Blk.box [encL encY 1 xs, V.int IntKind.i64 (ra48 xs at_ l kind)])) ∧
   (True)))))) ∧
   ((b = false) →
   ((((0 = 0) ∧
   ((0 = 0) ∧
   (0 = 0))) ∧
   ((VLe (encL encY 1 (decL decY (encL encY 1 xs)))
   (encL encY 1 (decL decY (encL encY 1 (decL decY (encL encY 1 xs)))))) ∧
   (pr28 (decL decY (encL encY 1 (decL decY (encL encY 1 xs))))
   (bif !(↑(List.length (plcTo l kind x)) : Int) == (0 : Int) then
   ra25 (decL decY (encL encY 1 xs)) at_ (8 : Int)
   else at_)
   (↑(List.length (plcTo l kind x)) : Int)))) ∧
   ((((0 : Int) ≤
   nextF (decL decY (encL encY 1 (decL decY (encL encY 1 xs))))
   (bif !(↑(List.length (plcTo l kind x)) : Int) == (0 : Int) then
   ra25 (decL decY (encL encY 1 xs)) at_ (8 : Int)
   else at_)
   (↑(List.length (plcTo l kind x)) : Int)) ∧
   (nextF (decL decY (encL encY 1 (decL decY (encL encY 1 xs))))
   (bif !(↑(List.length (plcTo l kind x)) : Int) == (0 : Int) then
   ra25 (decL decY (encL encY 1 xs)) at_ (8 : Int)
   else at_)
   (↑(List.length (plcTo l kind x)) : Int) <
   (↑(List.length (plcTo l kind x)) : Int))) ∧
   ((Int.toNat
   (nextF (decL decY (encL encY 1 (decL decY (encL encY 1 xs))))
   (bif !(↑(List.length (plcTo l kind x)) : Int) == (0 : Int) then
   ra25 (decL decY (encL encY 1 xs)) at_ (8 : Int)
   else at_)
   (↑(List.length (plcTo l kind x)) : Int)) <
   List.length (plcTo l kind x)) ∧
   ((VLe
   (V.int IntKind.i64
   (List.getD (plcTo l kind x)
   (Int.toNat
   (nextF (decL decY (encL encY 1 (decL decY (encL encY 1 xs))))
   (bif !(↑(List.length (plcTo l kind x)) : Int) == (0 : Int) then
   ra25 (decL decY (encL encY 1 xs)) at_ (8 : Int)
   else at_)
   (↑(List.length (plcTo l kind x)) : Int)))
   default))
   (V.int IntKind.i64 (Prod.fst (placeD xs at_ l kind)))) ∧
   ((BLe
   (Blk.box
   [encL encY 1 (decL decY (encL encY 1 (decL decY (encL encY 1 xs)))),
   V.int IntKind.i64
   (ra28 (decL decY (encL encY 1 (decL decY (encL encY 1 xs))))
   (bif !(↑(List.length (plcTo l kind x)) : Int) == (0 : Int) then
   ra25 (decL decY (encL encY 1 xs)) at_ (8 : Int)
   else at_)
   (↑(List.length (plcTo l kind x)) : Int))])
   (Blk.box [encL encY 1 xs, V.int IntKind.i64 (ra48 xs at_ l kind)])) ∧
   (True))))))))))))))))))) := by
    obtain ⟨h0, h1, h2⟩ := hpre
    have h3 := h0.2.2.1
    simp only [decL_bytes, decL_Msg, decL_ints, ra28, ra25]
    refine ⟨⟨0, sle_of ⟨rfl, VLe.refl _, rfl, VLe.refl _, rfl, VLe.refl _, rfl, VLe.refl _, rfl, VLe.refl _, trivial⟩ ⟨rfl, ble_nilR _, rfl, src0, trivial⟩, Nat.zero_le _⟩, fun i hi => ⟨fun h => ?_, fun h => ?_⟩⟩
    · have hlt : i < l.length := by simpa using h
      have hpl := plcTo_len l kind i
      simp only [Int.toNat_natCast]
      refine ⟨by omega, fun c => ⟨trivial, by omega, sizedL_int, inK64 (by omega), i + 1, ?_, by omega, by omega⟩, fun c => ⟨inK64 (by omega), i + 1, ?_, by omega, by omega⟩⟩
      · have e : plcTo l kind (i + 1) = plcTo l kind i ++ [(i : Int)] := by
          show _ ++ (if _ then _ else _) = _
          rw [if_pos (by simpa using c)]
        rw [e, List.length_append, List.length_singleton]
        exact sle_of ⟨rfl, VLe.refl _, rfl, VLe.refl _, rfl, VLe.refl _, rfl, VLe.refl _, rfl, vle_int (by omega), trivial⟩ ⟨rfl, ble_push rfl rfl, rfl, BLe.refl _, trivial⟩
      · have e : plcTo l kind (i + 1) = plcTo l kind i := by
          show _ ++ (if _ then _ else _) = _
          rw [if_neg (by simpa using c), List.append_nil]
        rw [e]
        exact sle_of ⟨rfl, VLe.refl _, rfl, VLe.refl _, rfl, VLe.refl _, rfl, VLe.refl _, rfl, vle_int (by omega), trivial⟩ ⟨rfl, BLe.refl _, rfl, BLe.refl _, trivial⟩
    · have hil : i = l.length := by simp at h; omega
      subst hil
      unfold ra48 placeD
      have ha1 : okX xs (at_ + 1) := h0.to (by omega) (by omega)
      have hpl := plcTo_len l kind l.length
      generalize plcTo l kind l.length = p at *
      by_cases hp : p.length = 0
      · have b1 : ((p.length : Int) == 0) = true := by simp [hp]
        have n := nextF_bd h0 30
        simp only [b1, Bool.not_true, cond_false, cond_true, if_pos hp]
        refine ⟨tqB _, fun h => (by cases h), fun _ => trivial, fun _ h => (by cases h), fun b hb => ⟨fun _ => ?_, fun h => ?_⟩⟩
        · exact ⟨srcO h0, inK64 (by omega), VLe.refl _, ble_src rfl, trivial⟩
        · rw [hb] at h; cases h
      · have b1 : ((p.length : Int) == 0) = false := by rw [beq_eq_false_iff_ne]; omega
        have n := nextF_bd ha1 30
        have n2 := nextF_bd ha1 p.length
        simp only [b1, Bool.not_false, cond_false, cond_true, if_neg hp, Int.add_assoc, Int.reduceAdd]
        refine ⟨tqB _, fun _ => srcO h0, fun _ => trivial, by simp, fun b hb => ⟨fun h => ?_, fun h => ?_⟩⟩
        · rw [h] at hb
          rw [if_pos (of_decide_eq_true hb.symm)]
          exact ⟨srcO ha1, inK64 (by omega), VLe.refl _, ble_src rfl, trivial⟩
        · rw [h] at hb
          rw [if_neg (of_decide_eq_false hb.symm)]
          exact ⟨srcO ha1, ⟨n2.1, n2.2.1 (by omega)⟩, by omega, VLe.refl _, ble_src rfl, trivial⟩
  exact Eq.mp (by kernel_rfl) key
noncomputable def sp48 : FSpec := fun args bin => match args, bin with
  | [.oref i0 j0 o0, a1, .int .i64 a2], [.box [v0, .int .i64 p0]] => some ((i0 = 0 ∧ j0 = 0 ∧ o0 = 0) ∧ VLe v0 (encL encY 1 (decL decY v0)) ∧ VLe a1 (encL (encMsg 1) 1 (((decL decMsg) a1))) ∧ pr48 (decL decY v0) p0 ((decL decMsg) a1) a2, rs48 (decL decY v0) p0 ((decL decMsg) a1) a2, [.box [encL encY 1 (decL decY v0), .int .i64 (ra48 (decL decY v0) p0 ((decL decMsg) a1) a2)]])
  | _, _ => none
theorem so48 : Sound Try.prog 48 sp48 := by
  refine sound_of_bodyO hmix (tpl := []) Try.func48 rfl (by kernel_rfl) fun args bin ob r bout hDe hob => ?_
  unfold sp48 at hDe
  split at hDe
  · rename_i i0 j0 o0 a1 a2 v0 p0
    cases hDe
    obtain ⟨⟨rfl, rfl, rfl⟩, h0, hv1, hpre⟩ := hob
    have hb := bd48 (decL decY v0) p0 ((decL decMsg) a1) a2 hpre
    exact ⟨Nat.le_of_ble_eq_true (by kernel_rfl), cx48 (decL decY v0) p0 ((decL decMsg) a1) a2, Eq.mp (by kernel_rfl) htt, Eq.mp (by kernel_rfl) da48, Eq.mp (by kernel_rfl) (noM_sound (P := Try.prog)), by kernel_rfl, [.oref 0 0 0, encL (encMsg 1) 1 (((decL decMsg) a1)), .int .i64 (a2)], [(.box [encL encY 1 (decL decY v0), .int .i64 p0])], args_of_vles (l' := [.oref 0 0 0, encL (encMsg 1) 1 (((decL decMsg) a1)), .int .i64 (a2)]) ⟨VLe.refl _, hv1, VLe.refl _, trivial⟩, ⟨ble_box ⟨h0, VLe.refl _, trivial⟩, trivial⟩, Eq.mp (by kernel_rfl) hb⟩
  · cases hDe

noncomputable def refsD10 (xs : List Int) (l : List Msg) : Nat → Int → List Int → List Int × Int
  | 0, a, o => (o, a)
  | f + 1, a, o => refsD10 xs l f (placeD xs a l 4).2 (o ++ [(placeD xs a l 4).1])
theorem refsD10_bd (xs : List Int) (l : List Msg) : ∀ (f : Nat) (a : Int) (o : List Int), (refsD10 xs l f a o).1.length = o.length + f ∧ a ≤ (refsD10 xs l f a o).2 ∧ (refsD10 xs l f a o).2 ≤ a + 2 * f
  | 0, a, o => ⟨rfl, Int.le_refl _, by simp [refsD10]⟩
  | f + 1, a, o => by
    have h := placeD_bd xs a l 4
    have := refsD10_bd xs l f (placeD xs a l 4).2 (o ++ [(placeD xs a l 4).1])
    rw [List.length_append, List.length_singleton] at this
    unfold refsD10
    exact ⟨by omega, by omega, by omega⟩
noncomputable def refsX (xs : List Int) : List Int × Int := refsD10 xs (wrong10 xs 0).1 (nextF xs (wrong10 xs 0).2 5).toNat ((wrong10 xs 0).2 + 1) []
noncomputable def pickArg (xs : List Int) : Int × List Msg × List Int :=
  (drawF xs ((refsX xs).2 + 1), (wrong10 xs 0).1, if nextF xs (refsX xs).2 20 = 0 then [0, 0, 0, 0, 0, 0, 0, 0, 0] else (refsX xs).1)
def goX (xs : List Int) (l : List Msg) (b : Int) (f : Nat) (a : Int) (o : List Int) : Prop := f ≤ 4 ∧ refsD10 xs l f a o = refsX xs ∧ b ≤ a ∧ a ≤ b + 2 * (4 - f) ∧ o.length + f ≤ 4

/-! ### spec.DrawPickOf -/
def pr20 (code : List Int) : Prop := okX code 0
noncomputable def ro20 (code : List Int) : Int × List Msg × List Int := pickArg code
noncomputable def rb20 (code : List Int) : List Blk := [(.arr 1 ((ro20 code).2.2).length (gL encI ((ro20 code).2.2)) tagS)]
noncomputable def rs20 (code : List Int) : V := .tup [.int .i64 ((ro20 code).1), encL (encMsg 1) 2 ((ro20 code).2.1), .osl 0 ((ro20 code).2.2).length]
noncomputable def sp20 : FSpec := fun args bin => match args, bin with
  | [a0], [] => some (VLe a0 (encL encY 1 (((decL decY) a0))) ∧ pr20 ((decL decY) a0), rs20 ((decL decY) a0), rb20 ((decL decY) a0))
  | _, _ => none
noncomputable def in20_5 (code : List Int) : LoopInv :=
  ⟨Nat × Int × List Int, fun p => ⟨[(5, .oref 704 0 0), (6, encL (encMsg 1) 212 (wrong10 code 0).1), (7, .osl (canonT 7) p.2.2.length), (8, .int .i64 p.1)], [(canonT 7, .arr 1 p.2.2.length (gL encI p.2.2) tagS), (704, .box [encL encY 0 code, .int .i64 p.2.1])]⟩,
    fun p => goX code (wrong10 code 0).1 ((wrong10 code 0).2 + 1) p.1 p.2.1 p.2.2, fun p => p.1⟩
noncomputable def iv20 (code : List Int) : Nat → Option LoopInv := fun rg_ => match rg_ with
  | 5 => some (in20_5 code)
  | _ => none
noncomputable def D20 : Nat → Option (Bool × FSpec) := lk [(23, (true, sp23)), (47, (true, sp47z)), (28, (true, sp28)), (48, (true, sp48)), (25, (true, sp25)), (26, (true, sp26))]
theorem da20 : SoundAll Try.prog D20 := soundAll_cons so23 (soundAll_cons so47z (soundAll_cons so28 (soundAll_cons so48 (soundAll_cons so25 (soundAll_cons so26 (soundAll_nil))))))
noncomputable def cx20 (code : List Int) : Cx := ⟨tt, D20, Try.f20.ntmps, [0, 2, 3, 4, 5, 6, 7, 8, 17, 27], [(5, ⟨[(5, none), (6, none), (7, some 1), (8, none)], [(704, [])]⟩)], [], iv20 code, [], noM, []⟩
theorem bd20 (code : List Int) (hpre : pr20 code) : bodyO (cx20 code) Try.f20 [(2, 1)] [encL encY 1 (code)] [] (fun rr bs => VLe rr (rs20 code) ∧ BinLe bs (rb20 code)) := by
  have key :
      (((VLe (encL encY 1 code) (encL encY 1 (decL decY (encL encY 1 code)))) ∧
   (pr23 (decL decY (encL encY 1 code)))) ∧
   ((((0 = 0) ∧
   ((0 = 0) ∧
   (0 = 0))) ∧
   ((VLe (encL encY 1 (decL decY (encL encY 1 code)))
   (encL encY 1 (decL decY (encL encY 1 (decL decY (encL encY 1 code)))))) ∧
   (pr47z (decL decY (encL encY 1 (decL decY (encL encY 1 code)))) (0 : Int)))) ∧
   ((((0 = 0) ∧
   ((0 = 0) ∧
   (0 = 0))) ∧
   ((VLe (encL encY 1 (decL decY (encL encY 1 (decL decY (encL encY 1 code)))))
   (encL encY 1
   (decL decY (encL encY 1 (decL decY (encL encY 1 (decL decY (encL encY 1 code)))))))) ∧
   (pr28 (decL decY (encL encY 1 (decL decY (encL encY 1 (decL decY (encL encY 1 code))))))
   (ra47z (decL decY (encL encY 1 (decL decY (encL encY 1 code)))) (0 : Int)) (5 : Int)))) ∧
   ((∃ x : Nat × Int × List Int, ((SLe
   (AS.mk
   [(5, V.oref 704 0 0),
   (6,
   encL (encMsg 1) 212
   (Prod.fst (wrong10 (decL decY (encL encY 1 (decL decY (encL encY 1 code)))) (0 : Int)))),
   (7, V.osl 32000512 0),
   (8,
   V.int IntKind.i64
   (nextF
   (decL decY (encL encY 1 (decL decY (encL encY 1 (decL decY (encL encY 1 code))))))
   (ra47z (decL decY (encL encY 1 (decL decY (encL encY 1 code)))) (0 : Int)) (5 : Int)))]
   [(32000512, Blk.arr 1 0 (rowg []) 100),
   (704,
   Blk.box
   [encL encY 0
   (decL decY
   (encL encY 1 (decL decY (encL encY 1 (decL decY (encL encY 1 code)))))),
   V.int IntKind.i64
   (ra28
   (decL decY
   (encL encY 1 (decL decY (encL encY 1 (decL decY (encL encY 1 code))))))
   (ra47z (decL decY (encL encY 1 (decL decY (encL encY 1 code)))) (0 : Int))
   (5 : Int))])])
   (AS.mk
   [(5, V.oref 704 0 0),
   (6, encL (encMsg 1) 212 (Prod.fst (wrong10 code (0 : Int)))),
   (7, V.osl 32000512 (List.length (Prod.snd (Prod.snd x)))),
   (8, V.int IntKind.i64 (↑(Prod.fst x) : Int))]
   [(32000512,
   Blk.arr 1 (List.length (Prod.snd (Prod.snd x))) (gL encI (Prod.snd (Prod.snd x))) 100),
   (704, Blk.box [encL encY 0 code, V.int IntKind.i64 (Prod.fst (Prod.snd x))])])) ∧
   (goX code (Prod.fst (wrong10 code (0 : Int))) (Prod.snd (wrong10 code (0 : Int)) + (1 : Int)) (Prod.fst x)
   (Prod.fst (Prod.snd x)) (Prod.snd (Prod.snd x))))) ∧
   (∀ x : Nat × Int × List Int,
   ((goX code (Prod.fst (wrong10 code (0 : Int))) (Prod.snd (wrong10 code (0 : Int)) + (1 : Int)) (Prod.fst x)
   (Prod.fst (Prod.snd x)) (Prod.snd (Prod.snd x))) →
   (((decide ((↑(Prod.fst x) : Int) > (0 : Int)) = true) →
   ((((0 = 0) ∧
   ((0 = 0) ∧
   (0 = 0))) ∧
   ((VLe (encL encY 1 code) (encL encY 1 (decL decY (encL encY 1 code)))) ∧
   ((VLe (encL (encMsg 1) 1 (Prod.fst (wrong10 code (0 : Int))))
   (encL (encMsg 1) 1
   (decL decMsg (encL (encMsg 1) 1 (Prod.fst (wrong10 code (0 : Int))))))) ∧
   (pr48 (decL decY (encL encY 1 code)) (Prod.fst (Prod.snd x))
   (decL decMsg (encL (encMsg 1) 1 (Prod.fst (wrong10 code (0 : Int))))) (4 : Int))))) ∧
   ((List.length (Prod.snd (Prod.snd x)) = List.length (Prod.snd (Prod.snd x))) ∧
   ((List.length (Prod.snd (Prod.snd x)) + 1 ≤ 1073741824) ∧
   ((sizedL 1 1
   (rowg
   [V.int IntKind.i64
   (Prod.fst
   (placeD (decL decY (encL encY 1 code)) (Prod.fst (Prod.snd x))
   (decL decMsg (encL (encMsg 1) 1 (Prod.fst (wrong10 code (0 : Int))))) (4 : Int)))])) ∧
   ((inK IntKind.i64 ((↑(Prod.fst x) : Int) - (1 : Int))) ∧
   (∃ y : Nat × Int × List Int, ((SLe
   (AS.mk
   [(5, V.oref 704 0 0),
   (6, encL (encMsg 1) 212 (Prod.fst (wrong10 code (0 : Int)))),
   (7, V.osl 32000512 (List.length (Prod.snd (Prod.snd x)) + 1)),
   (8, V.int IntKind.i64 ((↑(Prod.fst x) : Int) - (1 : Int)))]
   [(32000512,
   Blk.arr 1 (List.length (Prod.snd (Prod.snd x)) + 1)
   (appg (List.length (Prod.snd (Prod.snd x))) (gL encI (Prod.snd (Prod.snd x)))
   (rowg
   [V.int IntKind.i64
   (Prod.fst
   (placeD (decL decY (encL encY 1 code)) (Prod.fst (Prod.snd x))
   (decL decMsg (encL (encMsg 1) 1 (Prod.fst (wrong10 code (0 : Int)))))
   (4 : Int)))]))
   100),
   (704,
   Blk.box
   [encL encY 0 (decL decY (encL encY 1 code)),
   V.int IntKind.i64
   (ra48 (decL decY (encL encY 1 code)) (Prod.fst (Prod.snd x))
   (decL decMsg (encL (encMsg 1) 1 (Prod.fst (wrong10 code (0 : Int))))) (4 : Int))])])
   (AS.mk
   [(5, V.oref 704 0 0),
   (6, encL (encMsg 1) 212 (Prod.fst (wrong10 code (0 : Int)))),
   (7, V.osl 32000512 (List.length (Prod.snd (Prod.snd y)))),
   (8, V.int IntKind.i64 (↑(Prod.fst y) : Int))]
   [(32000512,
   Blk.arr 1 (List.length (Prod.snd (Prod.snd y))) (gL encI (Prod.snd (Prod.snd y))) 100),
   (704, Blk.box [encL encY 0 code, V.int IntKind.i64 (Prod.fst (Prod.snd y))])])) ∧
   ((goX code (Prod.fst (wrong10 code (0 : Int))) (Prod.snd (wrong10 code (0 : Int)) + (1 : Int)) (Prod.fst y)
   (Prod.fst (Prod.snd y)) (Prod.snd (Prod.snd y))) ∧
   (Prod.fst y < Prod.fst x)))))))))) ∧
   ((decide ((↑(Prod.fst x) : Int) > (0 : Int)) = false) →
   ((((0 = 0) ∧
   ((0 = 0) ∧
   (0 = 0))) ∧
   ((VLe (encL encY 1 code) (encL encY 1 (decL decY (encL encY 1 code)))) ∧
   (pr25 (decL decY (encL encY 1 code)) (Prod.fst (Prod.snd x)) (20 : Int)))) ∧
   (((decide (nextF (decL decY (encL encY 1 code)) (Prod.fst (Prod.snd x)) (20 : Int) = (0 : Int)) = true) →
   ((((0 : Int) ≤ (9 : Int)) ∧
   (((9 : Int) ≤ (9 : Int)) ∧
   ((9 : Int) ≤ (↑1073741824 : Int)))) ∧
   ((((0 = 0) ∧
   ((0 = 0) ∧
   (0 = 0))) ∧
   ((VLe (encL encY 1 (decL decY (encL encY 1 code)))
   (encL encY 1 (decL decY (encL encY 1 (decL decY (encL encY 1 code)))))) ∧
   (pr26 (decL decY (encL encY 1 (decL decY (encL encY 1 code))))
   (ra25 (decL decY (encL encY 1 code)) (Prod.fst (Prod.snd x)) (20 : Int))))) ∧
   ((VLe
   (V.tup
   [V.int IntKind.i64
   (pickF (decL decY (encL encY 1 (decL decY (encL encY 1 code))))
   (ra25 (decL decY (encL encY 1 code)) (Prod.fst (Prod.snd x)) (20 : Int))
   [(1 : Int), (1 : Int), (1 : Int), (1 : Int), (2 : Int), (0 : Int), (1 : Int), (1 : Int), (3 : Int)]),
   encL (encMsg 1) 2 (Prod.fst (wrong10 code (0 : Int))), V.osl 0 9])
   (V.tup
   [V.int IntKind.i64
   (Prod.fst
   (drawF code (Prod.snd (refsX code) + (1 : Int)), Prod.fst (wrong10 code (0 : Int)),
   if nextF code (Prod.snd (refsX code)) (20 : Int) = (0 : Int) then
   [(0 : Int), (0 : Int), (0 : Int), (0 : Int), (0 : Int), (0 : Int), (0 : Int), (0 : Int), (0 : Int)]
   else Prod.fst (refsX code))),
   encL (encMsg 1) 2
   (Prod.fst
   (Prod.fst (wrong10 code (0 : Int)),
   if nextF code (Prod.snd (refsX code)) (20 : Int) = (0 : Int) then
   [(0 : Int), (0 : Int), (0 : Int), (0 : Int), (0 : Int), (0 : Int), (0 : Int), (0 : Int), (0 : Int)]
   else Prod.fst (refsX code))),
   V.osl 0
   (List.length
   (Prod.snd
   (Prod.fst (wrong10 code (0 : Int)),
   if nextF code (Prod.snd (refsX code)) (20 : Int) = (0 : Int) then
   [(0 : Int), (0 : Int), (0 : Int), (0 : Int), (0 : Int), (0 : Int), (0 : Int), (0 : Int), (0 : Int)]
   else Prod.fst (refsX code))))])) ∧
   ((BLe (Blk.arr 1 9 (fun (x : Nat) ↦ V.int IntKind.i64 (0 : Int)) 100)
   (Blk.arr 1
   (List.length
   (Prod.snd
   (Prod.fst (wrong10 code (0 : Int)),
   if nextF code (Prod.snd (refsX code)) (20 : Int) = (0 : Int) then
   [(0 : Int), (0 : Int), (0 : Int), (0 : Int), (0 : Int), (0 : Int), (0 : Int), (0 : Int), (0 : Int)]
   else Prod.fst (refsX code))))
   (gL encI
   (Prod.snd
   (Prod.fst (wrong10 code (0 : Int)),
   if nextF code (Prod.snd (refsX code)) (20 : Int) = (0 : Int) then
   [(0 : Int), (0 : Int), (0 : Int), (0 : Int), (0 : Int), (0 : Int), (0 : Int), (0 : Int), (0 : Int)]
   else Prod.fst (refsX code))))
   100)) ∧
   (True)))))) ∧
   ((decide (nextF (decL decY (encL encY 1 code)) (Prod.fst (Prod.snd x)) (20 : Int) = (0 : Int)) = false) →
   ((((0 = 0) ∧
   ((0 = 0) ∧
   (0 = 0))) ∧
   ((VLe (encL encY 1 (decL decY (encL encY 1 code)))
   (encL encY 1 (decL decY (encL encY 1 (decL decY (encL encY 1 code)))))) ∧
   (pr26 (decL decY (encL encY 1 (decL decY (encL encY 1 code))))
   (ra25 (decL decY (encL encY 1 code)) (Prod.fst (Prod.snd x)) (20 : Int))))) ∧
   ((VLe
   (V.tup
   [V.int IntKind.i64
   (pickF (decL decY (encL encY 1 (decL decY (encL encY 1 code))))
   (ra25 (decL decY (encL encY 1 code)) (Prod.fst (Prod.snd x)) (20 : Int))
   [(1 : Int), (1 : Int), (1 : Int), (1 : Int), (2 : Int), (0 : Int), (1 : Int), (1 : Int), (3 : Int)]),
   encL (encMsg 1) 2 (Prod.fst (wrong10 code (0 : Int))),
   V.osl 0 (List.length (Prod.snd (Prod.snd x)))])
   (V.tup
   [V.int IntKind.i64
   (Prod.fst
   (drawF code (Prod.snd (refsX code) + (1 : Int)), Prod.fst (wrong10 code (0 : Int)),
   if nextF code (Prod.snd (refsX code)) (20 : Int) = (0 : Int) then
   [(0 : Int), (0 : Int), (0 : Int), (0 : Int), (0 : Int), (0 : Int), (0 : Int), (0 : Int), (0 : Int)]
   else Prod.fst (refsX code))),
   encL (encMsg 1) 2
   (Prod.fst
   (Prod.fst (wrong10 code (0 : Int)),
   if nextF code (Prod.snd (refsX code)) (20 : Int) = (0 : Int) then
   [(0 : Int), (0 : Int), (0 : Int), (0 : Int), (0 : Int), (0 : Int), (0 : Int), (0 : Int), (0 : Int)]
   else Prod.fst (refsX code))),
   V.osl 0
   (List.length
   (Prod.snd
   (Prod.fst (wrong10 code (0 : Int)),
   if nextF code (Prod.snd (refsX code)) (20 : Int) = (0 : Int) then
   [(0 : Int), (0 : Int), (0 : Int), (0 : Int), (0 : Int), (0 : Int), (0 : Int), (0 : Int), (0 : Int)]
   else Prod.fst (refsX code))))])) ∧
   ((BLe (Blk.arr 1 (List.length (Prod.snd (Prod.snd x))) (gL encI (Prod.snd (Prod.snd x))) 100)
   (Blk.arr 1
   (List.length
   (Prod.snd
   (Prod.fst (wrong10 code (0 : Int)),
   if nextF code (Prod.snd (refsX code)) (20 : Int) = (0 : Int) then
   [(0 : Int), (0 : Int), (0 : Int), (0 : Int), (0 : Int), (0 : Int), (0 : Int), (0 : Int), (0 : Int)]
   else Prod.fst (refsX code))))
   (gL encI
   (Prod.snd
   (Prod.fst (wrong10 code (0 : Int)),
   if nextF code (Prod.snd (refsX code)) (20 : Int) = (0 : Int) then
   [(0 : Int), (0 : Int), (0 : Int), (0 : Int), (0 : Int), (0 : Int), (0 : Int), (0 : Int), (0 : Int)]
   else Prod.fst (refsX code))))
   100)) ∧
   (True))))))))))))))) := by
    have h0 : okX code 0 := hpre
    have w := wrong10_bd h0 (by omega)
    have hz : BLe (.arr 1 9 (fun x => V.int .i64 0) 100) (.arr 1 ([0, 0, 0, 0, 0, 0, 0, 0, 0] : List Int).length (gL encI [0, 0, 0, 0, 0, 0, 0, 0, 0]) 100) := by
      refine ble_arr (fun i hi => ?_) (Or.inl rfl)
      have : ∀ i, i < 9 → gL encI ([0, 0, 0, 0, 0, 0, 0, 0, 0] : List Int) i = .int .i64 0 := by
        intro i hi
        match i, hi with
        | 0, _ => rfl
        | 1, _ => rfl
        | 2, _ => rfl
        | 3, _ => rfl
        | 4, _ => rfl
        | 5, _ => rfl
        | 6, _ => rfl
        | 7, _ => rfl
        | 8, _ => rfl
      rw [this i hi]
      exact ELe.refl _
    simp only [decL_bytes, decL_Msg, ra26, ra47z, ra25, ra28, ra48]
    have hX : refsX code = refsD10 code (wrong10 code 0).1 (nextF code (wrong10 code 0).2 5).toNat ((wrong10 code 0).2 + 1) [] := rfl
    generalize hXe : refsX code = X at *
    generalize wrong10 code 0 = W at *
    obtain ⟨l, b⟩ := W
    simp only at w hX ⊢
    have hb0 : okX code b := h0.to (by omega) (by omega)
    have n5 := nextF_bd hb0 5
    have en : nextF code b 5 = ((nextF code b 5).toNat : Int) := by omega
    refine ⟨⟨VLe.refl _, trivial⟩, srcO ⟨h0, by omega⟩, srcO hb0, ⟨((nextF code b 5).toNat, b + 1, []), sle_of ⟨rfl, VLe.refl _, rfl, VLe.refl _, rfl, VLe.refl _, rfl, vle_int en, trivial⟩ ⟨rfl, ble_nilR _, rfl, BLe.refl _, trivial⟩, by simp only; omega, (hXe.trans hX).symm, by simp only; omega, by simp only; omega, by simp only [List.length_nil]; omega⟩, ?_⟩
    rintro ⟨f, a, o⟩ ⟨g1, g2, g3, g4, g5⟩
    simp only at g1 g2 g3 g4 g5 ⊢
    refine ⟨fun h => ?_, fun h => ?_⟩
    · cases f with
      | zero => exact absurd (of_decide_eq_true h) (by decide)
      | succ f =>
        have ef : ((f + 1 : Nat) : Int) - 1 = f := by omega
        have hp := placeD_bd code a l 4
        refine ⟨⟨⟨trivial, trivial, trivial⟩, VLe.refl _, VLe.refl _, h0.to (by omega) (by omega), by omega, by omega⟩, trivial, by omega, sizedL_int, inK64 (by omega), (f, (placeD code a l 4).2, o ++ [(placeD code a l 4).1]), ?_, ⟨by simp only; omega, ?_, by simp only; omega, by simp only; omega, ?_⟩, by simp only; omega⟩
        · simp only [List.length_append, List.length_singleton]
          exact sle_of ⟨rfl, VLe.refl _, rfl, VLe.refl _, rfl, VLe.refl _, rfl, vle_int ef, trivial⟩ ⟨rfl, ble_push rfl rfl, rfl, BLe.refl _, trivial⟩
        · rw [← g2, refsD10]
        · simp only [List.length_append, List.length_singleton]; omega
    · have hf : f = 0 := by have := of_decide_eq_false h; omega
      subst hf
      have e : X = (o, a) := hXe.symm.trans g2.symm
      rw [e]
      have ha : okX code a := h0.to (by omega) (by omega)
      have ha1 : okX code (a + 1) := h0.to (by omega) (by omega)
      refine ⟨srcO ha, fun c => ?_, fun c => ?_⟩
      · simp only [if_pos (of_decide_eq_true c)]
        exact ⟨⟨by omega, by omega, by omega⟩, srcO ha1, VLe.refl _, hz, trivial⟩
      · simp only [if_neg (of_decide_eq_false c)]
        exact ⟨srcO ha1, VLe.refl _, BLe.refl _, trivial⟩
  exact Eq.mp (by kernel_rfl) key
theorem so20 : Sound Try.prog 20 sp20 := by
  refine sound_of_bodyO hmix (tpl := [(2, 1)]) Try.func20 rfl (by kernel_rfl) fun args bin ob r bout hDe hob => ?_
  unfold sp20 at hDe
  split at hDe
  · rename_i a0
    cases hDe
    exact ⟨Nat.le_of_ble_eq_true (by kernel_rfl), cx20 ((decL decY) a0), Eq.mp (by kernel_rfl) htt, Eq.mp (by kernel_rfl) da20, Eq.mp (by kernel_rfl) (noM_sound (P := Try.prog)), by kernel_rfl, [encL encY 1 (((decL decY) a0))], [], args_of_vles (⟨hob.1, trivial⟩), trivial, Eq.mp (by kernel_rfl) (bd20 ((decL decY) a0) (hob.2))⟩
  · cases hDe

end Go.Av
