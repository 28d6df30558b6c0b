/- The worlds that a source draws. -/
import Derived.Test.YtakcaanpnmkccaaR3
namespace Go.Av
open Go.Proofs
set_option maxRecDepth 100000
set_option maxHeartbeats 2000000
set_option linter.unusedVariables false
set_option linter.unusedSimpArgs false

/-- Whether a drawn run goes on as the whole one does (named, so that the tool lets it be). -/
def goS (xs : List Int) (at_ : Int) (f : Nat) (a : Int) (l : List Msg) : Prop := f ≤ 2 ∧ slotD xs f (3 - f) a l = slotD xs 2 1 at_ [] ∧ a = at_ + 10 * (2 - f) ∧ l.length + 8 * f ≤ 16 ∧ shortM 100 l
def goM (xs : List Int) (at_ : Int) (f : Nat) (a : Int) (l : List Msg) : Prop := manyD xs f a l = worldL xs at_ ∧ at_ ≤ a ∧ a ≤ at_ + 21 + 112 * (3 - f) ∧ l.length + f ≤ 19 ∧ shortM 100 l
theorem src0 {xs : List Int} {a : Int} : BLe (.box [encL encY 1 xs, .int .i64 a]) (.box [encL encY 0 xs, .int .i64 a]) := ble_box ⟨vle_sl_eq (fun _ _ => rfl) (Or.inr rfl), VLe.refl _, trivial⟩
theorem ele_bare (a b c d e : Int) : ELe (.agg [.int .i64 a, .int .i64 b, .int .i64 c, .int .i64 d, .int .i64 e, .nil, .nil]) (encMsg 1 ⟨a, b, c, d, e, [], []⟩) := ele_of ⟨PLe.refl _, PLe.refl _, PLe.refl _, PLe.refl _, PLe.refl _, ple_nil _ _, ple_nil _ _, trivial⟩

/-! ### spec.l9World -/
def pr24 (xs : List Int) (at_ : Int)  : Prop := okX xs at_ ∧ at_ ≤ 900000
noncomputable def ro24 (xs : List Int) (at_ : Int)  : List Msg := (worldD xs at_).1
noncomputable def rs24 (xs : List Int) (at_ : Int)  : V := .osl 1 (ro24 xs at_ ).length
noncomputable def rb24 (xs : List Int) (at_ : Int)  : List Blk := [(.arr 7 (ro24 xs at_ ).length (gL (encMsg 1) (ro24 xs at_ )) 2)]
noncomputable def ra24 (xs : List Int) (at_ : Int)  : Int := (worldD xs at_).2
noncomputable def in24_3 (xs : List Int) (at_ : Int)  : LoopInv :=
  ⟨Nat × Int × List Msg, fun p => ⟨[(0, .oref 0 0 0), (3, .osl (canonT 3) p.2.2.length), (4, .int .i64 (3 - p.1))], [(canonT 3, .arr 7 p.2.2.length (gL (encMsg 1) p.2.2) 2), (0, .box [encL encY 0 xs, .int .i64 p.2.1])]⟩,
    fun p => goS xs at_ p.1 p.2.1 p.2.2, fun p => p.1⟩
noncomputable def in24_7 (xs : List Int) (at_ : Int)  : LoopInv :=
  ⟨Int × Int × Int × Nat × Int × List Msg, fun p => ⟨[(0, .oref 0 0 0), (3, .osl (canonT 3) p.2.2.2.2.2.length), (4, .int .i64 p.1), (5, .oref 384 0 0), (6, .int .i64 (4 - p.2.2.2.1))], [(canonT 3, .arr 7 p.2.2.2.2.2.length (gL (encMsg 1) p.2.2.2.2.2) 2), (0, .box [encL encY 0 xs, .int .i64 p.2.2.2.2.1]), (384, .box [.int .i64 p.1, .int .i64 p.2.1, .int .i64 p.2.2.1])]⟩,
    fun p => p.2.2.2.1 ≤ 2 ∧ shortM 100 p.2.2.2.2.2, fun p => p.2.2.2.1⟩
noncomputable def in24_10 (xs : List Int) (at_ : Int)  : LoopInv :=
  ⟨Int × Int × Int × Int × Nat × Int × List Msg, fun p => ⟨[(0, .oref 0 0 0), (3, .osl (canonT 3) p.2.2.2.2.2.2.length), (4, .int .i64 p.1), (5, .oref 384 0 0), (6, .int .i64 p.2.2.2.1), (7, .int .i64 (5 - p.2.2.2.2.1))], [(canonT 3, .arr 7 p.2.2.2.2.2.2.length (gL (encMsg 1) p.2.2.2.2.2.2) 2), (0, .box [encL encY 0 xs, .int .i64 p.2.2.2.2.2.1]), (384, .box [.int .i64 p.1, .int .i64 p.2.1, .int .i64 p.2.2.1])]⟩,
    fun p => p.2.2.2.2.1 ≤ 4 ∧ shortM 100 p.2.2.2.2.2.2, fun p => p.2.2.2.2.1⟩
noncomputable def in24_15 (xs : List Int) (at_ : Int)  : LoopInv :=
  ⟨Nat × Int × List Msg, fun p => ⟨[(0, .oref 0 0 0), (3, .osl (canonT 3) p.2.2.length), (8, .int .i64 p.1)], [(canonT 3, .arr 7 p.2.2.length (gL (encMsg 1) p.2.2) 2), (0, .box [encL encY 0 xs, .int .i64 p.2.1])]⟩,
    fun p => goM xs at_ p.1 p.2.1 p.2.2, fun p => p.1⟩
noncomputable def iv24 (xs : List Int) (at_ : Int)  : Nat → Option LoopInv := fun k0 => match k0 with
  | 3 => some (in24_3 xs at_ )
  | 7 => some (in24_7 xs at_ )
  | 10 => some (in24_10 xs at_ )
  | 15 => some (in24_15 xs at_ )
  | _ => none
noncomputable def D24 : Nat → Option (Bool × FSpec) := lk [(28, (true, sp28)), (25, (true, sp25)), (56, (true, sp56)), (57, (false, sp57)), (58, (true, sp58))]
theorem da24 : SoundAll Try.prog D24 := soundAll_cons so28 (soundAll_cons so25 (soundAll_cons so56 (soundAll_cons so57 (soundAll_cons so58 (soundAll_nil)))))
noncomputable def cx24 (xs : List Int) (at_ : Int)  : Cx := ⟨tt, D24, Try.f24.ntmps, [0, 2, 3, 4, 5, 6, 7, 8, 9, 12, 22, 26, 31, 46, 55, 61], [(3, ⟨[(0, none), (3, some 7), (4, none)], [(0, [])]⟩), (7, ⟨[(0, none), (3, some 7), (4, none), (5, none), (6, none)], [(0, []), (384, [])]⟩), (10, ⟨[(0, none), (3, some 7), (4, none), (5, none), (6, none), (7, none)], [(0, []), (384, [])]⟩), (15, ⟨[(0, none), (3, some 7), (8, none)], [(0, [])]⟩)], [], iv24 xs at_ , [], noM, [7, 10]⟩
theorem bd24 (xs : List Int) (at_ : Int)  (hpre : pr24 xs at_ ) : bodyO (cx24 xs at_ ) Try.f24 [(0, 7)] [.oref 0 0 0] [(.box [encL encY 1 xs, .int .i64 at_])] (fun rr bs => VLe rr (rs24 xs at_ ) ∧ BinLe bs [(.box [encL encY 1 xs, .int .i64 (ra24 xs at_ )]), (.arr 7 (ro24 xs at_ ).length (gL (encMsg 1) (ro24 xs at_ )) 2)]) := by
  have key :
      ((∃ x : Nat × Int × List Msg, ((SLe
   (AS.mk
   [(0, V.oref 0 0 0), (3, V.osl 32000256 0),
   (4, V.int IntKind.i64 (1 : Int))]
   [(32000256, Blk.arr 7 0 (rowg []) 2),
   (0, Blk.box [encL encY 1 xs, V.int IntKind.i64 at_])])
   (AS.mk
   [(0, V.oref 0 0 0),
   (3, V.osl 32000256 (List.length (Prod.snd (Prod.snd x)))),
   (4, V.int IntKind.i64 ((3 : Int) - (↑(Prod.fst x) : Int)))]
   [(32000256,
   Blk.arr 7 (List.length (Prod.snd (Prod.snd x))) (gL (encMsg 1) (Prod.snd (Prod.snd x)))
   2),
   (0, Blk.box [encL encY 0 xs, V.int IntKind.i64 (Prod.fst (Prod.snd x))])])) ∧
   (goS xs at_ (Prod.fst x) (Prod.fst (Prod.snd x)) (Prod.snd (Prod.snd x))))) ∧
   (∀ x : Nat × Int × List Msg,
   ((goS xs at_ (Prod.fst x) (Prod.fst (Prod.snd x)) (Prod.snd (Prod.snd x))) →
   (((decide ((3 : Int) - (↑(Prod.fst x) : Int) ≤ (2 : Int)) = true) →
   ((((0 = 0) ∧
   ((0 = 0) ∧
   (0 = 0))) ∧
   ((VLe (encL encY 1 xs) (encL encY 1 (decL decY (encL encY 1 xs)))) ∧
   (pr28 (decL decY (encL encY 1 xs)) (Prod.fst (Prod.snd x)) (2 : Int)))) ∧
   ((((0 = 0) ∧
   ((0 = 0) ∧
   (0 = 0))) ∧
   ((VLe (encL encY 1 (decL decY (encL encY 1 xs)))
   (encL encY 1 (decL decY (encL encY 1 (decL decY (encL encY 1 xs)))))) ∧
   (pr28 (decL decY (encL encY 1 (decL decY (encL encY 1 xs))))
   (ra28 (decL decY (encL encY 1 xs)) (Prod.fst (Prod.snd x)) (2 : Int)) (3 : Int)))) ∧
   (∃ R : Int × Int × Int × Nat × Int × List Msg → Prop, ((∃ x_1 : Int × Int × Int × Nat × Int × List Msg, ((SLe
   (AS.mk
   [(0, V.oref 0 0 0),
   (3, V.osl 32000256 (List.length (Prod.snd (Prod.snd x)))),
   (4, V.int IntKind.i64 ((3 : Int) - (↑(Prod.fst x) : Int))),
   (5, V.oref 384 0 0), (6, V.int IntKind.i64 (2 : Int))]
   [(32000256,
   Blk.arr 7 (List.length (Prod.snd (Prod.snd x))) (gL (encMsg 1) (Prod.snd (Prod.snd x)))
   2),
   (0,
   Blk.box
   [encL encY 0 (decL decY (encL encY 1 (decL decY (encL encY 1 xs)))),
   V.int IntKind.i64
   (ra28 (decL decY (encL encY 1 (decL decY (encL encY 1 xs))))
   (ra28 (decL decY (encL encY 1 xs)) (Prod.fst (Prod.snd x)) (2 : Int)) (3 : Int))]),
   (384,
   Blk.box
   [V.int IntKind.i64 ((3 : Int) - (↑(Prod.fst x) : Int)),
   V.int IntKind.i64 (nextF (decL decY (encL encY 1 xs)) (Prod.fst (Prod.snd x)) (2 : Int)),
   V.int IntKind.i64
   (nextF (decL decY (encL encY 1 (decL decY (encL encY 1 xs))))
   (ra28 (decL decY (encL encY 1 xs)) (Prod.fst (Prod.snd x)) (2 : Int)) (3 : Int))])])
   (AS.mk
   [(0, V.oref 0 0 0),
   (3, V.osl 32000256 (List.length (Prod.snd (Prod.snd (Prod.snd (Prod.snd (Prod.snd x_1))))))),
   (4, V.int IntKind.i64 (Prod.fst x_1)), (5, V.oref 384 0 0),
   (6, V.int IntKind.i64 ((4 : Int) - (↑(Prod.fst (Prod.snd (Prod.snd (Prod.snd x_1)))) : Int)))]
   [(32000256,
   Blk.arr 7 (List.length (Prod.snd (Prod.snd (Prod.snd (Prod.snd (Prod.snd x_1))))))
   (gL (encMsg 1) (Prod.snd (Prod.snd (Prod.snd (Prod.snd (Prod.snd x_1)))))) 2),
   (0,
   Blk.box [encL encY 0 xs, V.int IntKind.i64 (Prod.fst (Prod.snd (Prod.snd (Prod.snd (Prod.snd x_1)))))]),
   (384,
   Blk.box
   [V.int IntKind.i64 (Prod.fst x_1), V.int IntKind.i64 (Prod.fst (Prod.snd x_1)),
   V.int IntKind.i64 (Prod.fst (Prod.snd (Prod.snd x_1)))])])) ∧
   (((Prod.fst (Prod.snd (Prod.snd (Prod.snd x_1))) ≤ 2) ∧
   (shortM 100 (Prod.snd (Prod.snd (Prod.snd (Prod.snd (Prod.snd x_1))))))) ∧
   (R x_1)))) ∧
   (∀ x_1 : Int × Int × Int × Nat × Int × List Msg,
   (((Prod.fst (Prod.snd (Prod.snd (Prod.snd x_1))) ≤ 2) ∧
   (shortM 100 (Prod.snd (Prod.snd (Prod.snd (Prod.snd (Prod.snd x_1))))))) →
   ((R x_1) →
   (((decide ((4 : Int) - (↑(Prod.fst (Prod.snd (Prod.snd (Prod.snd x_1)))) : Int) ≤ (3 : Int)) = true) →
   (∃ R_1 : Int × Int × Int × Int × Nat × Int × List Msg → Prop, ((∃ x_2 : Int × Int × Int × Int × Nat × Int × List Msg, ((SLe
   (AS.mk
   [(0, V.oref 0 0 0),
   (3, V.osl 32000256 (List.length (Prod.snd (Prod.snd (Prod.snd (Prod.snd (Prod.snd x_1))))))),
   (4, V.int IntKind.i64 (Prod.fst x_1)), (5, V.oref 384 0 0),
   (6, V.int IntKind.i64 ((4 : Int) - (↑(Prod.fst (Prod.snd (Prod.snd (Prod.snd x_1)))) : Int))),
   (7, V.int IntKind.i64 (1 : Int))]
   [(32000256,
   Blk.arr 7 (List.length (Prod.snd (Prod.snd (Prod.snd (Prod.snd (Prod.snd x_1))))))
   (gL (encMsg 1) (Prod.snd (Prod.snd (Prod.snd (Prod.snd (Prod.snd x_1)))))) 2),
   (0,
   Blk.box [encL encY 0 xs, V.int IntKind.i64 (Prod.fst (Prod.snd (Prod.snd (Prod.snd (Prod.snd x_1)))))]),
   (384,
   Blk.box
   [V.int IntKind.i64 (Prod.fst x_1), V.int IntKind.i64 (Prod.fst (Prod.snd x_1)),
   V.int IntKind.i64 (Prod.fst (Prod.snd (Prod.snd x_1)))])])
   (AS.mk
   [(0, V.oref 0 0 0),
   (3,
   V.osl 32000256 (List.length (Prod.snd (Prod.snd (Prod.snd (Prod.snd (Prod.snd (Prod.snd x_2)))))))),
   (4, V.int IntKind.i64 (Prod.fst x_2)), (5, V.oref 384 0 0),
   (6, V.int IntKind.i64 (Prod.fst (Prod.snd (Prod.snd (Prod.snd x_2))))),
   (7, V.int IntKind.i64 ((5 : Int) - (↑(Prod.fst (Prod.snd (Prod.snd (Prod.snd (Prod.snd x_2))))) : Int)))]
   [(32000256,
   Blk.arr 7 (List.length (Prod.snd (Prod.snd (Prod.snd (Prod.snd (Prod.snd (Prod.snd x_2)))))))
   (gL (encMsg 1) (Prod.snd (Prod.snd (Prod.snd (Prod.snd (Prod.snd (Prod.snd x_2))))))) 2),
   (0,
   Blk.box
   [encL encY 0 xs,
   V.int IntKind.i64 (Prod.fst (Prod.snd (Prod.snd (Prod.snd (Prod.snd (Prod.snd x_2))))))]),
   (384,
   Blk.box
   [V.int IntKind.i64 (Prod.fst x_2), V.int IntKind.i64 (Prod.fst (Prod.snd x_2)),
   V.int IntKind.i64 (Prod.fst (Prod.snd (Prod.snd x_2)))])])) ∧
   (((Prod.fst (Prod.snd (Prod.snd (Prod.snd (Prod.snd x_2)))) ≤ 4) ∧
   (shortM 100 (Prod.snd (Prod.snd (Prod.snd (Prod.snd (Prod.snd (Prod.snd x_2)))))))) ∧
   (R_1 x_2)))) ∧
   (∀ x_2 : Int × Int × Int × Int × Nat × Int × List Msg,
   (((Prod.fst (Prod.snd (Prod.snd (Prod.snd (Prod.snd x_2)))) ≤ 4) ∧
   (shortM 100 (Prod.snd (Prod.snd (Prod.snd (Prod.snd (Prod.snd (Prod.snd x_2)))))))) →
   ((R_1 x_2) →
   (((decide ((5 : Int) - (↑(Prod.fst (Prod.snd (Prod.snd (Prod.snd (Prod.snd x_2))))) : Int) ≤ (4 : Int)) = true) →
   ((((0 = 0) ∧
   ((0 = 0) ∧
   (0 = 0))) ∧
   ((VLe (encL encY 1 xs) (encL encY 1 (decL decY (encL encY 1 xs)))) ∧
   (pr25 (decL decY (encL encY 1 xs)) (Prod.fst (Prod.snd (Prod.snd (Prod.snd (Prod.snd (Prod.snd x_2))))))
   (5 : Int)))) ∧
   ((((!decide
   (nextF (decL decY (encL encY 1 xs)) (Prod.fst (Prod.snd (Prod.snd (Prod.snd (Prod.snd (Prod.snd x_2))))))
   (5 : Int) =
   (0 : Int))) =
   true) →
   ((List.length (Prod.snd (Prod.snd (Prod.snd (Prod.snd (Prod.snd (Prod.snd x_2)))))) =
   List.length (Prod.snd (Prod.snd (Prod.snd (Prod.snd (Prod.snd (Prod.snd x_2))))))) ∧
   ((List.length (Prod.snd (Prod.snd (Prod.snd (Prod.snd (Prod.snd (Prod.snd x_2)))))) + 1 ≤ 1073741824) ∧
   ((sizedL 7 1
   (rowg
   [V.agg
   [V.int IntKind.i64 (Prod.fst (Prod.snd (Prod.snd (Prod.snd x_2)))), V.int IntKind.i64 (Prod.fst (Prod.snd x_2)),
   V.int IntKind.i64 ((5 : Int) - (↑(Prod.fst (Prod.snd (Prod.snd (Prod.snd (Prod.snd x_2))))) : Int)),
   V.int IntKind.i64 (Prod.fst x_2), V.int IntKind.i64 (Prod.fst (Prod.snd (Prod.snd x_2))), V.nil, V.nil]])) ∧
   ((inK IntKind.i64 ((5 : Int) - (↑(Prod.fst (Prod.snd (Prod.snd (Prod.snd (Prod.snd x_2))))) : Int) + (1 : Int))) ∧
   (∃ y : Int × Int × Int × Int × Nat × Int × List Msg, ((SLe
   (AS.mk
   [(0, V.oref 0 0 0),
   (3,
   V.osl 32000256
   (List.length (Prod.snd (Prod.snd (Prod.snd (Prod.snd (Prod.snd (Prod.snd x_2)))))) + 1)),
   (4, V.int IntKind.i64 (Prod.fst x_2)), (5, V.oref 384 0 0),
   (6, V.int IntKind.i64 (Prod.fst (Prod.snd (Prod.snd (Prod.snd x_2))))),
   (7,
   V.int IntKind.i64
   ((5 : Int) - (↑(Prod.fst (Prod.snd (Prod.snd (Prod.snd (Prod.snd x_2))))) : Int) + (1 : Int)))]
   [(32000256,
   Blk.arr 7
   (List.length (Prod.snd (Prod.snd (Prod.snd (Prod.snd (Prod.snd (Prod.snd x_2)))))) + 1)
   (appg (List.length (Prod.snd (Prod.snd (Prod.snd (Prod.snd (Prod.snd (Prod.snd x_2)))))))
   (gL (encMsg 1) (Prod.snd (Prod.snd (Prod.snd (Prod.snd (Prod.snd (Prod.snd x_2)))))))
   (rowg
   [V.agg
   [V.int IntKind.i64 (Prod.fst (Prod.snd (Prod.snd (Prod.snd x_2)))),
   V.int IntKind.i64 (Prod.fst (Prod.snd x_2)),
   V.int IntKind.i64 ((5 : Int) - (↑(Prod.fst (Prod.snd (Prod.snd (Prod.snd (Prod.snd x_2))))) : Int)),
   V.int IntKind.i64 (Prod.fst x_2), V.int IntKind.i64 (Prod.fst (Prod.snd (Prod.snd x_2))), V.nil,
   V.nil]]))
   2),
   (0,
   Blk.box
   [encL encY 0 (decL decY (encL encY 1 xs)),
   V.int IntKind.i64
   (ra25 (decL decY (encL encY 1 xs))
   (Prod.fst (Prod.snd (Prod.snd (Prod.snd (Prod.snd (Prod.snd x_2)))))) (5 : Int))]),
   (384,
   Blk.box
   [V.int IntKind.i64 (Prod.fst x_2), V.int IntKind.i64 (Prod.fst (Prod.snd x_2)),
   V.int IntKind.i64 (Prod.fst (Prod.snd (Prod.snd x_2)))])])
   (AS.mk
   [(0, V.oref 0 0 0),
   (3,
   V.osl 32000256 (List.length (Prod.snd (Prod.snd (Prod.snd (Prod.snd (Prod.snd (Prod.snd y)))))))),
   (4, V.int IntKind.i64 (Prod.fst y)), (5, V.oref 384 0 0),
   (6, V.int IntKind.i64 (Prod.fst (Prod.snd (Prod.snd (Prod.snd y))))),
   (7, V.int IntKind.i64 ((5 : Int) - (↑(Prod.fst (Prod.snd (Prod.snd (Prod.snd (Prod.snd y))))) : Int)))]
   [(32000256,
   Blk.arr 7 (List.length (Prod.snd (Prod.snd (Prod.snd (Prod.snd (Prod.snd (Prod.snd y)))))))
   (gL (encMsg 1) (Prod.snd (Prod.snd (Prod.snd (Prod.snd (Prod.snd (Prod.snd y))))))) 2),
   (0,
   Blk.box
   [encL encY 0 xs,
   V.int IntKind.i64 (Prod.fst (Prod.snd (Prod.snd (Prod.snd (Prod.snd (Prod.snd y))))))]),
   (384,
   Blk.box
   [V.int IntKind.i64 (Prod.fst y), V.int IntKind.i64 (Prod.fst (Prod.snd y)),
   V.int IntKind.i64 (Prod.fst (Prod.snd (Prod.snd y)))])])) ∧
   (((Prod.fst (Prod.snd (Prod.snd (Prod.snd (Prod.snd y)))) ≤ 4) ∧
   (shortM 100 (Prod.snd (Prod.snd (Prod.snd (Prod.snd (Prod.snd (Prod.snd y)))))))) ∧
   ((R_1 y) ∧
   (Prod.fst (Prod.snd (Prod.snd (Prod.snd (Prod.snd y)))) < Prod.fst (Prod.snd (Prod.snd (Prod.snd (Prod.snd x_2)))))))))))))) ∧
   (((!decide
   (nextF (decL decY (encL encY 1 xs)) (Prod.fst (Prod.snd (Prod.snd (Prod.snd (Prod.snd (Prod.snd x_2))))))
   (5 : Int) =
   (0 : Int))) =
   false) →
   ((inK IntKind.i64 ((5 : Int) - (↑(Prod.fst (Prod.snd (Prod.snd (Prod.snd (Prod.snd x_2))))) : Int) + (1 : Int))) ∧
   (∃ y : Int × Int × Int × Int × Nat × Int × List Msg, ((SLe
   (AS.mk
   [(0, V.oref 0 0 0),
   (3,
   V.osl 32000256 (List.length (Prod.snd (Prod.snd (Prod.snd (Prod.snd (Prod.snd (Prod.snd x_2)))))))),
   (4, V.int IntKind.i64 (Prod.fst x_2)), (5, V.oref 384 0 0),
   (6, V.int IntKind.i64 (Prod.fst (Prod.snd (Prod.snd (Prod.snd x_2))))),
   (7,
   V.int IntKind.i64
   ((5 : Int) - (↑(Prod.fst (Prod.snd (Prod.snd (Prod.snd (Prod.snd x_2))))) : Int) + (1 : Int)))]
   [(32000256,
   Blk.arr 7 (List.length (Prod.snd (Prod.snd (Prod.snd (Prod.snd (Prod.snd (Prod.snd x_2)))))))
   (gL (encMsg 1) (Prod.snd (Prod.snd (Prod.snd (Prod.snd (Prod.snd (Prod.snd x_2))))))) 2),
   (0,
   Blk.box
   [encL encY 0 (decL decY (encL encY 1 xs)),
   V.int IntKind.i64
   (ra25 (decL decY (encL encY 1 xs))
   (Prod.fst (Prod.snd (Prod.snd (Prod.snd (Prod.snd (Prod.snd x_2)))))) (5 : Int))]),
   (384,
   Blk.box
   [V.int IntKind.i64 (Prod.fst x_2), V.int IntKind.i64 (Prod.fst (Prod.snd x_2)),
   V.int IntKind.i64 (Prod.fst (Prod.snd (Prod.snd x_2)))])])
   (AS.mk
   [(0, V.oref 0 0 0),
   (3,
   V.osl 32000256 (List.length (Prod.snd (Prod.snd (Prod.snd (Prod.snd (Prod.snd (Prod.snd y)))))))),
   (4, V.int IntKind.i64 (Prod.fst y)), (5, V.oref 384 0 0),
   (6, V.int IntKind.i64 (Prod.fst (Prod.snd (Prod.snd (Prod.snd y))))),
   (7, V.int IntKind.i64 ((5 : Int) - (↑(Prod.fst (Prod.snd (Prod.snd (Prod.snd (Prod.snd y))))) : Int)))]
   [(32000256,
   Blk.arr 7 (List.length (Prod.snd (Prod.snd (Prod.snd (Prod.snd (Prod.snd (Prod.snd y)))))))
   (gL (encMsg 1) (Prod.snd (Prod.snd (Prod.snd (Prod.snd (Prod.snd (Prod.snd y))))))) 2),
   (0,
   Blk.box
   [encL encY 0 xs,
   V.int IntKind.i64 (Prod.fst (Prod.snd (Prod.snd (Prod.snd (Prod.snd (Prod.snd y))))))]),
   (384,
   Blk.box
   [V.int IntKind.i64 (Prod.fst y), V.int IntKind.i64 (Prod.fst (Prod.snd y)),
   V.int IntKind.i64 (Prod.fst (Prod.snd (Prod.snd y)))])])) ∧
   (((Prod.fst (Prod.snd (Prod.snd (Prod.snd (Prod.snd y)))) ≤ 4) ∧
   (shortM 100 (Prod.snd (Prod.snd (Prod.snd (Prod.snd (Prod.snd (Prod.snd y)))))))) ∧
   ((R_1 y) ∧
   (Prod.fst (Prod.snd (Prod.snd (Prod.snd (Prod.snd y)))) < Prod.fst (Prod.snd (Prod.snd (Prod.snd (Prod.snd x_2)))))))))))))) ∧
   ((decide ((5 : Int) - (↑(Prod.fst (Prod.snd (Prod.snd (Prod.snd (Prod.snd x_2))))) : Int) ≤ (4 : Int)) = false) →
   ((inK IntKind.i64 (Prod.fst (Prod.snd (Prod.snd (Prod.snd x_2))) + (1 : Int))) ∧
   (∃ y : Int × Int × Int × Nat × Int × List Msg, ((SLe
   (AS.mk
   [(0, V.oref 0 0 0),
   (3,
   V.osl 32000256 (List.length (Prod.snd (Prod.snd (Prod.snd (Prod.snd (Prod.snd (Prod.snd x_2)))))))),
   (4, V.int IntKind.i64 (Prod.fst x_2)), (5, V.oref 384 0 0),
   (6, V.int IntKind.i64 (Prod.fst (Prod.snd (Prod.snd (Prod.snd x_2))) + (1 : Int)))]
   [(32000256,
   Blk.arr 7 (List.length (Prod.snd (Prod.snd (Prod.snd (Prod.snd (Prod.snd (Prod.snd x_2)))))))
   (gL (encMsg 1) (Prod.snd (Prod.snd (Prod.snd (Prod.snd (Prod.snd (Prod.snd x_2))))))) 2),
   (0,
   Blk.box
   [encL encY 0 xs,
   V.int IntKind.i64 (Prod.fst (Prod.snd (Prod.snd (Prod.snd (Prod.snd (Prod.snd x_2))))))]),
   (384,
   Blk.box
   [V.int IntKind.i64 (Prod.fst x_2), V.int IntKind.i64 (Prod.fst (Prod.snd x_2)),
   V.int IntKind.i64 (Prod.fst (Prod.snd (Prod.snd x_2)))])])
   (AS.mk
   [(0, V.oref 0 0 0),
   (3, V.osl 32000256 (List.length (Prod.snd (Prod.snd (Prod.snd (Prod.snd (Prod.snd y))))))),
   (4, V.int IntKind.i64 (Prod.fst y)), (5, V.oref 384 0 0),
   (6, V.int IntKind.i64 ((4 : Int) - (↑(Prod.fst (Prod.snd (Prod.snd (Prod.snd y)))) : Int)))]
   [(32000256,
   Blk.arr 7 (List.length (Prod.snd (Prod.snd (Prod.snd (Prod.snd (Prod.snd y))))))
   (gL (encMsg 1) (Prod.snd (Prod.snd (Prod.snd (Prod.snd (Prod.snd y)))))) 2),
   (0,
   Blk.box [encL encY 0 xs, V.int IntKind.i64 (Prod.fst (Prod.snd (Prod.snd (Prod.snd (Prod.snd y)))))]),
   (384,
   Blk.box
   [V.int IntKind.i64 (Prod.fst y), V.int IntKind.i64 (Prod.fst (Prod.snd y)),
   V.int IntKind.i64 (Prod.fst (Prod.snd (Prod.snd y)))])])) ∧
   (((Prod.fst (Prod.snd (Prod.snd (Prod.snd y))) ≤ 2) ∧
   (shortM 100 (Prod.snd (Prod.snd (Prod.snd (Prod.snd (Prod.snd y))))))) ∧
   ((R y) ∧
   (Prod.fst (Prod.snd (Prod.snd (Prod.snd y))) < Prod.fst (Prod.snd (Prod.snd (Prod.snd x_1))))))))))))))))) ∧
   ((decide ((4 : Int) - (↑(Prod.fst (Prod.snd (Prod.snd (Prod.snd x_1)))) : Int) ≤ (3 : Int)) = false) →
   ((inK IntKind.i64 (Prod.fst x_1 + (1 : Int))) ∧
   (∃ y : Nat × Int × List Msg, ((SLe
   (AS.mk
   [(0, V.oref 0 0 0),
   (3, V.osl 32000256 (List.length (Prod.snd (Prod.snd (Prod.snd (Prod.snd (Prod.snd x_1))))))),
   (4, V.int IntKind.i64 (Prod.fst x_1 + (1 : Int)))]
   [(32000256,
   Blk.arr 7 (List.length (Prod.snd (Prod.snd (Prod.snd (Prod.snd (Prod.snd x_1))))))
   (gL (encMsg 1) (Prod.snd (Prod.snd (Prod.snd (Prod.snd (Prod.snd x_1)))))) 2),
   (0,
   Blk.box
   [encL encY 0 xs, V.int IntKind.i64 (Prod.fst (Prod.snd (Prod.snd (Prod.snd (Prod.snd x_1)))))])])
   (AS.mk
   [(0, V.oref 0 0 0),
   (3, V.osl 32000256 (List.length (Prod.snd (Prod.snd y)))),
   (4, V.int IntKind.i64 ((3 : Int) - (↑(Prod.fst y) : Int)))]
   [(32000256,
   Blk.arr 7 (List.length (Prod.snd (Prod.snd y))) (gL (encMsg 1) (Prod.snd (Prod.snd y)))
   2),
   (0, Blk.box [encL encY 0 xs, V.int IntKind.i64 (Prod.fst (Prod.snd y))])])) ∧
   ((goS xs at_ (Prod.fst y) (Prod.fst (Prod.snd y)) (Prod.snd (Prod.snd y))) ∧
   (Prod.fst y < Prod.fst x))))))))))))))) ∧
   ((decide ((3 : Int) - (↑(Prod.fst x) : Int) ≤ (2 : Int)) = false) →
   ((((0 = 0) ∧
   ((0 = 0) ∧
   (0 = 0))) ∧
   ((VLe (encL encY 1 xs) (encL encY 1 (decL decY (encL encY 1 xs)))) ∧
   (pr28 (decL decY (encL encY 1 xs)) (Prod.fst (Prod.snd x)) (4 : Int)))) ∧
   ((∃ x_1 : Nat × Int × List Msg, ((SLe
   (AS.mk
   [(0, V.oref 0 0 0),
   (3, V.osl 32000256 (List.length (Prod.snd (Prod.snd x)))),
   (8, V.int IntKind.i64 (nextF (decL decY (encL encY 1 xs)) (Prod.fst (Prod.snd x)) (4 : Int)))]
   [(32000256,
   Blk.arr 7 (List.length (Prod.snd (Prod.snd x))) (gL (encMsg 1) (Prod.snd (Prod.snd x)))
   2),
   (0,
   Blk.box
   [encL encY 0 (decL decY (encL encY 1 xs)),
   V.int IntKind.i64 (ra28 (decL decY (encL encY 1 xs)) (Prod.fst (Prod.snd x)) (4 : Int))])])
   (AS.mk
   [(0, V.oref 0 0 0),
   (3, V.osl 32000256 (List.length (Prod.snd (Prod.snd x_1)))),
   (8, V.int IntKind.i64 (↑(Prod.fst x_1) : Int))]
   [(32000256,
   Blk.arr 7 (List.length (Prod.snd (Prod.snd x_1))) (gL (encMsg 1) (Prod.snd (Prod.snd x_1)))
   2),
   (0, Blk.box [encL encY 0 xs, V.int IntKind.i64 (Prod.fst (Prod.snd x_1))])])) ∧
   (goM xs at_ (Prod.fst x_1) (Prod.fst (Prod.snd x_1)) (Prod.snd (Prod.snd x_1))))) ∧
   (∀ x_1 : Nat × Int × List Msg,
   ((goM xs at_ (Prod.fst x_1) (Prod.fst (Prod.snd x_1)) (Prod.snd (Prod.snd x_1))) →
   (((decide ((↑(Prod.fst x_1) : Int) > (0 : Int)) = true) →
   ((((0 = 0) ∧
   ((0 = 0) ∧
   (0 = 0))) ∧
   ((VLe (encL encY 1 xs) (encL encY 1 (decL decY (encL encY 1 xs)))) ∧
   (pr56 (decL decY (encL encY 1 xs)) (Prod.fst (Prod.snd x_1)) (↑(List.length (Prod.snd (Prod.snd x_1))) : Int)))) ∧
   (((VLe (encL (encMsg 1) 1 (Prod.snd (Prod.snd x_1)))
   (encL (encMsg 1) 1 (decL decMsg (encL (encMsg 1) 1 (Prod.snd (Prod.snd x_1)))))) ∧
   ((VLe
   (encPMsg 1
   (ro56 (decL decY (encL encY 1 xs)) (Prod.fst (Prod.snd x_1))
   (↑(List.length (Prod.snd (Prod.snd x_1))) : Int)))
   (encPMsg 1
   (decPMsg
   (encPMsg 1
   (ro56 (decL decY (encL encY 1 xs)) (Prod.fst (Prod.snd x_1))
   (↑(List.length (Prod.snd (Prod.snd x_1))) : Int)))))) ∧
   (pr57 (decL decMsg (encL (encMsg 1) 1 (Prod.snd (Prod.snd x_1))))
   (decPMsg
   (encPMsg 1
   (ro56 (decL decY (encL encY 1 xs)) (Prod.fst (Prod.snd x_1))
   (↑(List.length (Prod.snd (Prod.snd x_1))) : Int))))))) ∧
   (((decide
   (msgAt (decL decMsg (encL (encMsg 1) 1 (Prod.snd (Prod.snd x_1))))
   (decPMsg
   (encPMsg 1
   (ro56 (decL decY (encL encY 1 xs)) (Prod.fst (Prod.snd x_1))
   (↑(List.length (Prod.snd (Prod.snd x_1))) : Int)))) <
   (0 : Int)) =
   true) →
   ((List.length (Prod.snd (Prod.snd x_1)) = List.length (Prod.snd (Prod.snd x_1))) ∧
   ((List.length (Prod.snd (Prod.snd x_1)) + 1 ≤ 1073741824) ∧
   ((sizedL 7 1
   (rowg
   [encMsg 2
   (ro56 (decL decY (encL encY 1 xs)) (Prod.fst (Prod.snd x_1))
   (↑(List.length (Prod.snd (Prod.snd x_1))) : Int))])) ∧
   ((inK IntKind.i64 ((↑(Prod.fst x_1) : Int) - (1 : Int))) ∧
   (∃ y : Nat × Int × List Msg, ((SLe
   (AS.mk
   [(0, V.oref 0 0 0),
   (3, V.osl 32000256 (List.length (Prod.snd (Prod.snd x_1)) + 1)),
   (8, V.int IntKind.i64 ((↑(Prod.fst x_1) : Int) - (1 : Int)))]
   [(32000256,
   Blk.arr 7 (List.length (Prod.snd (Prod.snd x_1)) + 1)
   (appg (List.length (Prod.snd (Prod.snd x_1))) (gL (encMsg 1) (Prod.snd (Prod.snd x_1)))
   (rowg
   [encMsg 2
   (ro56 (decL decY (encL encY 1 xs)) (Prod.fst (Prod.snd x_1))
   (↑(List.length (Prod.snd (Prod.snd x_1))) : Int))]))
   2),
   (0,
   Blk.box
   [encL encY 0 (decL decY (encL encY 1 xs)),
   V.int IntKind.i64
   (ra56 (decL decY (encL encY 1 xs)) (Prod.fst (Prod.snd x_1))
   (↑(List.length (Prod.snd (Prod.snd x_1))) : Int))])])
   (AS.mk
   [(0, V.oref 0 0 0),
   (3, V.osl 32000256 (List.length (Prod.snd (Prod.snd y)))),
   (8, V.int IntKind.i64 (↑(Prod.fst y) : Int))]
   [(32000256,
   Blk.arr 7 (List.length (Prod.snd (Prod.snd y))) (gL (encMsg 1) (Prod.snd (Prod.snd y)))
   2),
   (0, Blk.box [encL encY 0 xs, V.int IntKind.i64 (Prod.fst (Prod.snd y))])])) ∧
   ((goM xs at_ (Prod.fst y) (Prod.fst (Prod.snd y)) (Prod.snd (Prod.snd y))) ∧
   (Prod.fst y < Prod.fst x_1))))))))) ∧
   ((decide
   (msgAt (decL decMsg (encL (encMsg 1) 1 (Prod.snd (Prod.snd x_1))))
   (decPMsg
   (encPMsg 1
   (ro56 (decL decY (encL encY 1 xs)) (Prod.fst (Prod.snd x_1))
   (↑(List.length (Prod.snd (Prod.snd x_1))) : Int)))) <
   (0 : Int)) =
   false) →
   ((inK IntKind.i64 ((↑(Prod.fst x_1) : Int) - (1 : Int))) ∧
   (∃ y : Nat × Int × List Msg, ((SLe
   (AS.mk
   [(0, V.oref 0 0 0),
   (3, V.osl 32000256 (List.length (Prod.snd (Prod.snd x_1)))),
   (8, V.int IntKind.i64 ((↑(Prod.fst x_1) : Int) - (1 : Int)))]
   [(32000256,
   Blk.arr 7 (List.length (Prod.snd (Prod.snd x_1))) (gL (encMsg 1) (Prod.snd (Prod.snd x_1)))
   2),
   (0,
   Blk.box
   [encL encY 0 (decL decY (encL encY 1 xs)),
   V.int IntKind.i64
   (ra56 (decL decY (encL encY 1 xs)) (Prod.fst (Prod.snd x_1))
   (↑(List.length (Prod.snd (Prod.snd x_1))) : Int))])])
   (AS.mk
   [(0, V.oref 0 0 0),
   (3, V.osl 32000256 (List.length (Prod.snd (Prod.snd y)))),
   (8, V.int IntKind.i64 (↑(Prod.fst y) : Int))]
   [(32000256,
   Blk.arr 7 (List.length (Prod.snd (Prod.snd y))) (gL (encMsg 1) (Prod.snd (Prod.snd y)))
   2),
   (0, Blk.box [encL encY 0 xs, V.int IntKind.i64 (Prod.fst (Prod.snd y))])])) ∧
   ((goM xs at_ (Prod.fst y) (Prod.fst (Prod.snd y)) (Prod.snd (Prod.snd y))) ∧
   (Prod.fst y < Prod.fst x_1)))))))))) ∧
   ((decide ((↑(Prod.fst x_1) : Int) > (0 : Int)) = false) →
   ((((0 = 0) ∧
   ((0 = 0) ∧
   (0 = 0))) ∧
   ((VLe (encL encY 1 xs) (encL encY 1 (decL decY (encL encY 1 xs)))) ∧
   (pr25 (decL decY (encL encY 1 xs)) (Prod.fst (Prod.snd x_1)) (14 : Int)))) ∧
   (((decide (nextF (decL decY (encL encY 1 xs)) (Prod.fst (Prod.snd x_1)) (14 : Int) = (0 : Int)) = true) →
   ((((0 = 0) ∧
   ((0 = 0) ∧
   (0 = 0))) ∧
   ((VLe (encL encY 1 (decL decY (encL encY 1 xs)))
   (encL encY 1 (decL decY (encL encY 1 (decL decY (encL encY 1 xs)))))) ∧
   (pr58 (decL decY (encL encY 1 (decL decY (encL encY 1 xs))))
   (ra25 (decL decY (encL encY 1 xs)) (Prod.fst (Prod.snd x_1)) (14 : Int))))) ∧
   ((VLe
   (V.osl 1
   (List.length
   (ro58 (decL decY (encL encY 1 (decL decY (encL encY 1 xs))))
   (ra25 (decL decY (encL encY 1 xs)) (Prod.fst (Prod.snd x_1)) (14 : Int)))))
   (V.osl 1 (List.length (ro24 xs at_)))) ∧
   ((BLe
   (Blk.box
   [encL encY 1 (decL decY (encL encY 1 (decL decY (encL encY 1 xs)))),
   V.int IntKind.i64
   (ra58 (decL decY (encL encY 1 (decL decY (encL encY 1 xs))))
   (ra25 (decL decY (encL encY 1 xs)) (Prod.fst (Prod.snd x_1)) (14 : Int)))])
   (Blk.box [encL encY 1 xs, V.int IntKind.i64 (ra24 xs at_)])) ∧
   ((BLe
   (Blk.arr 7
   (List.length
   (ro58 (decL decY (encL encY 1 (decL decY (encL encY 1 xs))))
   (ra25 (decL decY (encL encY 1 xs)) (Prod.fst (Prod.snd x_1)) (14 : Int))))
   (gL (encMsg 1)
   (ro58 (decL decY (encL encY 1 (decL decY (encL encY 1 xs))))
   (ra25 (decL decY (encL encY 1 xs)) (Prod.fst (Prod.snd x_1)) (14 : Int))))
   2)
   (Blk.arr 7 (List.length (ro24 xs at_)) (gL (encMsg 1) (ro24 xs at_)) 2)) ∧
   (True)))))) ∧
   ((decide (nextF (decL decY (encL encY 1 xs)) (Prod.fst (Prod.snd x_1)) (14 : Int) = (0 : Int)) = false) →
   ((VLe (V.osl 1 (List.length (Prod.snd (Prod.snd x_1)))) (V.osl 1 (List.length (ro24 xs at_)))) ∧
   ((BLe
   (Blk.box
   [encL encY 1 (decL decY (encL encY 1 xs)),
   V.int IntKind.i64 (ra25 (decL decY (encL encY 1 xs)) (Prod.fst (Prod.snd x_1)) (14 : Int))])
   (Blk.box [encL encY 1 xs, V.int IntKind.i64 (ra24 xs at_)])) ∧
   ((BLe
   (Blk.arr 7 (List.length (Prod.snd (Prod.snd x_1))) (gL (encMsg 1) (Prod.snd (Prod.snd x_1)))
   2)
   (Blk.arr 7 (List.length (ro24 xs at_)) (gL (encMsg 1) (ro24 xs at_)) 2)) ∧
   (True)))))))))))))))))) := by
    obtain ⟨h0, h1⟩ := hpre
    have h3 := h0.2.2.1
    simp only [decL_bytes, decL_Msg, dec_encPMsg, ra58, ra56, ra28, ra25, Int.add_assoc, Int.reduceAdd]
    have e32 : (3 : Int) - ((2 : Nat) : Int) = 1 := rfl
    have e42 : (4 : Int) - ((2 : Nat) : Int) = 2 := rfl
    have e54 : (5 : Int) - ((4 : Nat) : Int) = 1 := rfl
    refine ⟨⟨(2, at_, []), sle_of ⟨rfl, VLe.refl _, rfl, VLe.refl _, rfl, VLe.refl _, trivial⟩ ⟨rfl, ble_nilR _, rfl, src0, trivial⟩, Nat.le_refl _, by simp only [e32], by simp only; omega, by simp only [List.length_nil]; omega, shortM_nil _⟩, ?_⟩
    rintro ⟨F, A, L⟩ ⟨hF, hS, hA, hl, hs⟩
    simp only at hF hS hA hl hs ⊢
    refine ⟨fun h => ?_, fun h => ?_⟩
    · cases F with
      | zero => exact absurd (of_decide_eq_true h) (by decide)
      | succ F =>
        have a0 : okX xs A := h0.to (by omega) (by omega)
        have a1 : okX xs (A + 1) := h0.to (by omega) (by omega)
        refine ⟨srcO a0, srcO a1, fun p => p.1 = 3 - ((F + 1 : Nat) : Int) ∧ p.2.1 = nextF xs A 2 ∧ p.2.2.1 = nextF xs (A + 1) 3 ∧
          kindD xs (3 - ((F + 1 : Nat) : Int)) (nextF xs A 2) (nextF xs (A + 1) 3) p.2.2.2.1 (4 - p.2.2.2.1) p.2.2.2.2.1 p.2.2.2.2.2 = kindD xs (3 - ((F + 1 : Nat) : Int)) (nextF xs A 2) (nextF xs (A + 1) 3) 2 2 (A + 2) L ∧
          p.2.2.2.2.1 = A + 2 + 4 * (2 - p.2.2.2.1) ∧ p.2.2.2.2.2.length + 4 * p.2.2.2.1 ≤ L.length + 8,
          ⟨(3 - ((F + 1 : Nat) : Int), nextF xs A 2, nextF xs (A + 1) 3, 2, A + 2, L), sle_of ⟨rfl, VLe.refl _, rfl, VLe.refl _, rfl, VLe.refl _, rfl, VLe.refl _, rfl, VLe.refl _, trivial⟩ ⟨rfl, BLe.refl _, rfl, BLe.refl _, rfl, BLe.refl _, trivial⟩, ⟨Nat.le_refl _, hs⟩, rfl, rfl, rfl, by simp only [e42], by simp only; omega, by simp only; omega⟩, ?_⟩
        rintro ⟨s, v, w, G, B, M⟩ ⟨hG, hm⟩ ⟨r1, r2, r3, r4, r5, r6⟩
        simp only at hG hm r1 r2 r3 r4 r5 r6 ⊢
        subst r1 r2 r3
        refine ⟨fun h => ?_, fun h => ?_⟩
        · cases G with
          | zero => exact absurd (of_decide_eq_true h) (by decide)
          | succ G =>
            refine ⟨fun p => p.1 = 3 - ((F + 1 : Nat) : Int) ∧ p.2.1 = nextF xs A 2 ∧ p.2.2.1 = nextF xs (A + 1) 3 ∧ p.2.2.2.1 = 4 - ((G + 1 : Nat) : Int) ∧
              idD xs (4 - ((G + 1 : Nat) : Int)) (3 - ((F + 1 : Nat) : Int)) (nextF xs A 2) (nextF xs (A + 1) 3) p.2.2.2.2.1 (5 - p.2.2.2.2.1) p.2.2.2.2.2.1 p.2.2.2.2.2.2 = idD xs (4 - ((G + 1 : Nat) : Int)) (3 - ((F + 1 : Nat) : Int)) (nextF xs A 2) (nextF xs (A + 1) 3) 4 1 B M ∧
              p.2.2.2.2.2.1 = B + (4 - p.2.2.2.2.1) ∧ p.2.2.2.2.2.2.length + p.2.2.2.2.1 ≤ M.length + 4,
              ⟨(3 - ((F + 1 : Nat) : Int), nextF xs A 2, nextF xs (A + 1) 3, 4 - ((G + 1 : Nat) : Int), 4, B, M), sle_of ⟨rfl, VLe.refl _, rfl, VLe.refl _, rfl, VLe.refl _, rfl, VLe.refl _, rfl, VLe.refl _, rfl, VLe.refl _, trivial⟩ ⟨rfl, BLe.refl _, rfl, BLe.refl _, rfl, BLe.refl _, trivial⟩, ⟨Nat.le_refl _, hm⟩, rfl, rfl, rfl, rfl, by simp only [e54], by simp only; omega, by simp only; omega⟩, ?_⟩
            rintro ⟨s, v, w, k, H, C, O⟩ ⟨hH, ho⟩ ⟨q1, q2, q3, q4, q5, q6, q7⟩
            simp only at hH ho q1 q2 q3 q4 q5 q6 q7 ⊢
            subst q1 q2 q3 q4
            refine ⟨fun h => ?_, fun h => ?_⟩
            · cases H with
              | zero => exact absurd (of_decide_eq_true h) (by decide)
              | succ H =>
                have e5 : (5 : Int) - ((H + 1 : Nat) : Int) + 1 = 5 - (H : Int) := by omega
                refine ⟨srcO (h0.to (by omega) (by omega)), fun c => ⟨trivial, by omega, sizedL_agg rfl rfl, inK64 (by omega), (3 - ((F + 1 : Nat) : Int), nextF xs A 2, nextF xs (A + 1) 3, 4 - ((G + 1 : Nat) : Int), H, C + 1, O ++ [⟨4 - ((G + 1 : Nat) : Int), nextF xs A 2, 5 - ((H + 1 : Nat) : Int), 3 - ((F + 1 : Nat) : Int), nextF xs (A + 1) 3, [], []⟩]), ?_, ⟨by simp only; omega, ho.app (Nat.zero_le _) (Nat.zero_le _)⟩, ⟨rfl, rfl, rfl, rfl, ?_, by simp only; omega, ?_⟩, by simp only; omega⟩,
                  fun c => ⟨inK64 (by omega), (3 - ((F + 1 : Nat) : Int), nextF xs A 2, nextF xs (A + 1) 3, 4 - ((G + 1 : Nat) : Int), H, C + 1, O), ?_, ⟨by simp only; omega, ho⟩, ⟨rfl, rfl, rfl, rfl, ?_, by simp only; omega, by simp only; omega⟩, by simp only; omega⟩⟩
                · simp only [List.length_append, List.length_singleton]
                  exact sle_of ⟨rfl, VLe.refl _, rfl, VLe.refl _, rfl, VLe.refl _, rfl, VLe.refl _, rfl, VLe.refl _, rfl, vle_int e5, trivial⟩ ⟨rfl, ble_pushE (ele_bare _ _ _ _ _), rfl, BLe.refl _, rfl, BLe.refl _, trivial⟩
                · have hc : ¬ nextF xs C 5 = 0 := by simpa using c
                  rw [← q5, idD, if_neg hc, e5]
                · simp only [List.length_append, List.length_singleton]
                  omega
                · exact sle_of ⟨rfl, VLe.refl _, rfl, VLe.refl _, rfl, VLe.refl _, rfl, VLe.refl _, rfl, VLe.refl _, rfl, vle_int e5, trivial⟩ ⟨rfl, BLe.refl _, rfl, BLe.refl _, rfl, BLe.refl _, trivial⟩
                · have hc : nextF xs C 5 = 0 := by simpa using c
                  rw [← q5, idD, if_pos hc, e5]
            · have hH0 : H = 0 := by have := of_decide_eq_false h; omega
              subst hH0
              have e4 : (4 : Int) - ((G + 1 : Nat) : Int) + 1 = 4 - (G : Int) := by omega
              refine ⟨inK64 (by omega), (3 - ((F + 1 : Nat) : Int), nextF xs A 2, nextF xs (A + 1) 3, G, C, O), sle_of ⟨rfl, VLe.refl _, rfl, VLe.refl _, rfl, VLe.refl _, rfl, VLe.refl _, rfl, vle_int e4, trivial⟩ ⟨rfl, BLe.refl _, rfl, BLe.refl _, rfl, BLe.refl _, trivial⟩, ⟨by simp only; omega, ho⟩, ⟨rfl, rfl, rfl, ?_, by simp only; omega, by simp only; omega⟩, by simp only; omega⟩
              simp only
              rw [← r4, kindD, ← q5, idD, e4]
        · have hG0 : G = 0 := by have := of_decide_eq_false h; omega
          subst hG0
          have e3 : (3 : Int) - ((F + 1 : Nat) : Int) + 1 = 3 - (F : Int) := by omega
          refine ⟨inK64 (by omega), (F, B, M), sle_of ⟨rfl, VLe.refl _, rfl, VLe.refl _, rfl, vle_int e3, trivial⟩ ⟨rfl, BLe.refl _, rfl, BLe.refl _, trivial⟩, ⟨by simp only; omega, ?_, by simp only; omega, by simp only; omega, hm⟩, by simp only; omega⟩
          simp only
          rw [← hS, slotD, ← r4, kindD, e3]
    · have hF0 : F = 0 := by have := of_decide_eq_false h; omega
      subst hF0
      have hS' : slotD xs 2 1 at_ [] = (L, A) := hS.symm
      have a0 : okX xs A := h0.to (by omega) (by omega)
      have n4 := nextF_bd a0 4
      have en : nextF xs A 4 = ((nextF xs A 4).toNat : Int) := by omega
      refine ⟨srcO a0, ⟨((nextF xs A 4).toNat, A + 1, L), sle_of ⟨rfl, VLe.refl _, rfl, VLe.refl _, rfl, vle_int en, trivial⟩ ⟨rfl, BLe.refl _, rfl, BLe.refl _, trivial⟩, ?_, by simp only; omega, by simp only; omega, by simp only; omega, hs⟩, ?_⟩
      · simp only
        unfold worldL
        rw [hS']
      rintro ⟨f, a, l⟩ ⟨he, h4, h5, h6, h7⟩
      simp only at he h4 h5 h6 h7 ⊢
      refine ⟨fun h => ?_, fun h => ?_⟩
      · cases f with
        | zero => exact absurd (of_decide_eq_true h) (by decide)
        | succ f =>
          have hd := drawM_bd xs a l.length
          rw [Int.toNat_natCast] at hd
          have ed : ro56 xs a l.length = (drawM xs a l.length).1 := rfl
          have ef : ((f + 1 : Nat) : Int) - 1 = f := by omega
          rw [ed]
          refine ⟨srcO ⟨h0.to (by omega) (by omega), by omega, by omega⟩, ⟨VLe.refl _, VLe.refl _, bdL_short h7 (by omega) (by omega)⟩, fun h2 => ⟨trivial, by omega, ?_, inK64 (by omega), (f, (drawM xs a l.length).2, l ++ [(drawM xs a l.length).1]), ?_, ⟨?_, by simp only; omega, by simp only; omega, ?_, h7.app (by omega) (by omega)⟩, by simp only; omega⟩, fun h2 => ⟨inK64 (by omega), (f, (drawM xs a l.length).2, l), ?_, ⟨?_, by simp only; omega, by simp only; omega, by simp only; omega, h7⟩, by simp only; omega⟩⟩
          · intro k hk
            have : k = 0 := by omega
            subst this
            exact ⟨rfl, rfl⟩
          · simp only [List.length_append, List.length_singleton]
            exact sle_of ⟨rfl, VLe.refl _, rfl, VLe.refl _, rfl, vle_int ef, trivial⟩ ⟨rfl, ble_pushE (ele_Msg 2 1 _), rfl, BLe.refl _, trivial⟩
          · have hm := (msgAt_neg _ _).1 (of_decide_eq_true h2)
            simp only
            rw [← he, manyD, if_neg hm]
          · simp only [List.length_append, List.length_singleton]
            omega
          · exact sle_of ⟨rfl, VLe.refl _, rfl, VLe.refl _, rfl, vle_int ef, trivial⟩ ⟨rfl, BLe.refl _, rfl, BLe.refl _, trivial⟩
          · have hm : (drawM xs a l.length).1 ∈ l := Classical.byContradiction fun g => of_decide_eq_false h2 ((msgAt_neg _ _).2 g)
            simp only
            rw [← he, manyD, if_pos hm]
      · have hf : f = 0 := by have := of_decide_eq_false h; omega
        subst hf
        have ew : worldL xs at_ = (l, a) := he.symm
        have st : ∀ (m : List Msg) (b : Int), worldD xs at_ = (m, b) → ro24 xs at_ = m ∧ b = ra24 xs at_ := fun m b e => by
          unfold ro24 ra24
          rw [e]
          exact ⟨rfl, rfl⟩
        have w0 : worldD xs at_ = if nextF xs a 14 = 0 then wrongD xs (a + 1) else (l, a + 1) := by
          unfold worldD
          rw [ew]
        refine ⟨srcO (h0.to (by omega) (by omega)), fun c => ?_, fun c => ?_⟩
        · obtain ⟨g1, g2⟩ := st _ _ (w0.trans (if_pos (of_decide_eq_true c)))
          rw [g1]
          exact ⟨srcO ⟨h0.to (by omega) (by omega), by omega⟩, VLe.refl _, ble_src g2, BLe.refl _, trivial⟩
        · obtain ⟨g1, g2⟩ := st _ _ (w0.trans (if_neg (of_decide_eq_false c)))
          rw [g1]
          exact ⟨VLe.refl _, ble_src g2, BLe.refl _, trivial⟩
  exact Eq.mp (by kernel_rfl) key
noncomputable def sp24 : FSpec := fun args bin => match args, bin with
  | [.oref i0 j0 o0], [.box [v0, .int .i64 p0]] => some ((i0 = 0 ∧ j0 = 0 ∧ o0 = 0) ∧ VLe v0 (encL encY 1 (decL decY v0)) ∧ pr24 (decL decY v0) p0, rs24 (decL decY v0) p0, [.box [encL encY 1 (decL decY v0), .int .i64 (ra24 (decL decY v0) p0)]] ++ rb24 (decL decY v0) p0)
  | _, _ => none
theorem so24 : Sound Try.prog 24 sp24 := by
  refine sound_of_bodyO hmix (tpl := [(0, 7)]) Try.func24 rfl (by kernel_rfl) fun args bin ob r bout hDe hob => ?_
  unfold sp24 at hDe
  split at hDe
  · rename_i i0 j0 o0 v0 p0
    cases hDe
    obtain ⟨⟨rfl, rfl, rfl⟩, h0, hpre⟩ := hob
    have hb := bd24 (decL decY v0) p0 hpre
    exact ⟨Nat.le_of_ble_eq_true (by kernel_rfl), cx24 (decL decY v0) p0, Eq.mp (by kernel_rfl) htt, Eq.mp (by kernel_rfl) da24, Eq.mp (by kernel_rfl) (noM_sound (P := Try.prog)), by kernel_rfl, [.oref 0 0 0], [(.box [encL encY 1 (decL decY v0), .int .i64 p0])], args_of_vles (l' := [.oref 0 0 0]) ⟨VLe.refl _, trivial⟩, ⟨ble_box ⟨h0, VLe.refl _, trivial⟩, trivial⟩, Eq.mp (by kernel_rfl) hb⟩
  · cases hDe

end Go.Av
