/- The places of a replica's messages. -/
import Derived.Test.YtnfelcpanphhlaaK2
namespace Go.Av
open Go.Proofs
set_option maxRecDepth 100000
set_option linter.unusedVariables false
set_option linter.unusedSimpArgs false

/-- The places among the first so many of which something is so. -/
def placesTo (l : List Msg) (q : Msg → Bool) (i : Nat) : List Int := ((List.range i).filter fun j => q (l.getD j default)).map fun j : Nat => (j : Int)
theorem placesTo_len (l : List Msg) (q : Msg → Bool) (i : Nat) : (placesTo l q i).length ≤ i := by
  unfold placesTo
  rw [List.length_map]
  exact Nat.le_trans (List.length_filter_le _ _) (by simp)
theorem placesTo_succ (l : List Msg) (q : Msg → Bool) (i : Nat) : placesTo l q (i + 1) = placesTo l q i ++ if q (l.getD i default) = true then [(i : Int)] else [] := by
  unfold placesTo
  rw [List.range_succ, List.filter_append, List.map_append]
  congr 1
  by_cases h : q (l.getD i default) = true
  · rw [if_pos h]; simp only [List.filter_cons, h, if_true, List.filter_nil, List.map_cons, List.map_nil]
  · rw [if_neg h]; simp only [List.filter_cons, h, List.filter_nil]; rfl
def fromQ (who : Int) : Msg → Bool := fun m => decide (m.sender = who)
noncomputable def sentF (f : Int) (l : List Msg) (who : Int) : IntsResult :=
  if ledgerFault f l ≠ 0 then ⟨ledgerFault f l, []⟩ else if ¬ inR who 1 (3 * f + 1) then ⟨3, []⟩ else ⟨0, placesTo l (fromQ who) l.length⟩


/-! ### impl.SentBy%o -/
def pr44o (f : Int) (l : List Msg) (who : Int) : Prop := bdL l
noncomputable def ro44o (f : Int) (l : List Msg) (who : Int) : IntsResult := sentF f l who
noncomputable def rb44o (f : Int) (l : List Msg) (who : Int) : List Blk := [(.arr 1 ((ro44o f l who).list).length (gL encI ((ro44o f l who).list)) tagS)]
noncomputable def rs44o (f : Int) (l : List Msg) (who : Int) : V := .agg [.int .i64 ((ro44o f l who).code), .osl 0 ((ro44o f l who).list).length]
noncomputable def sp44o : FSpec := fun args bin => match args, bin with
  | [.int .i64 a0, a1, .int .i64 a2], [] => some (VLe a1 (encL (encMsg 1) 1 (((decL decMsg) a1))) ∧ pr44o a0 ((decL decMsg) a1) a2, rs44o a0 ((decL decMsg) a1) a2, rb44o a0 ((decL decMsg) a1) a2)
  | _, _ => none
noncomputable def in44o_8 (f : Int) (l : List Msg) (who : Int) : LoopInv :=
  ⟨Nat, fun i => ⟨[(2, .int .i64 who), (6, .oref 448 0 0), (8, .osl (canonT 8) (placesTo l (fromQ who) i).length), (24, encL (encMsg 1) 1 l), (25, .int .i64 l.length), (26, .int .i64 i)], [(canonT 8, .arr 1 (placesTo l (fromQ who) i).length (gL encI (placesTo l (fromQ who) i)) tagS), (448, .box [.int .i64 0, .nil])]⟩,
    fun i => i ≤ l.length, fun i => l.length - i⟩
noncomputable def iv44o (f : Int) (l : List Msg) (who : Int) : Nat → Option LoopInv := fun rg_ => match rg_ with
  | 8 => some (in44o_8 f l who)
  | _ => none
noncomputable def D44o : Nat → Option (Bool × FSpec) := lk [(37, (false, sp37)), (112, (false, sp112))]
theorem da44o : SoundAll Try.prog D44o := soundAll_cons so37 (soundAll_cons so112 (soundAll_nil))
noncomputable def cx44o (f : Int) (l : List Msg) (who : Int) : Cx := ⟨tt, D44o, Try.f44.ntmps, [0, 1, 2, 6, 7, 8, 9, 10, 15, 21, 24, 25, 26, 27, 34], [(8, ⟨[(2, none), (6, none), (8, some 1), (24, none), (25, none), (26, none)], [(448, [])]⟩)], [], iv44o f l who, [], noM, []⟩
theorem bd44o (f : Int) (l : List Msg) (who : Int) (hpre : pr44o f l who) : bodyO (cx44o f l who) Try.f44 [(1, 1)] [.int .i64 (f), encL (encMsg 1) 1 (l), .int .i64 (who)] [] (fun rr bs => VLe rr (rs44o f l who) ∧ BinLe bs (rb44o f l who)) := by
  have key :
      (((VLe (encL (encMsg 1) 1 l)
   (encL (encMsg 1) 1 (decL decMsg (encL (encMsg 1) 1 l)))) ∧
   (pr37 f (decL decMsg (encL (encMsg 1) 1 l)))) ∧
   ((((ledgerFault f (decL decMsg (encL (encMsg 1) 1 l)) != (0 : Int)) = true) →
   ((VLe
   (V.agg
   [V.int IntKind.i64 (ledgerFault f (decL decMsg (encL (encMsg 1) 1 l))), V.osl 0 0])
   (V.agg
   [V.int IntKind.i64 (IntsResult.code (ro44o f l who)),
   V.osl 0 (List.length (IntsResult.list (ro44o f l who)))])) ∧
   ((BLe (Blk.arr 1 0 (fun (x : Nat) ↦ V.undef) 100)
   (Blk.arr 1 (List.length (IntsResult.list (ro44o f l who))) (gL encI (IntsResult.list (ro44o f l who)))
   100)) ∧
   (True)))) ∧
   (((ledgerFault f (decL decMsg (encL (encMsg 1) 1 l)) != (0 : Int)) = false) →
   ((pr112 f who) ∧
   ((((!decide (inR who (1 : Int) ((3 : Int) * f + (1 : Int)))) = true) →
   ((VLe (V.agg [V.int IntKind.i64 (3 : Int), V.osl 0 0])
   (V.agg
   [V.int IntKind.i64 (IntsResult.code (ro44o f l who)),
   V.osl 0 (List.length (IntsResult.list (ro44o f l who)))])) ∧
   ((BLe (Blk.arr 1 0 (fun (x : Nat) ↦ V.undef) 100)
   (Blk.arr 1 (List.length (IntsResult.list (ro44o f l who))) (gL encI (IntsResult.list (ro44o f l who)))
   100)) ∧
   (True)))) ∧
   (((!decide (inR who (1 : Int) ((3 : Int) * f + (1 : Int)))) = false) →
   ((∃ x : Nat, ((SLe
   (AS.mk
   [(2, V.int IntKind.i64 who), (6, V.oref 448 0 0),
   (8, V.osl 32000576 0), (24, encL (encMsg 1) 1 l),
   (25, V.int IntKind.i64 (↑(List.length l) : Int)), (26, V.int IntKind.i64 (0 : Int))]
   [(32000576, Blk.arr 1 0 (rowg []) 100),
   (448, Blk.box [V.int IntKind.i64 (0 : Int), V.nil])])
   (AS.mk
   [(2, V.int IntKind.i64 who), (6, V.oref 448 0 0),
   (8, V.osl 32000576 (List.length (placesTo l (fromQ who) x))),
   (24, encL (encMsg 1) 1 l), (25, V.int IntKind.i64 (↑(List.length l) : Int)),
   (26, V.int IntKind.i64 (↑x : Int))]
   [(32000576,
   Blk.arr 1 (List.length (placesTo l (fromQ who) x)) (gL encI (placesTo l (fromQ who) x)) 100),
   (448, Blk.box [V.int IntKind.i64 (0 : Int), V.nil])])) ∧
   (x ≤ List.length l))) ∧
   (∀ x : Nat,
   ((x ≤ List.length l) →
   (((decide ((↑x : Int) < (↑(List.length l) : Int)) = true) →
   ((((0 : Int) ≤ (↑x : Int)) ∧
   ((↑x : Int) < (↑(List.length l) : Int))) ∧
   ((((Msg.sender (List.getD l (Int.toNat (↑x : Int)) default) == who) = true) →
   ((List.length (placesTo l (fromQ who) x) = List.length (placesTo l (fromQ who) x)) ∧
   ((List.length (placesTo l (fromQ who) x) + 1 ≤ 1073741824) ∧
   ((sizedL 1 1 (rowg [V.int IntKind.i64 (↑x : Int)])) ∧
   ((inK IntKind.i64 ((↑x : Int) + (1 : Int))) ∧
   (∃ y : Nat, ((SLe
   (AS.mk
   [(2, V.int IntKind.i64 who), (6, V.oref 448 0 0),
   (8, V.osl 32000576 (List.length (placesTo l (fromQ who) x) + 1)),
   (24, encL (encMsg 1) 1 l), (25, V.int IntKind.i64 (↑(List.length l) : Int)),
   (26, V.int IntKind.i64 ((↑x : Int) + (1 : Int)))]
   [(32000576,
   Blk.arr 1 (List.length (placesTo l (fromQ who) x) + 1)
   (appg (List.length (placesTo l (fromQ who) x)) (gL encI (placesTo l (fromQ who) x))
   (rowg [V.int IntKind.i64 (↑x : Int)]))
   100),
   (448, Blk.box [V.int IntKind.i64 (0 : Int), V.nil])])
   (AS.mk
   [(2, V.int IntKind.i64 who), (6, V.oref 448 0 0),
   (8, V.osl 32000576 (List.length (placesTo l (fromQ who) y))),
   (24, encL (encMsg 1) 1 l), (25, V.int IntKind.i64 (↑(List.length l) : Int)),
   (26, V.int IntKind.i64 (↑y : Int))]
   [(32000576,
   Blk.arr 1 (List.length (placesTo l (fromQ who) y)) (gL encI (placesTo l (fromQ who) y)) 100),
   (448, Blk.box [V.int IntKind.i64 (0 : Int), V.nil])])) ∧
   ((y ≤ List.length l) ∧
   (List.length l - y < List.length l - x))))))))) ∧
   (((Msg.sender (List.getD l (Int.toNat (↑x : Int)) default) == who) = false) →
   ((inK IntKind.i64 ((↑x : Int) + (1 : Int))) ∧
   (∃ y : Nat, ((SLe
   (AS.mk
   [(2, V.int IntKind.i64 who), (6, V.oref 448 0 0),
   (8, V.osl 32000576 (List.length (placesTo l (fromQ who) x))),
   (24, encL (encMsg 1) 1 l), (25, V.int IntKind.i64 (↑(List.length l) : Int)),
   (26, V.int IntKind.i64 ((↑x : Int) + (1 : Int)))]
   [(32000576,
   Blk.arr 1 (List.length (placesTo l (fromQ who) x)) (gL encI (placesTo l (fromQ who) x)) 100),
   (448, Blk.box [V.int IntKind.i64 (0 : Int), V.nil])])
   (AS.mk
   [(2, V.int IntKind.i64 who), (6, V.oref 448 0 0),
   (8, V.osl 32000576 (List.length (placesTo l (fromQ who) y))),
   (24, encL (encMsg 1) 1 l), (25, V.int IntKind.i64 (↑(List.length l) : Int)),
   (26, V.int IntKind.i64 (↑y : Int))]
   [(32000576,
   Blk.arr 1 (List.length (placesTo l (fromQ who) y)) (gL encI (placesTo l (fromQ who) y)) 100),
   (448, Blk.box [V.int IntKind.i64 (0 : Int), V.nil])])) ∧
   ((y ≤ List.length l) ∧
   (List.length l - y < List.length l - x))))))))) ∧
   ((decide ((↑x : Int) < (↑(List.length l) : Int)) = false) →
   ((VLe (V.agg [V.int IntKind.i64 (0 : Int), V.osl 0 (List.length (placesTo l (fromQ who) x))])
   (V.agg
   [V.int IntKind.i64 (IntsResult.code (ro44o f l who)),
   V.osl 0 (List.length (IntsResult.list (ro44o f l who)))])) ∧
   ((BLe (Blk.arr 1 (List.length (placesTo l (fromQ who) x)) (gL encI (placesTo l (fromQ who) x)) 100)
   (Blk.arr 1 (List.length (IntsResult.list (ro44o f l who))) (gL encI (IntsResult.list (ro44o f l who)))
   100)) ∧
   (True)))))))))))))) := by
    have hlen := hpre.1
    unfold maxLen at hlen
    simp only [decL_Msg]
    refine ⟨⟨VLe.refl _, hpre⟩, fun h => ?_, fun h => ?_⟩
    · have e : sentF f l who = ⟨ledgerFault f l, []⟩ := if_pos (by simpa using h)
      unfold ro44o
      rw [e]
      exact ⟨VLe.refl _, ble_nil _, trivial⟩
    have h0 : ledgerFault f l = 0 := by simpa using h
    have hr := right_of h0
    have h240 := hr.len
    refine ⟨hr.okf, fun h => ?_, fun h => ?_⟩
    · have e : sentF f l who = ⟨3, []⟩ := by unfold sentF; rw [if_neg (by simp [h0]), if_pos (by simpa using h)]
      unfold ro44o
      rw [e]
      exact ⟨VLe.refl _, ble_nil _, trivial⟩
    have e : sentF f l who = ⟨0, placesTo l (fromQ who) l.length⟩ := by unfold sentF; rw [if_neg (by simp [h0]), if_neg (by simpa using h)]
    unfold ro44o
    rw [e]
    refine ⟨⟨0, sle_of ⟨rfl, VLe.refl _, rfl, VLe.refl _, rfl, VLe.refl _, rfl, VLe.refl _, rfl, VLe.refl _, rfl, VLe.refl _, trivial⟩ ⟨rfl, ble_nil _, rfl, BLe.refl _, trivial⟩, by omega⟩, fun i hi => ⟨fun h => ?_, fun h => ?_⟩⟩
    · have hlt : i < l.length := by simpa using h
      have hs := placesTo_succ l (fromQ who) i
      have hl2 := placesTo_len l (fromQ who) i
      simp only [Int.toNat_natCast]
      refine ⟨by omega, fun h2 => ⟨trivial, by omega, fun k hk => ?_, inK64 (by omega), i + 1, ?_, by omega, by omega⟩, fun h2 => ⟨inK64 (by omega), i + 1, ?_, by omega, by omega⟩⟩
      · have hk0 : k = 0 := by omega
        subst hk0
        exact ⟨rfl, rfl⟩
      · rw [if_pos (by simpa [fromQ] using h2)] at hs
        rw [hs, List.length_append]
        exact sle_of ⟨rfl, VLe.refl _, rfl, VLe.refl _, rfl, VLe.refl _, rfl, VLe.refl _, rfl, VLe.refl _, rfl, vle_int (by omega), trivial⟩ ⟨rfl, ble_push rfl rfl, rfl, BLe.refl _, trivial⟩
      · rw [if_neg (by simpa [fromQ] using h2), List.append_nil] at hs
        rw [hs]
        exact sle_of ⟨rfl, VLe.refl _, rfl, VLe.refl _, rfl, VLe.refl _, rfl, VLe.refl _, rfl, VLe.refl _, rfl, vle_int (by omega), trivial⟩ ⟨rfl, BLe.refl _, rfl, BLe.refl _, trivial⟩
    · have hge : i = l.length := by simp at h; omega
      subst hge
      exact ⟨VLe.refl _, BLe.refl _, trivial⟩
  exact Eq.mp (by kernel_rfl) key
theorem so44o : Sound Try.prog 44 sp44o := by
  refine sound_of_bodyO hmix (tpl := [(1, 1)]) Try.func44 rfl (by kernel_rfl) fun args bin ob r bout hDe hob => ?_
  unfold sp44o at hDe
  split at hDe
  · rename_i a0 a1 a2
    cases hDe
    exact ⟨Nat.le_of_ble_eq_true (by kernel_rfl), cx44o a0 ((decL decMsg) a1) a2, Eq.mp (by kernel_rfl) htt, Eq.mp (by kernel_rfl) da44o, Eq.mp (by kernel_rfl) (noM_sound (P := Try.prog)), by kernel_rfl, [.int .i64 (a0), encL (encMsg 1) 1 (((decL decMsg) a1)), .int .i64 (a2)], [], args_of_vles (⟨VLe.refl _, hob.1, VLe.refl _, trivial⟩), trivial, Eq.mp (by kernel_rfl) (bd44o a0 ((decL decMsg) a1) a2 (hob.2))⟩
  · cases hDe

/-! ### spec.SentBy%o -/
def pr43o (f : Int) (l : List Msg) (who : Int) : Prop := bdL l
noncomputable def ro43o (f : Int) (l : List Msg) (who : Int) : IntsResult := sentF f l who
noncomputable def rb43o (f : Int) (l : List Msg) (who : Int) : List Blk := [(.arr 1 ((ro43o f l who).list).length (gL encI ((ro43o f l who).list)) tagS)]
noncomputable def rs43o (f : Int) (l : List Msg) (who : Int) : V := .agg [.int .i64 ((ro43o f l who).code), .osl 0 ((ro43o f l who).list).length]
noncomputable def sp43o : FSpec := fun args bin => match args, bin with
  | [.int .i64 a0, a1, .int .i64 a2], [] => some (VLe a1 (encL (encMsg 1) 1 (((decL decMsg) a1))) ∧ pr43o a0 ((decL decMsg) a1) a2, rs43o a0 ((decL decMsg) a1) a2, rb43o a0 ((decL decMsg) a1) a2)
  | _, _ => none
noncomputable def in43o_8 (f : Int) (l : List Msg) (who : Int) : LoopInv :=
  ⟨Nat, fun i => ⟨[(1, encL (encMsg 1) 1 l), (2, .int .i64 who), (6, .oref 448 0 0), (8, .oref 576 0 0), (9, .int .i64 i)], [(448, .box [.int .i64 0, .nil]), (576, .box [.int .i64 0, .osl (canonB 576 1) (placesTo l (fromQ who) i).length]), (canonB 576 1, .arr 1 (placesTo l (fromQ who) i).length (gL encI (placesTo l (fromQ who) i)) tagS)]⟩,
    fun i => i ≤ l.length, fun i => l.length - i⟩
noncomputable def iv43o (f : Int) (l : List Msg) (who : Int) : Nat → Option LoopInv := fun rg_ => match rg_ with
  | 8 => some (in43o_8 f l who)
  | _ => none
noncomputable def D43o : Nat → Option (Bool × FSpec) := lk [(95, (false, sp95)), (111, (false, sp111))]
theorem da43o : SoundAll Try.prog D43o := soundAll_cons so95 (soundAll_cons so111 (soundAll_nil))
noncomputable def cx43o (f : Int) (l : List Msg) (who : Int) : Cx := ⟨tt, D43o, Try.f43.ntmps, [0, 1, 2, 6, 7, 8, 9, 14, 20, 26, 35], [(8, ⟨[(1, none), (2, none), (6, none), (8, none), (9, none)], [(448, []), (576, [(1, 1)])]⟩)], [], iv43o f l who, [], noM, []⟩
theorem bd43o (f : Int) (l : List Msg) (who : Int) (hpre : pr43o f l who) : bodyO (cx43o f l who) Try.f43 [(1, 1)] [.int .i64 (f), encL (encMsg 1) 1 (l), .int .i64 (who)] [] (fun rr bs => VLe rr (rs43o f l who) ∧ BinLe bs (rb43o f l who)) := by
  have key :
      (((VLe (encL (encMsg 1) 1 l)
   (encL (encMsg 1) 1 (decL decMsg (encL (encMsg 1) 1 l)))) ∧
   (pr95 f (decL decMsg (encL (encMsg 1) 1 l)))) ∧
   ((((ledgerFault f (decL decMsg (encL (encMsg 1) 1 l)) != (0 : Int)) = true) →
   ((VLe
   (V.agg
   [V.int IntKind.i64 (ledgerFault f (decL decMsg (encL (encMsg 1) 1 l))), V.osl 0 0])
   (V.agg
   [V.int IntKind.i64 (IntsResult.code (ro43o f l who)),
   V.osl 0 (List.length (IntsResult.list (ro43o f l who)))])) ∧
   ((BLe (Blk.arr 1 0 (fun (x : Nat) ↦ V.undef) 100)
   (Blk.arr 1 (List.length (IntsResult.list (ro43o f l who))) (gL encI (IntsResult.list (ro43o f l who)))
   100)) ∧
   (True)))) ∧
   (((ledgerFault f (decL decMsg (encL (encMsg 1) 1 l)) != (0 : Int)) = false) →
   ((pr111 f who) ∧
   ((((!decide (inR who (1 : Int) ((3 : Int) * f + (1 : Int)))) = true) →
   ((VLe (V.agg [V.int IntKind.i64 (3 : Int), V.osl 0 0])
   (V.agg
   [V.int IntKind.i64 (IntsResult.code (ro43o f l who)),
   V.osl 0 (List.length (IntsResult.list (ro43o f l who)))])) ∧
   ((BLe (Blk.arr 1 0 (fun (x : Nat) ↦ V.undef) 100)
   (Blk.arr 1 (List.length (IntsResult.list (ro43o f l who))) (gL encI (IntsResult.list (ro43o f l who)))
   100)) ∧
   (True)))) ∧
   (((!decide (inR who (1 : Int) ((3 : Int) * f + (1 : Int)))) = false) →
   ((∃ x : Nat, ((SLe
   (AS.mk
   [(1, encL (encMsg 1) 1 l), (2, V.int IntKind.i64 who),
   (6, V.oref 448 0 0), (8, V.oref 576 0 0),
   (9, V.int IntKind.i64 (0 : Int))]
   [(448, Blk.box [V.int IntKind.i64 (0 : Int), V.nil]),
   (576, Blk.box [V.int IntKind.i64 (0 : Int), V.osl 66359360 0]),
   (66359360, Blk.arr 1 0 (fun (x : Nat) ↦ V.undef) 100)])
   (AS.mk
   [(1, encL (encMsg 1) 1 l), (2, V.int IntKind.i64 who),
   (6, V.oref 448 0 0), (8, V.oref 576 0 0),
   (9, V.int IntKind.i64 (↑x : Int))]
   [(448, Blk.box [V.int IntKind.i64 (0 : Int), V.nil]),
   (576,
   Blk.box [V.int IntKind.i64 (0 : Int), V.osl 66359360 (List.length (placesTo l (fromQ who) x))]),
   (66359360,
   Blk.arr 1 (List.length (placesTo l (fromQ who) x)) (gL encI (placesTo l (fromQ who) x)) 100)])) ∧
   (x ≤ List.length l))) ∧
   (∀ x : Nat,
   ((x ≤ List.length l) →
   (((decide ((↑x : Int) < (↑(List.length l) : Int)) = true) →
   ((((0 : Int) ≤ (↑x : Int)) ∧
   ((↑x : Int) < (↑(List.length l) : Int))) ∧
   ((((Msg.sender (List.getD l (Int.toNat (↑x : Int)) default) == who) = true) →
   ((List.length (placesTo l (fromQ who) x) = List.length (placesTo l (fromQ who) x)) ∧
   ((List.length (placesTo l (fromQ who) x) + 1 ≤ 1073741824) ∧
   ((sizedL 1 1 (rowg [V.int IntKind.i64 (↑x : Int)])) ∧
   ((inK IntKind.i64 ((↑x : Int) + (1 : Int))) ∧
   (∃ y : Nat, ((SLe
   (AS.mk
   [(1, encL (encMsg 1) 1 l), (2, V.int IntKind.i64 who),
   (6, V.oref 448 0 0), (8, V.oref 576 0 0),
   (9, V.int IntKind.i64 ((↑x : Int) + (1 : Int)))]
   [(448, Blk.box [V.int IntKind.i64 (0 : Int), V.nil]),
   (576,
   Blk.box
   [V.int IntKind.i64 (0 : Int), V.osl 66359360 (List.length (placesTo l (fromQ who) x) + 1)]),
   (66359360,
   Blk.arr 1 (List.length (placesTo l (fromQ who) x) + 1)
   (appg (List.length (placesTo l (fromQ who) x)) (gL encI (placesTo l (fromQ who) x))
   (rowg [V.int IntKind.i64 (↑x : Int)]))
   100)])
   (AS.mk
   [(1, encL (encMsg 1) 1 l), (2, V.int IntKind.i64 who),
   (6, V.oref 448 0 0), (8, V.oref 576 0 0),
   (9, V.int IntKind.i64 (↑y : Int))]
   [(448, Blk.box [V.int IntKind.i64 (0 : Int), V.nil]),
   (576,
   Blk.box [V.int IntKind.i64 (0 : Int), V.osl 66359360 (List.length (placesTo l (fromQ who) y))]),
   (66359360,
   Blk.arr 1 (List.length (placesTo l (fromQ who) y)) (gL encI (placesTo l (fromQ who) y)) 100)])) ∧
   ((y ≤ List.length l) ∧
   (List.length l - y < List.length l - x))))))))) ∧
   (((Msg.sender (List.getD l (Int.toNat (↑x : Int)) default) == who) = false) →
   ((inK IntKind.i64 ((↑x : Int) + (1 : Int))) ∧
   (∃ y : Nat, ((SLe
   (AS.mk
   [(1, encL (encMsg 1) 1 l), (2, V.int IntKind.i64 who),
   (6, V.oref 448 0 0), (8, V.oref 576 0 0),
   (9, V.int IntKind.i64 ((↑x : Int) + (1 : Int)))]
   [(448, Blk.box [V.int IntKind.i64 (0 : Int), V.nil]),
   (576,
   Blk.box [V.int IntKind.i64 (0 : Int), V.osl 66359360 (List.length (placesTo l (fromQ who) x))]),
   (66359360,
   Blk.arr 1 (List.length (placesTo l (fromQ who) x)) (gL encI (placesTo l (fromQ who) x)) 100)])
   (AS.mk
   [(1, encL (encMsg 1) 1 l), (2, V.int IntKind.i64 who),
   (6, V.oref 448 0 0), (8, V.oref 576 0 0),
   (9, V.int IntKind.i64 (↑y : Int))]
   [(448, Blk.box [V.int IntKind.i64 (0 : Int), V.nil]),
   (576,
   Blk.box [V.int IntKind.i64 (0 : Int), V.osl 66359360 (List.length (placesTo l (fromQ who) y))]),
   (66359360,
   Blk.arr 1 (List.length (placesTo l (fromQ who) y)) (gL encI (placesTo l (fromQ who) y)) 100)])) ∧
   ((y ≤ List.length l) ∧
   (List.length l - y < List.length l - x))))))))) ∧
   ((decide ((↑x : Int) < (↑(List.length l) : Int)) = false) →
   ((VLe (V.agg [V.int IntKind.i64 (0 : Int), V.osl 0 (List.length (placesTo l (fromQ who) x))])
   (V.agg
   [V.int IntKind.i64 (IntsResult.code (ro43o f l who)),
   V.osl 0 (List.length (IntsResult.list (ro43o f l who)))])) ∧
   ((BLe (Blk.arr 1 (List.length (placesTo l (fromQ who) x)) (gL encI (placesTo l (fromQ who) x)) 100)
   (Blk.arr 1 (List.length (IntsResult.list (ro43o f l who))) (gL encI (IntsResult.list (ro43o f l who)))
   100)) ∧
   (True)))))))))))))) := by
    have hlen := hpre.1
    unfold maxLen at hlen
    simp only [decL_Msg]
    refine ⟨⟨VLe.refl _, hpre⟩, fun h => ?_, fun h => ?_⟩
    · have e : sentF f l who = ⟨ledgerFault f l, []⟩ := if_pos (by simpa using h)
      unfold ro43o
      rw [e]
      exact ⟨VLe.refl _, ble_nil _, trivial⟩
    have h0 : ledgerFault f l = 0 := by simpa using h
    have hr := right_of h0
    have h240 := hr.len
    refine ⟨hr.okf, fun h => ?_, fun h => ?_⟩
    · have e : sentF f l who = ⟨3, []⟩ := by unfold sentF; rw [if_neg (by simp [h0]), if_pos (by simpa using h)]
      unfold ro43o
      rw [e]
      exact ⟨VLe.refl _, ble_nil _, trivial⟩
    have e : sentF f l who = ⟨0, placesTo l (fromQ who) l.length⟩ := by unfold sentF; rw [if_neg (by simp [h0]), if_neg (by simpa using h)]
    unfold ro43o
    rw [e]
    refine ⟨⟨0, sle_of ⟨rfl, VLe.refl _, rfl, VLe.refl _, rfl, VLe.refl _, rfl, VLe.refl _, rfl, VLe.refl _, trivial⟩ ⟨rfl, BLe.refl _, rfl, BLe.refl _, rfl, ble_nil _, trivial⟩, by omega⟩, fun i hi => ⟨fun h => ?_, fun h => ?_⟩⟩
    · have hlt : i < l.length := by simpa using h
      have hs := placesTo_succ l (fromQ who) i
      have hl2 := placesTo_len l (fromQ who) i
      simp only [Int.toNat_natCast]
      refine ⟨by omega, fun h2 => ⟨trivial, by omega, fun k hk => ?_, inK64 (by omega), i + 1, ?_, by omega, by omega⟩, fun h2 => ⟨inK64 (by omega), i + 1, ?_, by omega, by omega⟩⟩
      · have hk0 : k = 0 := by omega
        subst hk0
        exact ⟨rfl, rfl⟩
      · rw [if_pos (by simpa [fromQ] using h2)] at hs
        rw [hs, List.length_append]
        exact sle_of ⟨rfl, VLe.refl _, rfl, VLe.refl _, rfl, VLe.refl _, rfl, VLe.refl _, rfl, vle_int (by omega), trivial⟩ ⟨rfl, BLe.refl _, rfl, BLe.refl _, rfl, ble_push rfl rfl, trivial⟩
      · rw [if_neg (by simpa [fromQ] using h2), List.append_nil] at hs
        rw [hs]
        exact sle_of ⟨rfl, VLe.refl _, rfl, VLe.refl _, rfl, VLe.refl _, rfl, VLe.refl _, rfl, vle_int (by omega), trivial⟩ ⟨rfl, BLe.refl _, rfl, BLe.refl _, rfl, BLe.refl _, trivial⟩
    · have hge : i = l.length := by simp at h; omega
      subst hge
      exact ⟨VLe.refl _, BLe.refl _, trivial⟩
  exact Eq.mp (by kernel_rfl) key
theorem so43o : Sound Try.prog 43 sp43o := by
  refine sound_of_bodyO hmix (tpl := [(1, 1)]) Try.func43 rfl (by kernel_rfl) fun args bin ob r bout hDe hob => ?_
  unfold sp43o at hDe
  split at hDe
  · rename_i a0 a1 a2
    cases hDe
    exact ⟨Nat.le_of_ble_eq_true (by kernel_rfl), cx43o a0 ((decL decMsg) a1) a2, Eq.mp (by kernel_rfl) htt, Eq.mp (by kernel_rfl) da43o, Eq.mp (by kernel_rfl) (noM_sound (P := Try.prog)), by kernel_rfl, [.int .i64 (a0), encL (encMsg 1) 1 (((decL decMsg) a1)), .int .i64 (a2)], [], args_of_vles (⟨VLe.refl _, hob.1, VLe.refl _, trivial⟩), trivial, Eq.mp (by kernel_rfl) (bd43o a0 ((decL decMsg) a1) a2 (hob.2))⟩
  · cases hDe

end Go.Av
