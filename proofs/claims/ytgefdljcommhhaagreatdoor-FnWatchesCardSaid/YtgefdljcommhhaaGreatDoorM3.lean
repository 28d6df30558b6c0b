/- Who is told that a path turned. -/
import Derived.Test.YtgefdljcommhhaaGreatDoorM2
import Derived.Test.YtgefdljcommhhaaGreatDoorT2
namespace Go.Av
open Go.Proofs
set_option maxRecDepth 100000
set_option maxHeartbeats 2000000
set_option linter.unusedVariables false
set_option linter.unusedSimpArgs false

noncomputable def leftW (b a : List Znode) (l : List Watch) : List Watch := l.filter fun w => decide (changeF b a w.path = 0)
noncomputable def evW (b a : List Znode) (l : List Watch) : List TEvent := (l.filter fun w => !decide (changeF b a w.path = 0)).map fun w => ⟨w.client, w.path, changeF b a w.path⟩
noncomputable def fireF (l : List Watch) (b a : List Znode) : List Watch × List TEvent := (leftW b a l, evW b a l)
noncomputable def fireWF (l : List Watch) (b a : List Znode) : WatchResult :=
  if watchesF l ≠ 0 then ⟨watchesF l, [], []⟩ else if treeF b ≠ 0 then ⟨treeF b, [], []⟩ else if treeF a ≠ 0 then ⟨treeF a, [], []⟩ else ⟨0, leftW b a l, evW b a l⟩
theorem leftW_len (b a : List Znode) (l : List Watch) : (leftW b a l).length ≤ l.length := List.length_filter_le _ _
theorem evW_len (b a : List Znode) (l : List Watch) : (evW b a l).length ≤ l.length := by
  unfold evW
  rw [List.length_map]
  exact List.length_filter_le _ _
theorem take_succ' {l : List Watch} {i : Nat} (h : i < l.length) : l.take (i + 1) = l.take i ++ [l.getD i default] := by
  rw [List.take_add_one]
  simp [h]
theorem leftW_hit {b a : List Znode} {l : List Watch} {i : Nat} (h : i < l.length) (h2 : changeF b a (l.getD i default).path = 0) : leftW b a (l.take (i + 1)) = leftW b a (l.take i) ++ [l.getD i default] := by
  rw [take_succ' h]
  unfold leftW
  rw [List.filter_append]
  congr 1
  simp only [List.filter_cons, decide_eq_true h2, if_true, List.filter_nil]
theorem leftW_no {b a : List Znode} {l : List Watch} {i : Nat} (h : i < l.length) (h2 : ¬ changeF b a (l.getD i default).path = 0) : leftW b a (l.take (i + 1)) = leftW b a (l.take i) := by
  rw [take_succ' h]
  unfold leftW
  rw [List.filter_append]
  simp only [List.filter_cons, decide_eq_false h2, List.filter_nil, Bool.false_eq_true, if_false, List.append_nil]
theorem evW_hit {b a : List Znode} {l : List Watch} {i : Nat} (h : i < l.length) (h2 : ¬ changeF b a (l.getD i default).path = 0) :
    evW b a (l.take (i + 1)) = evW b a (l.take i) ++ [⟨(l.getD i default).client, (l.getD i default).path, changeF b a (l.getD i default).path⟩] := by
  rw [take_succ' h]
  unfold evW
  rw [List.filter_append, List.map_append]
  congr 1
  simp only [List.filter_cons, decide_eq_false h2, Bool.not_false, if_true, List.filter_nil, List.map_cons, List.map_nil]
theorem evW_no {b a : List Znode} {l : List Watch} {i : Nat} (h : i < l.length) (h2 : changeF b a (l.getD i default).path = 0) : evW b a (l.take (i + 1)) = evW b a (l.take i) := by
  rw [take_succ' h]
  unfold evW
  rw [List.filter_append, List.map_append]
  simp only [List.filter_cons, decide_eq_true h2, Bool.not_true, List.filter_nil, Bool.false_eq_true, if_false, List.map_nil, List.append_nil]
theorem fireWF_len (l : List Watch) (b a : List Znode) : (fireWF l b a).watches.length ≤ 20 ∧ (fireWF l b a).events.length ≤ 20 := by
  unfold fireWF
  split
  · simp
  rename_i h
  have := watches_len (Classical.not_not.1 h)
  split
  · simp
  split
  · simp
  · exact ⟨Nat.le_trans (leftW_len b a l) this, Nat.le_trans (evW_len b a l) this⟩
theorem fi_e1 {l : List Watch} {b a : List Znode} (h : watchesF l ≠ 0) : fireWF l b a = ⟨watchesF l, [], []⟩ := if_pos h
theorem fi_e2 {l : List Watch} {b a : List Znode} (h : watchesF l = 0) (h2 : treeF b ≠ 0) : fireWF l b a = ⟨treeF b, [], []⟩ := by
  unfold fireWF
  rw [if_neg (not_not_intro h), if_pos h2]
theorem fi_e3 {l : List Watch} {b a : List Znode} (h : watchesF l = 0) (h2 : treeF b = 0) (h3 : treeF a ≠ 0) : fireWF l b a = ⟨treeF a, [], []⟩ := by
  unfold fireWF
  rw [if_neg (not_not_intro h), if_neg (not_not_intro h2), if_pos h3]
theorem fi_e4 {l : List Watch} {b a : List Znode} (h : watchesF l = 0) (h2 : treeF b = 0) (h3 : treeF a = 0) : fireWF l b a = ⟨0, leftW b a l, evW b a l⟩ := by
  unfold fireWF
  rw [if_neg (not_not_intro h), if_neg (not_not_intro h2), if_neg (not_not_intro h3)]

/-! ### impl.fire%o -/
def pr15o (l : List Watch) (b : List Znode) (a : List Znode) : Prop := l.length ≤ 1048576 ∧ rising b ∧ rising a ∧ b.length ≤ 1000 ∧ a.length ≤ 1000
noncomputable def ro15o (l : List Watch) (b : List Znode) (a : List Znode) : List Watch × List TEvent := fireF l b a
noncomputable def rb15o (l : List Watch) (b : List Znode) (a : List Znode) : List Blk := [(.arr 2 ((ro15o l b a).1).length (gL (encWatch 1) ((ro15o l b a).1)) tagS), (.arr 3 ((ro15o l b a).2).length (gL (encTEvent 1) ((ro15o l b a).2)) tagS)]
noncomputable def rs15o (l : List Watch) (b : List Znode) (a : List Znode) : V := .tup [.osl 0 ((ro15o l b a).1).length, .osl 1 ((ro15o l b a).2).length]
noncomputable def sp15o : FSpec := fun args bin => match args, bin with
  | [a0, a1, a2], [] => some (VLe a0 (encL (encWatch 1) 1 (((decL decWatch) a0))) ∧ VLe a1 (encL (encZnode 1) 1 (((decL decZnode) a1))) ∧ VLe a2 (encL (encZnode 1) 1 (((decL decZnode) a2))) ∧ pr15o ((decL decWatch) a0) ((decL decZnode) a1) ((decL decZnode) a2), rs15o ((decL decWatch) a0) ((decL decZnode) a1) ((decL decZnode) a2), rb15o ((decL decWatch) a0) ((decL decZnode) a1) ((decL decZnode) a2))
  | _, _ => none
noncomputable def in15o_3 (l : List Watch) (b : List Znode) (a : List Znode) : LoopInv :=
  ⟨Nat, fun i => ⟨[(1, encL (encZnode 1) 1 b), (2, encL (encZnode 1) 1 a), (8, .osl (canonT 8) (leftW b a (l.take i)).length), (9, .osl (canonT 9) (evW b a (l.take i)).length), (15, encL (encWatch 1) 1 l), (16, .int .i64 l.length), (17, .int .i64 i)], [(canonT 8, .arr 2 (leftW b a (l.take i)).length (gL (encWatch 1) (leftW b a (l.take i))) tagS), (canonT 9, .arr 3 (evW b a (l.take i)).length (gL (encTEvent 1) (evW b a (l.take i))) tagS)]⟩,
    fun i => i ≤ l.length, fun i => l.length - i⟩
noncomputable def iv15o (l : List Watch) (b : List Znode) (a : List Znode) : Nat → Option LoopInv := fun rg_ => match rg_ with
  | 3 => some (in15o_3 l b a)
  | _ => none
noncomputable def D15o : Nat → Option (Bool × FSpec) := lk [(20, (false, sp20))]
theorem da15o : SoundAll Tryz.prog D15o := soundAll_cons so20 (soundAll_nil)
noncomputable def cx15o (l : List Watch) (b : List Znode) (a : List Znode) : Cx := ⟨tt, D15o, Tryz.f15.ntmps, [0, 1, 2, 6, 7, 8, 9, 11, 12, 15, 16, 17, 18, 27], [(3, ⟨[(1, none), (2, none), (8, some 2), (9, some 3), (15, none), (16, none), (17, none)], []⟩)], [], iv15o l b a, [], noM, []⟩
noncomputable def k15o_0 (l : List Watch) (b : List Znode) (a : List Znode) (y : Nat) : AS := (AS.mk [(1, encL (encZnode 1) 1 b), (2, encL (encZnode 1) 1 a), (8, V.osl 32000576 (List.length (leftW b a (List.take y l)))), (9, V.osl 32000640 (List.length (evW b a (List.take y l)))), (15, encL (encWatch 1) 1 l), (16, vi (↑(List.length l) : Int)), (17, vi (↑y : Int))] [(32000576, Blk.arr 2 (List.length (leftW b a (List.take y l))) (gL (encWatch 1) (leftW b a (List.take y l))) 100), (32000640, Blk.arr 3 (List.length (evW b a (List.take y l))) (gL (encTEvent 1) (evW b a (List.take y l))) 100)])
noncomputable def k15o_1 (l : List Watch) (b : List Znode) (a : List Znode) (x : Nat) : List V := [V.agg [vi (Watch.client (List.getD l (Int.toNat (↑x : Int)) default)), V.str (Watch.path (List.getD l (Int.toNat (↑x : Int)) default)), vi (changeF (decL decZnode (encL (encZnode 1) 1 b)) (decL decZnode (encL (encZnode 1) 1 a)) (Watch.path (List.getD l (Int.toNat (↑x : Int)) default)))]]
noncomputable def k15o_2 (l : List Watch) (b : List Znode) (a : List Znode) (x : Nat) : Nat := (List.length (leftW b a (List.take x l)))
theorem bd15o (l : List Watch) (b : List Znode) (a : List Znode) (hpre : pr15o l b a) : bodyO (cx15o l b a) Tryz.f15 [(0, 2), (1, 3)] [encL (encWatch 1) 1 (l), encL (encZnode 1) 1 (b), encL (encZnode 1) 1 (a)] [] (fun rr bs => VLe rr (rs15o l b a) ∧ BinLe bs (rb15o l b a)) := by
  have key : ((∃ x : Nat, ((SLe (AS.mk [(1, encL (encZnode 1) 1 b), (2, encL (encZnode 1) 1 a), (8, V.osl 32000576 0), (9, V.osl 32000640 0), (15, encL (encWatch 1) 1 l), (16, vi (↑(List.length l) : Int)), (17, vi (0 : Int))] [(32000576, Blk.arr 2 0 (rowg []) 100), (32000640, Blk.arr 3 0 (rowg []) 100)]) (AS.mk [(1, encL (encZnode 1) 1 b), (2, encL (encZnode 1) 1 a), (8, V.osl 32000576 (k15o_2 l b a x)), (9, V.osl 32000640 (List.length (evW b a (List.take x l)))), (15, encL (encWatch 1) 1 l), (16, vi (↑(List.length l) : Int)), (17, vi (↑x : Int))] [(32000576, Blk.arr 2 (k15o_2 l b a x) (gL (encWatch 1) (leftW b a (List.take x l))) 100), (32000640, Blk.arr 3 (List.length (evW b a (List.take x l))) (gL (encTEvent 1) (evW b a (List.take x l))) 100)])) ∧ (x ≤ List.length l))) ∧ (∀ x : Nat, ((x ≤ List.length l) → (((decide ((↑x : Int) < (↑(List.length l) : Int)) = true) → ((((0 : Int) ≤ (↑x : Int)) ∧ ((↑x : Int) < (↑(List.length l) : Int))) ∧ (((VLe (encL (encZnode 1) 1 b) (encL (encZnode 1) 1 (decL decZnode (encL (encZnode 1) 1 b)))) ∧ ((VLe (encL (encZnode 1) 1 a) (encL (encZnode 1) 1 (decL decZnode (encL (encZnode 1) 1 a)))) ∧ (pr20 (decL decZnode (encL (encZnode 1) 1 b)) (decL decZnode (encL (encZnode 1) 1 a)) (Watch.path (List.getD l (Int.toNat (↑x : Int)) default))))) ∧ ((((changeF (decL decZnode (encL (encZnode 1) 1 b)) (decL decZnode (encL (encZnode 1) 1 a)) (Watch.path (List.getD l (Int.toNat (↑x : Int)) default)) != (0 : Int)) = true) → ((List.length (evW b a (List.take x l)) = List.length (evW b a (List.take x l))) ∧ ((List.length (evW b a (List.take x l)) + 1 ≤ 1073741824) ∧ ((sizedL 3 1 (rowg (k15o_1 l b a x))) ∧ ((inK IntKind.i64 ((↑x : Int) + (1 : Int))) ∧ (∃ y : Nat, ((SLe (AS.mk [(1, encL (encZnode 1) 1 b), (2, encL (encZnode 1) 1 a), (8, V.osl 32000576 (k15o_2 l b a x)), (9, V.osl 32000640 (List.length (evW b a (List.take x l)) + 1)), (15, encL (encWatch 1) 1 l), (16, vi (↑(List.length l) : Int)), (17, vi ((↑x : Int) + (1 : Int)))] [(32000576, Blk.arr 2 (k15o_2 l b a x) (gL (encWatch 1) (leftW b a (List.take x l))) 100), (32000640, Blk.arr 3 (List.length (evW b a (List.take x l)) + 1) (appg (List.length (evW b a (List.take x l))) (gL (encTEvent 1) (evW b a (List.take x l))) (rowg (k15o_1 l b a x))) 100)]) (k15o_0 l b a y)) ∧ ((y ≤ List.length l) ∧ (List.length l - y < List.length l - x))))))))) ∧ (((changeF (decL decZnode (encL (encZnode 1) 1 b)) (decL decZnode (encL (encZnode 1) 1 a)) (Watch.path (List.getD l (Int.toNat (↑x : Int)) default)) != (0 : Int)) = false) → ((List.length (leftW b a (List.take x l)) = List.length (leftW b a (List.take x l))) ∧ ((List.length (leftW b a (List.take x l)) + 1 ≤ 1073741824) ∧ ((sizedL 2 1 (rowg [encWatch 1 (List.getD l (Int.toNat (↑x : Int)) default)])) ∧ ((inK IntKind.i64 ((↑x : Int) + (1 : Int))) ∧ (∃ y : Nat, ((SLe (AS.mk [(1, encL (encZnode 1) 1 b), (2, encL (encZnode 1) 1 a), (8, V.osl 32000576 (List.length (leftW b a (List.take x l)) + 1)), (9, V.osl 32000640 (List.length (evW b a (List.take x l)))), (15, encL (encWatch 1) 1 l), (16, vi (↑(List.length l) : Int)), (17, vi ((↑x : Int) + (1 : Int)))] [(32000576, Blk.arr 2 (List.length (leftW b a (List.take x l)) + 1) (appg (k15o_2 l b a x) (gL (encWatch 1) (leftW b a (List.take x l))) (rowg [encWatch 1 (List.getD l (Int.toNat (↑x : Int)) default)])) 100), (32000640, Blk.arr 3 (List.length (evW b a (List.take x l))) (gL (encTEvent 1) (evW b a (List.take x l))) 100)]) (k15o_0 l b a y)) ∧ ((y ≤ List.length l) ∧ (List.length l - y < List.length l - x))))))))))))) ∧ ((decide ((↑x : Int) < (↑(List.length l) : Int)) = false) → ((VLe (V.tup [V.osl 0 (k15o_2 l b a x), V.osl 1 (List.length (evW b a (List.take x l)))]) (V.tup [V.osl 0 (List.length (Prod.fst (leftW b a l, evW b a l))), V.osl 1 (List.length (Prod.snd (leftW b a l, evW b a l)))])) ∧ ((BLe (Blk.arr 2 (k15o_2 l b a x) (gL (encWatch 1) (leftW b a (List.take x l))) 100) (Blk.arr 2 (List.length (Prod.fst (leftW b a l, evW b a l))) (gL (encWatch 1) (Prod.fst (leftW b a l, evW b a l))) 100)) ∧ ((BLe (Blk.arr 3 (List.length (evW b a (List.take x l))) (gL (encTEvent 1) (evW b a (List.take x l))) 100) (Blk.arr 3 (List.length (Prod.snd (leftW b a l, evW b a l))) (gL (encTEvent 1) (Prod.snd (leftW b a l, evW b a l))) 100)) ∧ (True))))))))) := by
    delta k15o_2; delta k15o_1; delta k15o_0; delta vi
    obtain ⟨hl, hb, ha, hbl, hal⟩ := hpre
    simp only [decL_Znode, ro15o, fireF]
    refine ⟨⟨0, sle_of ⟨rfl, VLe.refl _, rfl, VLe.refl _, rfl, VLe.refl _, rfl, VLe.refl _, rfl, VLe.refl _, rfl, VLe.refl _, rfl, VLe.refl _, trivial⟩ ⟨rfl, ble_nil _, rfl, ble_nil _, trivial⟩, by omega⟩, fun i hi => ⟨fun h => ?_, fun h => ?_⟩⟩
    · have hlt : i < l.length := by simpa using h
      have n1 := leftW_len b a (l.take i)
      have n2 := evW_len b a (l.take i)
      rw [List.length_take] at n1 n2
      simp only [Int.toNat_natCast]
      refine ⟨by omega, ⟨VLe.refl _, VLe.refl _, hb, ha, hbl, hal⟩, fun h2 => ⟨trivial, by omega, fun k hk => ?_, inK64 (by omega), i + 1, ?_, by omega, by omega⟩, fun h2 => ⟨trivial, by omega, fun k hk => ?_, inK64 (by omega), i + 1, ?_, by omega, by omega⟩⟩
      · have hk0 : k = 0 := by omega
        subst hk0
        exact ⟨rfl, rfl⟩
      · rw [leftW_no hlt (nz h2), evW_hit hlt (nz h2), List.length_append, List.length_singleton]
        exact sle_of ⟨rfl, VLe.refl _, rfl, VLe.refl _, rfl, VLe.refl _, rfl, VLe.refl _, rfl, VLe.refl _, rfl, VLe.refl _, rfl, vle_int (by omega), trivial⟩ ⟨rfl, BLe.refl _, rfl, ble_push rfl rfl, trivial⟩
      · have hk0 : k = 0 := by omega
        subst hk0
        exact ⟨rfl, rfl⟩
      · rw [leftW_hit hlt (ez h2), evW_no hlt (ez h2), List.length_append, List.length_singleton]
        exact sle_of ⟨rfl, VLe.refl _, rfl, VLe.refl _, rfl, VLe.refl _, rfl, VLe.refl _, rfl, VLe.refl _, rfl, VLe.refl _, rfl, vle_int (by omega), trivial⟩ ⟨rfl, ble_push rfl rfl, rfl, BLe.refl _, trivial⟩
    · have hge : i = l.length := by simp at h; omega
      subst hge
      rw [List.take_length]
      exact ⟨VLe.refl _, BLe.refl _, BLe.refl _, trivial⟩
  exact Eq.mp (by kernel_rfl) key
theorem so15o : Sound Tryz.prog 15 sp15o := by
  refine sound_of_bodyO hmix (tpl := [(0, 2), (1, 3)]) Tryz.func15 rfl (by kernel_rfl) fun args bin ob r bout hDe hob => ?_
  unfold sp15o at hDe
  split at hDe
  · rename_i a0 a1 a2
    cases hDe
    exact ⟨Nat.le_of_ble_eq_true (by kernel_rfl), cx15o ((decL decWatch) a0) ((decL decZnode) a1) ((decL decZnode) a2), Eq.mp (by kernel_rfl) htt, Eq.mp (by kernel_rfl) da15o, Eq.mp (by kernel_rfl) (noM_sound (P := Tryz.prog)), by kernel_rfl, [encL (encWatch 1) 1 (((decL decWatch) a0)), encL (encZnode 1) 1 (((decL decZnode) a1)), encL (encZnode 1) 1 (((decL decZnode) a2))], [], args_of_vles (⟨hob.1, hob.2.1, hob.2.2.1, trivial⟩), trivial, Eq.mp (by kernel_rfl) (bd15o ((decL decWatch) a0) ((decL decZnode) a1) ((decL decZnode) a2) (hob.2.2.2))⟩
  · cases hDe

/-! ### spec.l7Fire%o -/
def pr18o (l : List Watch) (b : List Znode) (a : List Znode) : Prop := l.length ≤ 1048576 ∧ rising b ∧ rising a ∧ b.length ≤ 1000 ∧ a.length ≤ 1000
noncomputable def ro18o (l : List Watch) (b : List Znode) (a : List Znode) : List Watch × List TEvent := fireF l b a
noncomputable def rb18o (l : List Watch) (b : List Znode) (a : List Znode) : List Blk := [(.arr 2 ((ro18o l b a).1).length (gL (encWatch 1) ((ro18o l b a).1)) tagS), (.arr 3 ((ro18o l b a).2).length (gL (encTEvent 1) ((ro18o l b a).2)) tagS)]
noncomputable def rs18o (l : List Watch) (b : List Znode) (a : List Znode) : V := .tup [.osl 0 ((ro18o l b a).1).length, .osl 1 ((ro18o l b a).2).length]
noncomputable def sp18o : FSpec := fun args bin => match args, bin with
  | [a0, a1, a2], [] => some (VLe a0 (encL (encWatch 1) 1 (((decL decWatch) a0))) ∧ VLe a1 (encL (encZnode 1) 1 (((decL decZnode) a1))) ∧ VLe a2 (encL (encZnode 1) 1 (((decL decZnode) a2))) ∧ pr18o ((decL decWatch) a0) ((decL decZnode) a1) ((decL decZnode) a2), rs18o ((decL decWatch) a0) ((decL decZnode) a1) ((decL decZnode) a2), rb18o ((decL decWatch) a0) ((decL decZnode) a1) ((decL decZnode) a2))
  | _, _ => none
noncomputable def in18o_4 (l : List Watch) (b : List Znode) (a : List Znode) : LoopInv :=
  ⟨Nat, fun i => ⟨[(0, encL (encWatch 1) 1 l), (1, encL (encZnode 1) 1 b), (2, encL (encZnode 1) 1 a), (8, .osl (canonT 8) (leftW b a (l.take i)).length), (9, .osl (canonT 9) (evW b a (l.take i)).length), (10, .int .i64 i)], [(canonT 8, .arr 2 (leftW b a (l.take i)).length (gL (encWatch 1) (leftW b a (l.take i))) tagS), (canonT 9, .arr 3 (evW b a (l.take i)).length (gL (encTEvent 1) (evW b a (l.take i))) tagS)]⟩,
    fun i => i ≤ l.length, fun i => l.length - i⟩
noncomputable def iv18o (l : List Watch) (b : List Znode) (a : List Znode) : Nat → Option LoopInv := fun rg_ => match rg_ with
  | 4 => some (in18o_4 l b a)
  | _ => none
noncomputable def D18o : Nat → Option (Bool × FSpec) := lk [(46, (false, sp46))]
theorem da18o : SoundAll Tryz.prog D18o := soundAll_cons so46 (soundAll_nil)
noncomputable def cx18o (l : List Watch) (b : List Znode) (a : List Znode) : Cx := ⟨tt, D18o, Tryz.f18.ntmps, [0, 1, 2, 6, 7, 8, 9, 10, 11, 17, 29], [(4, ⟨[(0, none), (1, none), (2, none), (8, some 2), (9, some 3), (10, none)], []⟩)], [], iv18o l b a, [], noM, []⟩
noncomputable def k18o_0 (l : List Watch) (b : List Znode) (a : List Znode) (y : Nat) : AS := (AS.mk [(0, encL (encWatch 1) 1 l), (1, encL (encZnode 1) 1 b), (2, encL (encZnode 1) 1 a), (8, V.osl 32000576 (List.length (leftW b a (List.take y l)))), (9, V.osl 32000640 (List.length (evW b a (List.take y l)))), (10, vi (↑y : Int))] [(32000576, Blk.arr 2 (List.length (leftW b a (List.take y l))) (gL (encWatch 1) (leftW b a (List.take y l))) 100), (32000640, Blk.arr 3 (List.length (evW b a (List.take y l))) (gL (encTEvent 1) (evW b a (List.take y l))) 100)])
noncomputable def k18o_1 (l : List Watch) (b : List Znode) (a : List Znode) (x : Nat) : List V := [V.agg [vi (Watch.client (List.getD l (Int.toNat (↑x : Int)) default)), V.str (Watch.path (List.getD l (Int.toNat (↑x : Int)) default)), vi (changeF (decL decZnode (encL (encZnode 1) 1 b)) (decL decZnode (encL (encZnode 1) 1 a)) (Watch.path (List.getD l (Int.toNat (↑x : Int)) default)))]]
noncomputable def k18o_2 (l : List Watch) (b : List Znode) (a : List Znode) (x : Nat) : Nat := (List.length (leftW b a (List.take x l)))
theorem bd18o (l : List Watch) (b : List Znode) (a : List Znode) (hpre : pr18o l b a) : bodyO (cx18o l b a) Tryz.f18 [(0, 2), (1, 3)] [encL (encWatch 1) 1 (l), encL (encZnode 1) 1 (b), encL (encZnode 1) 1 (a)] [] (fun rr bs => VLe rr (rs18o l b a) ∧ BinLe bs (rb18o l b a)) := by
  have key : ((∃ x : Nat, ((SLe (AS.mk [(0, encL (encWatch 1) 1 l), (1, encL (encZnode 1) 1 b), (2, encL (encZnode 1) 1 a), (8, V.osl 32000576 0), (9, V.osl 32000640 0), (10, vi (0 : Int))] [(32000576, Blk.arr 2 0 (rowg []) 100), (32000640, Blk.arr 3 0 (rowg []) 100)]) (AS.mk [(0, encL (encWatch 1) 1 l), (1, encL (encZnode 1) 1 b), (2, encL (encZnode 1) 1 a), (8, V.osl 32000576 (k18o_2 l b a x)), (9, V.osl 32000640 (List.length (evW b a (List.take x l)))), (10, vi (↑x : Int))] [(32000576, Blk.arr 2 (k18o_2 l b a x) (gL (encWatch 1) (leftW b a (List.take x l))) 100), (32000640, Blk.arr 3 (List.length (evW b a (List.take x l))) (gL (encTEvent 1) (evW b a (List.take x l))) 100)])) ∧ (x ≤ List.length l))) ∧ (∀ x : Nat, ((x ≤ List.length l) → (((decide ((↑x : Int) < (↑(List.length l) : Int)) = true) → ((((0 : Int) ≤ (↑x : Int)) ∧ ((↑x : Int) < (↑(List.length l) : Int))) ∧ (((VLe (encL (encZnode 1) 1 b) (encL (encZnode 1) 1 (decL decZnode (encL (encZnode 1) 1 b)))) ∧ ((VLe (encL (encZnode 1) 1 a) (encL (encZnode 1) 1 (decL decZnode (encL (encZnode 1) 1 a)))) ∧ (pr46 (decL decZnode (encL (encZnode 1) 1 b)) (decL decZnode (encL (encZnode 1) 1 a)) (Watch.path (List.getD l (Int.toNat (↑x : Int)) default))))) ∧ ((((changeF (decL decZnode (encL (encZnode 1) 1 b)) (decL decZnode (encL (encZnode 1) 1 a)) (Watch.path (List.getD l (Int.toNat (↑x : Int)) default)) == (0 : Int)) = true) → ((((0 : Int) ≤ (↑x : Int)) ∧ ((↑x : Int) < (↑(List.length l) : Int))) ∧ ((List.length (leftW b a (List.take x l)) = List.length (leftW b a (List.take x l))) ∧ ((List.length (leftW b a (List.take x l)) + 1 ≤ 1073741824) ∧ ((sizedL 2 1 (rowg [encWatch 1 (List.getD l (Int.toNat (↑x : Int)) default)])) ∧ ((inK IntKind.i64 ((↑x : Int) + (1 : Int))) ∧ (∃ y : Nat, ((SLe (AS.mk [(0, encL (encWatch 1) 1 l), (1, encL (encZnode 1) 1 b), (2, encL (encZnode 1) 1 a), (8, V.osl 32000576 (List.length (leftW b a (List.take x l)) + 1)), (9, V.osl 32000640 (List.length (evW b a (List.take x l)))), (10, vi ((↑x : Int) + (1 : Int)))] [(32000576, Blk.arr 2 (List.length (leftW b a (List.take x l)) + 1) (appg (k18o_2 l b a x) (gL (encWatch 1) (leftW b a (List.take x l))) (rowg [encWatch 1 (List.getD l (Int.toNat (↑x : Int)) default)])) 100), (32000640, Blk.arr 3 (List.length (evW b a (List.take x l))) (gL (encTEvent 1) (evW b a (List.take x l))) 100)]) (k18o_0 l b a y)) ∧ ((y ≤ List.length l) ∧ (List.length l - y < List.length l - x)))))))))) ∧ (((changeF (decL decZnode (encL (encZnode 1) 1 b)) (decL decZnode (encL (encZnode 1) 1 a)) (Watch.path (List.getD l (Int.toNat (↑x : Int)) default)) == (0 : Int)) = false) → ((((0 : Int) ≤ (↑x : Int)) ∧ ((↑x : Int) < (↑(List.length l) : Int))) ∧ ((((0 : Int) ≤ (↑x : Int)) ∧ ((↑x : Int) < (↑(List.length l) : Int))) ∧ ((List.length (evW b a (List.take x l)) = List.length (evW b a (List.take x l))) ∧ ((List.length (evW b a (List.take x l)) + 1 ≤ 1073741824) ∧ ((sizedL 3 1 (rowg (k18o_1 l b a x))) ∧ ((inK IntKind.i64 ((↑x : Int) + (1 : Int))) ∧ (∃ y : Nat, ((SLe (AS.mk [(0, encL (encWatch 1) 1 l), (1, encL (encZnode 1) 1 b), (2, encL (encZnode 1) 1 a), (8, V.osl 32000576 (k18o_2 l b a x)), (9, V.osl 32000640 (List.length (evW b a (List.take x l)) + 1)), (10, vi ((↑x : Int) + (1 : Int)))] [(32000576, Blk.arr 2 (k18o_2 l b a x) (gL (encWatch 1) (leftW b a (List.take x l))) 100), (32000640, Blk.arr 3 (List.length (evW b a (List.take x l)) + 1) (appg (List.length (evW b a (List.take x l))) (gL (encTEvent 1) (evW b a (List.take x l))) (rowg (k18o_1 l b a x))) 100)]) (k18o_0 l b a y)) ∧ ((y ≤ List.length l) ∧ (List.length l - y < List.length l - x))))))))))))))) ∧ ((decide ((↑x : Int) < (↑(List.length l) : Int)) = false) → ((VLe (V.tup [V.osl 0 (k18o_2 l b a x), V.osl 1 (List.length (evW b a (List.take x l)))]) (V.tup [V.osl 0 (List.length (Prod.fst (leftW b a l, evW b a l))), V.osl 1 (List.length (Prod.snd (leftW b a l, evW b a l)))])) ∧ ((BLe (Blk.arr 2 (k18o_2 l b a x) (gL (encWatch 1) (leftW b a (List.take x l))) 100) (Blk.arr 2 (List.length (Prod.fst (leftW b a l, evW b a l))) (gL (encWatch 1) (Prod.fst (leftW b a l, evW b a l))) 100)) ∧ ((BLe (Blk.arr 3 (List.length (evW b a (List.take x l))) (gL (encTEvent 1) (evW b a (List.take x l))) 100) (Blk.arr 3 (List.length (Prod.snd (leftW b a l, evW b a l))) (gL (encTEvent 1) (Prod.snd (leftW b a l, evW b a l))) 100)) ∧ (True))))))))) := by
    delta k18o_2; delta k18o_1; delta k18o_0; delta vi
    obtain ⟨hl, hb, ha, hbl, hal⟩ := hpre
    simp only [decL_Znode, ro18o, fireF]
    refine ⟨⟨0, sle_of ⟨rfl, VLe.refl _, rfl, VLe.refl _, rfl, VLe.refl _, rfl, VLe.refl _, rfl, VLe.refl _, rfl, VLe.refl _, trivial⟩ ⟨rfl, ble_nil _, rfl, ble_nil _, trivial⟩, by omega⟩, fun i hi => ⟨fun h => ?_, fun h => ?_⟩⟩
    · have hlt : i < l.length := by simpa using h
      have n1 := leftW_len b a (l.take i)
      have n2 := evW_len b a (l.take i)
      rw [List.length_take] at n1 n2
      simp only [Int.toNat_natCast]
      refine ⟨by omega, ⟨VLe.refl _, VLe.refl _, hb, ha, hbl, hal⟩, fun h2 => ⟨by omega, trivial, by omega, fun k hk => ?_, inK64 (by omega), i + 1, ?_, by omega, by omega⟩, fun h2 => ⟨by omega, by omega, trivial, by omega, fun k hk => ?_, inK64 (by omega), i + 1, ?_, by omega, by omega⟩⟩
      · have hk0 : k = 0 := by omega
        subst hk0
        exact ⟨rfl, rfl⟩
      · have h3 : changeF b a (l.getD i default).path = 0 := by simpa using h2
        rw [leftW_hit hlt h3, evW_no hlt h3, List.length_append, List.length_singleton]
        exact sle_of ⟨rfl, VLe.refl _, rfl, VLe.refl _, rfl, VLe.refl _, rfl, VLe.refl _, rfl, VLe.refl _, rfl, vle_int (by omega), trivial⟩ ⟨rfl, ble_push rfl rfl, rfl, BLe.refl _, trivial⟩
      · have hk0 : k = 0 := by omega
        subst hk0
        exact ⟨rfl, rfl⟩
      · have h3 : ¬ changeF b a (l.getD i default).path = 0 := by simpa using h2
        rw [leftW_no hlt h3, evW_hit hlt h3, List.length_append, List.length_singleton]
        exact sle_of ⟨rfl, VLe.refl _, rfl, VLe.refl _, rfl, VLe.refl _, rfl, VLe.refl _, rfl, VLe.refl _, rfl, vle_int (by omega), trivial⟩ ⟨rfl, BLe.refl _, rfl, ble_push rfl rfl, trivial⟩
    · have hge : i = l.length := by simp at h; omega
      subst hge
      rw [List.take_length]
      exact ⟨VLe.refl _, BLe.refl _, BLe.refl _, trivial⟩
  exact Eq.mp (by kernel_rfl) key
theorem so18o : Sound Tryz.prog 18 sp18o := by
  refine sound_of_bodyO hmix (tpl := [(0, 2), (1, 3)]) Tryz.func18 rfl (by kernel_rfl) fun args bin ob r bout hDe hob => ?_
  unfold sp18o at hDe
  split at hDe
  · rename_i a0 a1 a2
    cases hDe
    exact ⟨Nat.le_of_ble_eq_true (by kernel_rfl), cx18o ((decL decWatch) a0) ((decL decZnode) a1) ((decL decZnode) a2), Eq.mp (by kernel_rfl) htt, Eq.mp (by kernel_rfl) da18o, Eq.mp (by kernel_rfl) (noM_sound (P := Tryz.prog)), by kernel_rfl, [encL (encWatch 1) 1 (((decL decWatch) a0)), encL (encZnode 1) 1 (((decL decZnode) a1)), encL (encZnode 1) 1 (((decL decZnode) a2))], [], args_of_vles (⟨hob.1, hob.2.1, hob.2.2.1, trivial⟩), trivial, Eq.mp (by kernel_rfl) (bd18o ((decL decWatch) a0) ((decL decZnode) a1) ((decL decZnode) a2) (hob.2.2.2))⟩
  · cases hDe

/-! ### impl.FireWatches%o -/
def pr6o (l : List Watch) (b : List Znode) (a : List Znode) : Prop := l.length ≤ 1048576 ∧ b.length ≤ 1048576 ∧ a.length ≤ 1048576
noncomputable def ro6o (l : List Watch) (b : List Znode) (a : List Znode) : WatchResult := fireWF l b a
noncomputable def rb6o (l : List Watch) (b : List Znode) (a : List Znode) : List Blk := [(.arr 2 ((ro6o l b a).watches).length (gL (encWatch 1) ((ro6o l b a).watches)) tagS), (.arr 3 ((ro6o l b a).events).length (gL (encTEvent 1) ((ro6o l b a).events)) tagS)]
noncomputable def rs6o (l : List Watch) (b : List Znode) (a : List Znode) : V := .agg [.int .i64 ((ro6o l b a).code), .osl 0 ((ro6o l b a).watches).length, .osl 1 ((ro6o l b a).events).length]
noncomputable def sp6o : FSpec := fun args bin => match args, bin with
  | [a0, a1, a2], [] => some (VLe a0 (encL (encWatch 1) 1 (((decL decWatch) a0))) ∧ VLe a1 (encL (encZnode 1) 1 (((decL decZnode) a1))) ∧ VLe a2 (encL (encZnode 1) 1 (((decL decZnode) a2))) ∧ pr6o ((decL decWatch) a0) ((decL decZnode) a1) ((decL decZnode) a2), rs6o ((decL decWatch) a0) ((decL decZnode) a1) ((decL decZnode) a2), rb6o ((decL decWatch) a0) ((decL decZnode) a1) ((decL decZnode) a2))
  | _, _ => none
noncomputable def D6o : Nat → Option (Bool × FSpec) := lk [(10, (false, sp10)), (14, (false, sp14)), (15, (false, sp15o))]
theorem da6o : SoundAll Tryz.prog D6o := soundAll_cons so10 (soundAll_cons so14 (soundAll_cons so15o (soundAll_nil)))
noncomputable def cx6o (l : List Watch) (b : List Znode) (a : List Znode) : Cx := ⟨tt, D6o, Tryz.f6.ntmps, [0, 1, 2, 6, 7, 8, 9, 10, 14, 21], [], [], fun _ => none, [], noM, []⟩
noncomputable def k6o_0 (l : List Watch) (b : List Znode) (a : List Znode) : V := (V.agg [vi (WatchResult.code (ro6o l b a)), V.osl 0 (List.length (WatchResult.watches (ro6o l b a))), V.osl 1 (List.length (WatchResult.events (ro6o l b a)))])
noncomputable def k6o_1 (l : List Watch) (b : List Znode) (a : List Znode) : Nat := (List.length (Prod.fst (leftW (decL decZnode (encL (encZnode 1) 1 b)) (decL decZnode (encL (encZnode 1) 1 a)) (decL decWatch (encL (encWatch 1) 1 l)), evW (decL decZnode (encL (encZnode 1) 1 b)) (decL decZnode (encL (encZnode 1) 1 a)) (decL decWatch (encL (encWatch 1) 1 l)))))
noncomputable def k6o_2 (l : List Watch) (b : List Znode) (a : List Znode) : Nat := (List.length (Prod.snd (leftW (decL decZnode (encL (encZnode 1) 1 b)) (decL decZnode (encL (encZnode 1) 1 a)) (decL decWatch (encL (encWatch 1) 1 l)), evW (decL decZnode (encL (encZnode 1) 1 b)) (decL decZnode (encL (encZnode 1) 1 a)) (decL decWatch (encL (encWatch 1) 1 l)))))
noncomputable def k6o_3 (l : List Watch) (b : List Znode) (a : List Znode) : Blk := (Blk.arr 2 (List.length (WatchResult.watches (ro6o l b a))) (gL (encWatch 1) (WatchResult.watches (ro6o l b a))) 100)
noncomputable def k6o_4 (l : List Watch) (b : List Znode) (a : List Znode) : Blk := (Blk.arr 3 (List.length (WatchResult.events (ro6o l b a))) (gL (encTEvent 1) (WatchResult.events (ro6o l b a))) 100)
theorem bd6o (l : List Watch) (b : List Znode) (a : List Znode) (hpre : pr6o l b a) : bodyO (cx6o l b a) Tryz.f6 [(1, 2), (2, 3)] [encL (encWatch 1) 1 (l), encL (encZnode 1) 1 (b), encL (encZnode 1) 1 (a)] [] (fun rr bs => VLe rr (rs6o l b a) ∧ BinLe bs (rb6o l b a)) := by
  have key : (((VLe (encL (encWatch 1) 1 l) (encL (encWatch 1) 1 (decL decWatch (encL (encWatch 1) 1 l)))) ∧ (pr10 (decL decWatch (encL (encWatch 1) 1 l)))) ∧ ((((watchesF (decL decWatch (encL (encWatch 1) 1 l)) != (0 : Int)) = true) → ((VLe (V.agg [vi (watchesF (decL decWatch (encL (encWatch 1) 1 l))), V.osl 0 0, V.osl 1 0]) (k6o_0 l b a)) ∧ ((BLe (Blk.arr 2 0 (fun (x : Nat) ↦ V.undef) 100) (k6o_3 l b a)) ∧ ((BLe (Blk.arr 3 0 (fun (x : Nat) ↦ V.undef) 100) (k6o_4 l b a)) ∧ (True))))) ∧ (((watchesF (decL decWatch (encL (encWatch 1) 1 l)) != (0 : Int)) = false) → (((VLe (encL (encZnode 1) 1 b) (encL (encZnode 1) 1 (decL decZnode (encL (encZnode 1) 1 b)))) ∧ ((VLe (encL (encZnode 1) 1 a) (encL (encZnode 1) 1 (decL decZnode (encL (encZnode 1) 1 a)))) ∧ (pr14 (decL decZnode (encL (encZnode 1) 1 b)) (decL decZnode (encL (encZnode 1) 1 a))))) ∧ (((((if treeF (decL decZnode (encL (encZnode 1) 1 b)) ≠ (0 : Int) then treeF (decL decZnode (encL (encZnode 1) 1 b)) else treeF (decL decZnode (encL (encZnode 1) 1 a))) != (0 : Int)) = true) → ((VLe (V.agg [vi (if treeF (decL decZnode (encL (encZnode 1) 1 b)) ≠ (0 : Int) then treeF (decL decZnode (encL (encZnode 1) 1 b)) else treeF (decL decZnode (encL (encZnode 1) 1 a))), V.osl 0 0, V.osl 1 0]) (k6o_0 l b a)) ∧ ((BLe (Blk.arr 2 0 (fun (x : Nat) ↦ V.undef) 100) (k6o_3 l b a)) ∧ ((BLe (Blk.arr 3 0 (fun (x : Nat) ↦ V.undef) 100) (k6o_4 l b a)) ∧ (True))))) ∧ ((((if treeF (decL decZnode (encL (encZnode 1) 1 b)) ≠ (0 : Int) then treeF (decL decZnode (encL (encZnode 1) 1 b)) else treeF (decL decZnode (encL (encZnode 1) 1 a))) != (0 : Int)) = false) → (((VLe (encL (encWatch 1) 1 l) (encL (encWatch 1) 1 (decL decWatch (encL (encWatch 1) 1 l)))) ∧ ((VLe (encL (encZnode 1) 1 b) (encL (encZnode 1) 1 (decL decZnode (encL (encZnode 1) 1 b)))) ∧ ((VLe (encL (encZnode 1) 1 a) (encL (encZnode 1) 1 (decL decZnode (encL (encZnode 1) 1 a)))) ∧ (pr15o (decL decWatch (encL (encWatch 1) 1 l)) (decL decZnode (encL (encZnode 1) 1 b)) (decL decZnode (encL (encZnode 1) 1 a)))))) ∧ ((VLe (V.agg [vi (0 : Int), V.osl 0 (k6o_1 l b a), V.osl 1 (k6o_2 l b a)]) (k6o_0 l b a)) ∧ ((BLe (Blk.arr 2 (k6o_1 l b a) (gL (encWatch 1) (Prod.fst (leftW (decL decZnode (encL (encZnode 1) 1 b)) (decL decZnode (encL (encZnode 1) 1 a)) (decL decWatch (encL (encWatch 1) 1 l)), evW (decL decZnode (encL (encZnode 1) 1 b)) (decL decZnode (encL (encZnode 1) 1 a)) (decL decWatch (encL (encWatch 1) 1 l))))) 100) (k6o_3 l b a)) ∧ ((BLe (Blk.arr 3 (k6o_2 l b a) (gL (encTEvent 1) (Prod.snd (leftW (decL decZnode (encL (encZnode 1) 1 b)) (decL decZnode (encL (encZnode 1) 1 a)) (decL decWatch (encL (encWatch 1) 1 l)), evW (decL decZnode (encL (encZnode 1) 1 b)) (decL decZnode (encL (encZnode 1) 1 a)) (decL decWatch (encL (encWatch 1) 1 l))))) 100) (k6o_4 l b a)) ∧ (True))))))))))) := by
    delta k6o_4; delta k6o_3; delta k6o_2; delta k6o_1; delta k6o_0; delta vi
    obtain ⟨hl, hb, ha⟩ := hpre
    have ml : l.length ≤ maxLen := by unfold maxLen; omega
    have mb : b.length ≤ maxLen := by unfold maxLen; omega
    have ma : a.length ≤ maxLen := by unfold maxLen; omega
    simp only [decL_Znode, decL_Watch, ro6o, ro15o, fireF]
    refine ⟨⟨VLe.refl _, ml⟩, fun h => ?_, fun h => ⟨⟨VLe.refl _, VLe.refl _, mb, ma⟩, fun h2 => ?_, fun h2 => ?_⟩⟩
    · rw [fi_e1 (nz h)]
      exact ⟨VLe.refl _, ble_nil _, ble_nil _, trivial⟩
    · by_cases c : treeF b = 0
      · rw [if_neg (not_not_intro c)] at h2 ⊢
        rw [fi_e3 (ez h) c (nz h2)]
        exact ⟨VLe.refl _, ble_nil _, ble_nil _, trivial⟩
      · rw [if_pos c, fi_e2 (ez h) c]
        exact ⟨VLe.refl _, ble_nil _, ble_nil _, trivial⟩
    · have c : treeF b = 0 := Classical.byContradiction fun c => by rw [if_pos c] at h2; exact c (ez h2)
      rw [if_neg (not_not_intro c)] at h2
      have tb := tree_ok c
      have ta := tree_ok (ez h2)
      rw [fi_e4 (ez h) c (ez h2)]
      exact ⟨⟨VLe.refl _, VLe.refl _, VLe.refl _, hl, rising_scan tb.2.1, rising_scan ta.2.1, by omega, by omega⟩, VLe.refl _, BLe.refl _, BLe.refl _, trivial⟩
  exact Eq.mp (by kernel_rfl) key
theorem so6o : Sound Tryz.prog 6 sp6o := by
  refine sound_of_bodyO hmix (tpl := [(1, 2), (2, 3)]) Tryz.func6 rfl (by kernel_rfl) fun args bin ob r bout hDe hob => ?_
  unfold sp6o at hDe
  split at hDe
  · rename_i a0 a1 a2
    cases hDe
    exact ⟨Nat.le_of_ble_eq_true (by kernel_rfl), cx6o ((decL decWatch) a0) ((decL decZnode) a1) ((decL decZnode) a2), Eq.mp (by kernel_rfl) htt, Eq.mp (by kernel_rfl) da6o, Eq.mp (by kernel_rfl) (noM_sound (P := Tryz.prog)), by kernel_rfl, [encL (encWatch 1) 1 (((decL decWatch) a0)), encL (encZnode 1) 1 (((decL decZnode) a1)), encL (encZnode 1) 1 (((decL decZnode) a2))], [], args_of_vles (⟨hob.1, hob.2.1, hob.2.2.1, trivial⟩), trivial, Eq.mp (by kernel_rfl) (bd6o ((decL decWatch) a0) ((decL decZnode) a1) ((decL decZnode) a2) (hob.2.2.2))⟩
  · cases hDe

/-! ### spec.FireWatches%o -/
def pr7o (l : List Watch) (b : List Znode) (a : List Znode) : Prop := l.length ≤ 1048576 ∧ b.length ≤ 1048576 ∧ a.length ≤ 1048576
noncomputable def ro7o (l : List Watch) (b : List Znode) (a : List Znode) : WatchResult := fireWF l b a
noncomputable def rb7o (l : List Watch) (b : List Znode) (a : List Znode) : List Blk := [(.arr 2 ((ro7o l b a).watches).length (gL (encWatch 1) ((ro7o l b a).watches)) tagS), (.arr 3 ((ro7o l b a).events).length (gL (encTEvent 1) ((ro7o l b a).events)) tagS)]
noncomputable def rs7o (l : List Watch) (b : List Znode) (a : List Znode) : V := .agg [.int .i64 ((ro7o l b a).code), .osl 0 ((ro7o l b a).watches).length, .osl 1 ((ro7o l b a).events).length]
noncomputable def sp7o : FSpec := fun args bin => match args, bin with
  | [a0, a1, a2], [] => some (VLe a0 (encL (encWatch 1) 1 (((decL decWatch) a0))) ∧ VLe a1 (encL (encZnode 1) 1 (((decL decZnode) a1))) ∧ VLe a2 (encL (encZnode 1) 1 (((decL decZnode) a2))) ∧ pr7o ((decL decWatch) a0) ((decL decZnode) a1) ((decL decZnode) a2), rs7o ((decL decWatch) a0) ((decL decZnode) a1) ((decL decZnode) a2), rb7o ((decL decWatch) a0) ((decL decZnode) a1) ((decL decZnode) a2))
  | _, _ => none
noncomputable def D7o : Nat → Option (Bool × FSpec) := lk [(16, (false, sp16)), (17, (false, sp17)), (18, (false, sp18o))]
theorem da7o : SoundAll Tryz.prog D7o := soundAll_cons so16 (soundAll_cons so17 (soundAll_cons so18o (soundAll_nil)))
noncomputable def cx7o (l : List Watch) (b : List Znode) (a : List Znode) : Cx := ⟨tt, D7o, Tryz.f7.ntmps, [0, 1, 2, 6, 7, 8, 9, 10, 11, 15, 21, 27], [], [], fun _ => none, [], noM, []⟩
noncomputable def k7o_0 (l : List Watch) (b : List Znode) (a : List Znode) : V := (V.agg [vi (WatchResult.code (ro7o l b a)), V.osl 0 (List.length (WatchResult.watches (ro7o l b a))), V.osl 1 (List.length (WatchResult.events (ro7o l b a)))])
noncomputable def k7o_1 (l : List Watch) (b : List Znode) (a : List Znode) : Blk := (Blk.arr 2 (List.length (WatchResult.watches (ro7o l b a))) (gL (encWatch 1) (WatchResult.watches (ro7o l b a))) 100)
noncomputable def k7o_2 (l : List Watch) (b : List Znode) (a : List Znode) : Blk := (Blk.arr 3 (List.length (WatchResult.events (ro7o l b a))) (gL (encTEvent 1) (WatchResult.events (ro7o l b a))) 100)
noncomputable def k7o_3 (l : List Watch) (b : List Znode) (a : List Znode) : Nat := (List.length (Prod.fst (leftW (decL decZnode (encL (encZnode 1) 1 b)) (decL decZnode (encL (encZnode 1) 1 a)) (decL decWatch (encL (encWatch 1) 1 l)), evW (decL decZnode (encL (encZnode 1) 1 b)) (decL decZnode (encL (encZnode 1) 1 a)) (decL decWatch (encL (encWatch 1) 1 l)))))
noncomputable def k7o_4 (l : List Watch) (b : List Znode) (a : List Znode) : Nat := (List.length (Prod.snd (leftW (decL decZnode (encL (encZnode 1) 1 b)) (decL decZnode (encL (encZnode 1) 1 a)) (decL decWatch (encL (encWatch 1) 1 l)), evW (decL decZnode (encL (encZnode 1) 1 b)) (decL decZnode (encL (encZnode 1) 1 a)) (decL decWatch (encL (encWatch 1) 1 l)))))
theorem bd7o (l : List Watch) (b : List Znode) (a : List Znode) (hpre : pr7o l b a) : bodyO (cx7o l b a) Tryz.f7 [(1, 2), (2, 3)] [encL (encWatch 1) 1 (l), encL (encZnode 1) 1 (b), encL (encZnode 1) 1 (a)] [] (fun rr bs => VLe rr (rs7o l b a) ∧ BinLe bs (rb7o l b a)) := by
  have key : (((VLe (encL (encWatch 1) 1 l) (encL (encWatch 1) 1 (decL decWatch (encL (encWatch 1) 1 l)))) ∧ (pr16 (decL decWatch (encL (encWatch 1) 1 l)))) ∧ ((((watchesF (decL decWatch (encL (encWatch 1) 1 l)) != (0 : Int)) = true) → ((VLe (V.agg [vi (watchesF (decL decWatch (encL (encWatch 1) 1 l))), V.osl 0 0, V.osl 1 0]) (k7o_0 l b a)) ∧ ((BLe (Blk.arr 2 0 (fun (x : Nat) ↦ V.undef) 100) (k7o_1 l b a)) ∧ ((BLe (Blk.arr 3 0 (fun (x : Nat) ↦ V.undef) 100) (k7o_2 l b a)) ∧ (True))))) ∧ (((watchesF (decL decWatch (encL (encWatch 1) 1 l)) != (0 : Int)) = false) → (((VLe (encL (encZnode 1) 1 b) (encL (encZnode 1) 1 (decL decZnode (encL (encZnode 1) 1 b)))) ∧ (pr17 (decL decZnode (encL (encZnode 1) 1 b)))) ∧ ((((treeF (decL decZnode (encL (encZnode 1) 1 b)) != (0 : Int)) = true) → ((VLe (V.agg [vi (treeF (decL decZnode (encL (encZnode 1) 1 b))), V.osl 0 0, V.osl 1 0]) (k7o_0 l b a)) ∧ ((BLe (Blk.arr 2 0 (fun (x : Nat) ↦ V.undef) 100) (k7o_1 l b a)) ∧ ((BLe (Blk.arr 3 0 (fun (x : Nat) ↦ V.undef) 100) (k7o_2 l b a)) ∧ (True))))) ∧ (((treeF (decL decZnode (encL (encZnode 1) 1 b)) != (0 : Int)) = false) → (((VLe (encL (encZnode 1) 1 a) (encL (encZnode 1) 1 (decL decZnode (encL (encZnode 1) 1 a)))) ∧ (pr17 (decL decZnode (encL (encZnode 1) 1 a)))) ∧ ((((treeF (decL decZnode (encL (encZnode 1) 1 a)) != (0 : Int)) = true) → ((VLe (V.agg [vi (treeF (decL decZnode (encL (encZnode 1) 1 a))), V.osl 0 0, V.osl 1 0]) (k7o_0 l b a)) ∧ ((BLe (Blk.arr 2 0 (fun (x : Nat) ↦ V.undef) 100) (k7o_1 l b a)) ∧ ((BLe (Blk.arr 3 0 (fun (x : Nat) ↦ V.undef) 100) (k7o_2 l b a)) ∧ (True))))) ∧ (((treeF (decL decZnode (encL (encZnode 1) 1 a)) != (0 : Int)) = false) → (((VLe (encL (encWatch 1) 1 l) (encL (encWatch 1) 1 (decL decWatch (encL (encWatch 1) 1 l)))) ∧ ((VLe (encL (encZnode 1) 1 b) (encL (encZnode 1) 1 (decL decZnode (encL (encZnode 1) 1 b)))) ∧ ((VLe (encL (encZnode 1) 1 a) (encL (encZnode 1) 1 (decL decZnode (encL (encZnode 1) 1 a)))) ∧ (pr18o (decL decWatch (encL (encWatch 1) 1 l)) (decL decZnode (encL (encZnode 1) 1 b)) (decL decZnode (encL (encZnode 1) 1 a)))))) ∧ ((VLe (V.agg [vi (0 : Int), V.osl 0 (k7o_3 l b a), V.osl 1 (k7o_4 l b a)]) (k7o_0 l b a)) ∧ ((BLe (Blk.arr 2 (k7o_3 l b a) (gL (encWatch 1) (Prod.fst (leftW (decL decZnode (encL (encZnode 1) 1 b)) (decL decZnode (encL (encZnode 1) 1 a)) (decL decWatch (encL (encWatch 1) 1 l)), evW (decL decZnode (encL (encZnode 1) 1 b)) (decL decZnode (encL (encZnode 1) 1 a)) (decL decWatch (encL (encWatch 1) 1 l))))) 100) (k7o_1 l b a)) ∧ ((BLe (Blk.arr 3 (k7o_4 l b a) (gL (encTEvent 1) (Prod.snd (leftW (decL decZnode (encL (encZnode 1) 1 b)) (decL decZnode (encL (encZnode 1) 1 a)) (decL decWatch (encL (encWatch 1) 1 l)), evW (decL decZnode (encL (encZnode 1) 1 b)) (decL decZnode (encL (encZnode 1) 1 a)) (decL decWatch (encL (encWatch 1) 1 l))))) 100) (k7o_2 l b a)) ∧ (True)))))))))))))) := by
    delta k7o_4; delta k7o_3; delta k7o_2; delta k7o_1; delta k7o_0; delta vi
    obtain ⟨hl, hb, ha⟩ := hpre
    have ml : l.length ≤ maxLen := by unfold maxLen; omega
    have mb : b.length ≤ maxLen := by unfold maxLen; omega
    have ma : a.length ≤ maxLen := by unfold maxLen; omega
    simp only [decL_Znode, decL_Watch, ro7o, ro18o, fireF]
    refine ⟨⟨VLe.refl _, ml⟩, fun h => ?_, fun h => ⟨⟨VLe.refl _, mb⟩, fun h2 => ?_, fun h2 => ⟨⟨VLe.refl _, ma⟩, fun h3 => ?_, fun h3 => ?_⟩⟩⟩
    · rw [fi_e1 (nz h)]
      exact ⟨VLe.refl _, ble_nil _, ble_nil _, trivial⟩
    · rw [fi_e2 (ez h) (nz h2)]
      exact ⟨VLe.refl _, ble_nil _, ble_nil _, trivial⟩
    · rw [fi_e3 (ez h) (ez h2) (nz h3)]
      exact ⟨VLe.refl _, ble_nil _, ble_nil _, trivial⟩
    · have tb := tree_ok (ez h2)
      have ta := tree_ok (ez h3)
      rw [fi_e4 (ez h) (ez h2) (ez h3)]
      exact ⟨⟨VLe.refl _, VLe.refl _, VLe.refl _, hl, rising_scan tb.2.1, rising_scan ta.2.1, by omega, by omega⟩, VLe.refl _, BLe.refl _, BLe.refl _, trivial⟩
  exact Eq.mp (by kernel_rfl) key
theorem so7o : Sound Tryz.prog 7 sp7o := by
  refine sound_of_bodyO hmix (tpl := [(1, 2), (2, 3)]) Tryz.func7 rfl (by kernel_rfl) fun args bin ob r bout hDe hob => ?_
  unfold sp7o at hDe
  split at hDe
  · rename_i a0 a1 a2
    cases hDe
    exact ⟨Nat.le_of_ble_eq_true (by kernel_rfl), cx7o ((decL decWatch) a0) ((decL decZnode) a1) ((decL decZnode) a2), Eq.mp (by kernel_rfl) htt, Eq.mp (by kernel_rfl) da7o, Eq.mp (by kernel_rfl) (noM_sound (P := Tryz.prog)), by kernel_rfl, [encL (encWatch 1) 1 (((decL decWatch) a0)), encL (encZnode 1) 1 (((decL decZnode) a1)), encL (encZnode 1) 1 (((decL decZnode) a2))], [], args_of_vles (⟨hob.1, hob.2.1, hob.2.2.1, trivial⟩), trivial, Eq.mp (by kernel_rfl) (bd7o ((decL decWatch) a0) ((decL decZnode) a1) ((decL decZnode) a2) (hob.2.2.2))⟩
  · cases hDe

end Go.Av
