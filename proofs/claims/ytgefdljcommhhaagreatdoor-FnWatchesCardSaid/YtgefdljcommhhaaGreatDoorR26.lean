/- The law on watches: who watches is told just of what turned, and once. -/
import Derived.Test.YtgefdljcommhhaaGreatDoorR25
import Derived.Test.YtgefdljcommhhaaGreatDoorM3
import Derived.Test.YtgefdljcommhhaaGreatDoorV1
namespace Go.Av
open Go.Proofs
set_option maxRecDepth 100000
set_option maxHeartbeats 4000000
set_option linter.unusedVariables false
set_option linter.unusedSimpArgs false

theorem okX_code {code : List Int} (h1 : code.length ≤ 1048576) (h2 : ∀ x ∈ code, (Lit.int .u8 x).wf = true) : okX code 0 := by
  refine ⟨h1, fun x hx => ?_, by omega, by omega⟩
  have := h2 x hx
  simp [Lit.wf, IntKind.min, IntKind.max, IntKind.bits, IntKind.signed] at this
  omega
theorem scanE_none {e : Nat → Int} : ∀ {n : Nat}, (∀ i, i < n → e i = 0) → scanE e n = 0
  | 0, _ => rfl
  | n + 1, h => scanE_next (scanE_none fun i hi => h i (by omega)) (h n (by omega))
theorem watch_facts {l : List Watch} (h : watchesF l = 0) : l.length ≤ 20 ∧ (∀ w ∈ l, watchF w = 0) ∧ l.Nodup := by
  have h20 := watches_len h
  unfold watchesF at h
  rw [if_neg (by omega)] at h
  have hs := scanE_all h
  have h1 : ∀ i, i < l.length → watchF (l.getD i default) = 0 ∧ ¬ l.getD i default ∈ l.take i := fun i hi => by
    have := hs i hi
    unfold watchE at this
    split at this
    · rename_i c; exact absurd this c
    · rename_i c
      refine ⟨Classical.not_not.1 c, fun g => ?_⟩
      rw [if_pos g] at this
      cases this
  refine ⟨h20, fun w hw => ?_, ?_⟩
  · obtain ⟨i, hi, rfl⟩ := List.getElem_of_mem hw
    have := (h1 i hi).1
    simpa [hi] using this
  · refine List.pairwise_iff_getElem.2 fun i j hi hj hij e => ?_
    exact (h1 j hj).2 (mem_take.2 ⟨i, hij, hi, by simp [hi, hj, e]⟩)
theorem watch_of {l : List Watch} (h1 : l.length ≤ 20) (h2 : ∀ w ∈ l, watchF w = 0) (h3 : l.Nodup) : watchesF l = 0 := by
  unfold watchesF
  rw [if_neg (by omega)]
  refine scanE_none fun i hi => ?_
  have hm : l.getD i default ∈ l := by simp [hi]
  unfold watchE
  rw [if_neg (not_not_intro (h2 _ hm)), if_neg]
  intro g
  obtain ⟨j, hj, hl, e⟩ := mem_take.1 g
  have := List.pairwise_iff_getElem.1 h3 j i hl hi hj
  simp [hi, hl] at e
  exact this e
theorem left_ok {l : List Watch} (b a : List Znode) (h : watchesF l = 0) : watchesF (leftW b a l) = 0 := by
  obtain ⟨h1, h2, h3⟩ := watch_facts h
  refine watch_of (Nat.le_trans (leftW_len b a l) h1) (fun w hw => h2 w (List.mem_filter.1 hw).1) ?_
  exact List.Pairwise.filter _ h3
theorem left_ev (b a : List Znode) : ∀ l : List Watch, (leftW b a l).length + (evW b a l).length = l.length
  | [] => rfl
  | w :: l => by
    have h := left_ev b a l
    unfold leftW evW at *
    by_cases c : changeF b a w.path = 0
    · simp only [List.filter_cons, decide_eq_true c, if_true, Bool.not_true, Bool.false_eq_true, if_false, List.length_cons]
      omega
    · simp only [List.filter_cons, decide_eq_false c, if_true, Bool.not_false, Bool.false_eq_true, if_false, List.length_cons, List.map_cons]
      omega
theorem left_no (b a : List Znode) (l : List Watch) : evW b a (leftW b a l) = [] := by
  unfold evW leftW
  rw [List.map_eq_nil_iff, List.filter_eq_nil_iff]
  intro w hw
  have := (List.mem_filter.1 hw).2
  simpa using this
theorem ev_at {b a : List Znode} {l : List Watch} {i : Nat} (h : i < l.length) (h2 : ¬ changeF b a (l.getD i default).path = 0) :
    (evW b a (l.take i)).length < (evW b a l).length ∧ (evW b a l).getD (evW b a (l.take i)).length default = ⟨(l.getD i default).client, (l.getD i default).path, changeF b a (l.getD i default).path⟩ := by
  have ap : ∀ x y : List Watch, evW b a (x ++ y) = evW b a x ++ evW b a y := fun x y => by
    unfold evW
    rw [List.filter_append, List.map_append]
  have e : evW b a l = evW b a (l.take i) ++ ⟨(l.getD i default).client, (l.getD i default).path, changeF b a (l.getD i default).path⟩ :: evW b a (l.drop (i + 1)) := by
    have e1 : evW b a l = evW b a (l.take (i + 1) ++ l.drop (i + 1)) := by rw [List.take_append_drop]
    rw [e1, ap, evW_hit h h2, List.append_assoc]
    rfl
  generalize (l.getD i default).client = c at *
  generalize (l.getD i default).path = p at *
  rw [e]
  generalize evW b a (l.take i) = x
  simp
theorem change_kind {b a : List Znode} {t : ByteArray} (h : ¬ changeF b a t = 0) : inR (changeF b a t) 1 3 := by
  unfold changeF at *
  unfold inR
  split
  · omega
  split
  · omega
  split
  · omega
  · rename_i h1 h2 h3
    rw [if_neg h1, if_neg h2, if_neg h3] at h
    exact absurd rfl h
theorem watch_is {w : Watch} (h : watchF w = 0) : inR w.client 1 9 ∧ pathF w.path = 0 := by
  unfold watchF at h
  split at h
  · cases h
  · rename_i c
    exact ⟨Classical.not_not.1 c, h⟩
theorem event_ok {w : Watch} {b a : List Znode} (h : watchF w = 0) (h2 : ¬ changeF b a w.path = 0) : (eventF ⟨w.client, w.path, changeF b a w.path⟩).code = 0 := by
  obtain ⟨h3, h4⟩ := watch_is h
  have h5 := change_kind h2
  unfold eventF
  rw [if_neg (not_not_intro h3), if_neg (not_not_intro h4), if_neg (not_not_intro h5)]
theorem fire_zero {l : List Watch} {b a : List Znode} (h : (fireWF l b a).code = 0) : watchesF l = 0 ∧ treeF b = 0 ∧ treeF a = 0 := by
  by_cases h1 : watchesF l = 0
  · by_cases h2 : treeF b = 0
    · by_cases h3 : treeF a = 0
      · exact ⟨h1, h2, h3⟩
      · rw [fi_e3 h1 h2 h3] at h
        exact absurd h h3
    · rw [fi_e2 h1 h2] at h
      exact absurd h h2
  · rw [fi_e1 h1] at h
    exact absurd h h1

/-! ### laws.FnWatches -/
def pr3 (code : List Int) : Prop := code.length ≤ maxLen ∧ ∀ x ∈ code, (Lit.int .u8 x).wf = true
noncomputable def rs3 (code : List Int) : V := .bool (true)
def Q3 (vs : List V) : Prop := ∃ (code : List Int), ArgsLe vs [encL encY 1 (code)] ∧ pr3 code
noncomputable def in3_9 (code : List Int) : LoopInv :=
  ⟨Nat, fun i => ⟨[(3, .osl (canonT 3) (fiW code).length), (4, .osl (canonT 4) (fiB code).length), (5, .osl (canonT 5) (fiA code).length), (6, .oref 448 0 0), (7, .int .i64 (evW (fiB code) (fiA code) ((fiW code).take i)).length), (8, .int .i64 i)], [(canonT 3, .arr 2 (fiW code).length (gL (encWatch 1) (fiW code)) tagS), (canonT 4, .arr 5 (fiB code).length (gL (encZnode 1) (fiB code)) tagS), (canonT 5, .arr 5 (fiA code).length (gL (encZnode 1) (fiA code)) tagS), (448, .box [.int .i64 0, .osl (canonB 448 1) (leftW (fiB code) (fiA code) (fiW code)).length, .osl (canonB 448 2) (evW (fiB code) (fiA code) (fiW code)).length]), (canonB 448 1, .arr 2 (leftW (fiB code) (fiA code) (fiW code)).length (gL (encWatch 1) (leftW (fiB code) (fiA code) (fiW code))) tagS), (canonB 448 2, .arr 3 (evW (fiB code) (fiA code) (fiW code)).length (gL (encTEvent 1) (evW (fiB code) (fiA code) (fiW code))) tagS)]⟩,
    fun i => i ≤ (fiW code).length, fun i => (fiW code).length - i⟩
noncomputable def iv3 (code : List Int) : Nat → Option LoopInv := fun rg_ => match rg_ with
  | 9 => some (in3_9 code)
  | _ => none
noncomputable def D3 : Nat → Option (Bool × FSpec) := lk [(4, (false, sp4)), (5, (false, sp5)), (6, (false, sp6o)), (7, (false, sp7o)), (8, (false, sp8)), (9, (false, sp9)), (10, (false, sp10))]
theorem da3 : SoundAll Tryz.prog D3 := soundAll_cons so4 (soundAll_cons so5 (soundAll_cons so6o (soundAll_cons so7o (soundAll_cons so8 (soundAll_cons so9 (soundAll_cons so10 (soundAll_nil)))))))
noncomputable def cx3 (code : List Int) : Cx := ⟨tt, D3, Tryz.f3.ntmps, [0, 2, 3, 4, 5, 6, 7, 8, 9, 10, 12, 25, 37, 50, 53, 107], [(9, ⟨[(3, some 2), (4, some 5), (5, some 5), (6, none), (7, none), (8, none)], [(448, [(1, 2), (2, 3)])]⟩)], [], iv3 code, [], noM, []⟩
noncomputable def k3_0 (code : List Int) (x : Nat) : Nat := (List.length (evW (fiB code) (fiA code) (List.take x (fiW code))))
noncomputable def k3_1 (code : List Int) : List (Nat × Blk) := [(32000256, Blk.arr 2 (List.length (fiW code)) (gL (encWatch 1) (fiW code)) 100), (32000320, Blk.arr 5 (List.length (fiB code)) (gL (encZnode 1) (fiB code)) 100), (32000384, Blk.arr 5 (List.length (fiA code)) (gL (encZnode 1) (fiA code)) 100), (448, Blk.box [vi (0 : Int), V.osl 65835072 (List.length (leftW (fiB code) (fiA code) (fiW code))), V.osl 65835136 (List.length (evW (fiB code) (fiA code) (fiW code)))]), (65835072, Blk.arr 2 (List.length (leftW (fiB code) (fiA code) (fiW code))) (gL (encWatch 1) (leftW (fiB code) (fiA code) (fiW code))) 100), (65835136, Blk.arr 3 (List.length (evW (fiB code) (fiA code) (fiW code))) (gL (encTEvent 1) (evW (fiB code) (fiA code) (fiW code))) 100)]
noncomputable def k3_2 (code : List Int) : V := (encL (encWatch 1) 1 (Prod.fst (fiW (decL decY (encL encY 1 code)), fiB (decL decY (encL encY 1 code)), fiA (decL decY (encL encY 1 code)))))
noncomputable def k3_3 (code : List Int) : V := (encL (encZnode 1) 1 (Prod.fst (fiB (decL decY (encL encY 1 code)), fiA (decL decY (encL encY 1 code)))))
noncomputable def k3_4 (code : List Int) : V := (encL (encZnode 1) 1 (Prod.snd (fiB (decL decY (encL encY 1 code)), fiA (decL decY (encL encY 1 code)))))
noncomputable def k3_5 (code : List Int) : Nat := (List.length (evW (fiB code) (fiA code) (fiW code)))
noncomputable def k3_6 (code : List Int) : V := (encL (encWatch 1) 1 (leftW (fiB code) (fiA code) (fiW code)))
noncomputable def k3_7 (code : List Int) (x : Nat) : V := (encTEvent 1 (List.getD (evW (fiB code) (fiA code) (fiW code)) (Int.toNat (↑(k3_0 code x) : Int)) default))
noncomputable def k3_8 (code : List Int) (y : Nat) : AS := (AS.mk [(3, V.osl 32000256 (List.length (fiW code))), (4, V.osl 32000320 (List.length (fiB code))), (5, V.osl 32000384 (List.length (fiA code))), (6, V.oref 448 0 0), (7, vi (↑(List.length (evW (fiB code) (fiA code) (List.take y (fiW code)))) : Int)), (8, vi (↑y : Int))] (k3_1 code))
noncomputable def k3_9 (code : List Int) : Nat := (List.length (Prod.fst (fiW (decL decY (encL encY 1 code)), fiB (decL decY (encL encY 1 code)), fiA (decL decY (encL encY 1 code)))))
noncomputable def k3_10 (code : List Int) : Nat := (List.length (WatchResult.watches (ro6o (decL decWatch (k3_2 code)) (decL decZnode (k3_3 code)) (decL decZnode (k3_4 code)))))
noncomputable def k3_11 (code : List Int) : Nat := (List.length (WatchResult.events (ro6o (decL decWatch (k3_2 code)) (decL decZnode (k3_3 code)) (decL decZnode (k3_4 code)))))
theorem bd3 (code : List Int) (hpre : pr3 code) : bodyP (cx3 code) Tryz.f3 0 [encL encY 1 (code)] (fun rr => VLe rr (rs3 code)) := by
  have key : (((VLe (encL encY 1 code) (encL encY 1 (decL decY (encL encY 1 code)))) ∧ (pr4 (decL decY (encL encY 1 code)))) ∧ (((decide (1048576 < List.length (decL decY (encL encY 1 code))) = true) → (VLe (V.bool true) (V.bool true))) ∧ ((decide (1048576 < List.length (decL decY (encL encY 1 code))) = false) → (((VLe (encL encY 1 code) (encL encY 1 (decL decY (encL encY 1 code)))) ∧ (pr5 (decL decY (encL encY 1 code)))) ∧ (((VLe (k3_2 code) (encL (encWatch 1) 1 (decL decWatch (k3_2 code)))) ∧ ((VLe (k3_3 code) (encL (encZnode 1) 1 (decL decZnode (k3_3 code)))) ∧ ((VLe (k3_4 code) (encL (encZnode 1) 1 (decL decZnode (k3_4 code)))) ∧ (pr6o (decL decWatch (k3_2 code)) (decL decZnode (k3_3 code)) (decL decZnode (k3_4 code)))))) ∧ ((((WatchResult.code (ro6o (decL decWatch (k3_2 code)) (decL decZnode (k3_3 code)) (decL decZnode (k3_4 code))) != (0 : Int)) = true) → (((VLe (k3_2 code) (encL (encWatch 1) 1 (decL decWatch (k3_2 code)))) ∧ ((VLe (k3_3 code) (encL (encZnode 1) 1 (decL decZnode (k3_3 code)))) ∧ ((VLe (k3_4 code) (encL (encZnode 1) 1 (decL decZnode (k3_4 code)))) ∧ (pr7o (decL decWatch (k3_2 code)) (decL decZnode (k3_3 code)) (decL decZnode (k3_4 code)))))) ∧ (VLe (V.bool (WatchResult.code (ro7o (decL decWatch (k3_2 code)) (decL decZnode (k3_3 code)) (decL decZnode (k3_4 code))) == WatchResult.code (ro6o (decL decWatch (k3_2 code)) (decL decZnode (k3_3 code)) (decL decZnode (k3_4 code))))) (V.bool true)))) ∧ (((WatchResult.code (ro6o (decL decWatch (k3_2 code)) (decL decZnode (k3_3 code)) (decL decZnode (k3_4 code))) != (0 : Int)) = false) → ((∃ x : Nat, ((SLe (AS.mk [(3, V.osl 32000256 (k3_9 code)), (4, V.osl 32000320 (List.length (Prod.fst (fiB (decL decY (encL encY 1 code)), fiA (decL decY (encL encY 1 code)))))), (5, V.osl 32000384 (List.length (Prod.snd (fiB (decL decY (encL encY 1 code)), fiA (decL decY (encL encY 1 code)))))), (6, V.oref 448 0 0), (7, vi (0 : Int)), (8, vi (0 : Int))] [(32000256, Blk.arr 2 (k3_9 code) (gL (encWatch 1) (Prod.fst (fiW (decL decY (encL encY 1 code)), fiB (decL decY (encL encY 1 code)), fiA (decL decY (encL encY 1 code))))) 100), (32000320, Blk.arr 5 (List.length (Prod.fst (fiB (decL decY (encL encY 1 code)), fiA (decL decY (encL encY 1 code))))) (gL (encZnode 1) (Prod.fst (fiB (decL decY (encL encY 1 code)), fiA (decL decY (encL encY 1 code))))) 100), (32000384, Blk.arr 5 (List.length (Prod.snd (fiB (decL decY (encL encY 1 code)), fiA (decL decY (encL encY 1 code))))) (gL (encZnode 1) (Prod.snd (fiB (decL decY (encL encY 1 code)), fiA (decL decY (encL encY 1 code))))) 100), (448, Blk.box [vi (WatchResult.code (ro6o (decL decWatch (k3_2 code)) (decL decZnode (k3_3 code)) (decL decZnode (k3_4 code)))), V.osl 65835072 (k3_10 code), V.osl 65835136 (k3_11 code)]), (65835072, Blk.arr 2 (k3_10 code) (gL (encWatch 1) (WatchResult.watches (ro6o (decL decWatch (k3_2 code)) (decL decZnode (k3_3 code)) (decL decZnode (k3_4 code))))) 100), (65835136, Blk.arr 3 (k3_11 code) (gL (encTEvent 1) (WatchResult.events (ro6o (decL decWatch (k3_2 code)) (decL decZnode (k3_3 code)) (decL decZnode (k3_4 code))))) 100)]) (AS.mk [(3, V.osl 32000256 (List.length (fiW code))), (4, V.osl 32000320 (List.length (fiB code))), (5, V.osl 32000384 (List.length (fiA code))), (6, V.oref 448 0 0), (7, vi (↑(k3_0 code x) : Int)), (8, vi (↑x : Int))] (k3_1 code))) ∧ (x ≤ List.length (fiW code)))) ∧ (∀ x : Nat, ((x ≤ List.length (fiW code)) → (((decide ((↑x : Int) < (↑(List.length (fiW code)) : Int)) = true) → ((((0 : Int) ≤ (↑x : Int)) ∧ ((↑x : Int) < (↑(List.length (fiW code)) : Int))) ∧ ((Int.toNat (↑x : Int) < List.length (fiW code)) ∧ (((VLe (encL (encZnode 1) 1 (fiB code)) (encL (encZnode 1) 1 (decL decZnode (encL (encZnode 1) 1 (fiB code))))) ∧ ((VLe (encL (encZnode 1) 1 (fiA code)) (encL (encZnode 1) 1 (decL decZnode (encL (encZnode 1) 1 (fiA code))))) ∧ (pr8 (decL decZnode (encL (encZnode 1) 1 (fiB code))) (decL decZnode (encL (encZnode 1) 1 (fiA code))) (Watch.path (List.getD (fiW code) (Int.toNat (↑x : Int)) default))))) ∧ ((((IntResult.code (changeOfF (decL decZnode (encL (encZnode 1) 1 (fiB code))) (decL decZnode (encL (encZnode 1) 1 (fiA code))) (Watch.path (List.getD (fiW code) (Int.toNat (↑x : Int)) default))) != (0 : Int)) = true) → (VLe (V.bool false) (V.bool true))) ∧ (((IntResult.code (changeOfF (decL decZnode (encL (encZnode 1) 1 (fiB code))) (decL decZnode (encL (encZnode 1) 1 (fiA code))) (Watch.path (List.getD (fiW code) (Int.toNat (↑x : Int)) default))) != (0 : Int)) = false) → ((((IntResult.value (changeOfF (decL decZnode (encL (encZnode 1) 1 (fiB code))) (decL decZnode (encL (encZnode 1) 1 (fiA code))) (Watch.path (List.getD (fiW code) (Int.toNat (↑x : Int)) default))) != (0 : Int)) = true) → ((tq (!decide ((↑(k3_0 code x) : Int) ≥ (↑(k3_5 code) : Int)))) ∧ ((tq (!decide ((↑(k3_0 code x) : Int) ≥ (↑(k3_5 code) : Int)))) ∧ ((tq (!decide ((↑(k3_0 code x) : Int) ≥ (↑(k3_5 code) : Int)))) ∧ ((((!decide ((↑(k3_0 code x) : Int) ≥ (↑(k3_5 code) : Int))) = true) → (((0 : Int) ≤ (↑(k3_0 code x) : Int)) ∧ ((↑(k3_0 code x) : Int) < (↑(k3_5 code) : Int)))) ∧ ((tq (!decide ((↑(k3_0 code x) : Int) ≥ (↑(k3_5 code) : Int)))) ∧ ((tq (!decide ((↑(k3_0 code x) : Int) ≥ (↑(k3_5 code) : Int)))) ∧ ((((!decide ((↑(k3_0 code x) : Int) ≥ (↑(k3_5 code) : Int))) = true) → (Int.toNat (↑(k3_0 code x) : Int) < List.length (evW (fiB code) (fiA code) (fiW code)))) ∧ ((tq (!decide ((↑(k3_0 code x) : Int) ≥ (↑(k3_5 code) : Int)))) ∧ ((tq (!decide ((↑(k3_0 code x) : Int) ≥ (↑(k3_5 code) : Int)))) ∧ ((((!decide ((↑(k3_0 code x) : Int) ≥ (↑(k3_5 code) : Int))) = true) → (((0 : Int) ≤ (↑x : Int)) ∧ ((↑x : Int) < (↑(List.length (fiW code)) : Int)))) ∧ ((tq (!decide ((↑(k3_0 code x) : Int) ≥ (↑(k3_5 code) : Int)))) ∧ ((tq (!decide ((↑(k3_0 code x) : Int) ≥ (↑(k3_5 code) : Int)))) ∧ ((((!decide ((↑(k3_0 code x) : Int) ≥ (↑(k3_5 code) : Int))) = true) → (Int.toNat (↑x : Int) < List.length (fiW code))) ∧ ((tq (!decide ((↑(k3_0 code x) : Int) ≥ (↑(k3_5 code) : Int)))) ∧ ((tq (!decide ((↑(k3_0 code x) : Int) ≥ (↑(k3_5 code) : Int)))) ∧ (((true = true) → ((decide ((↑(k3_0 code x) : Int) ≥ (↑(k3_5 code) : Int)) = false) → ((!decide ((↑(k3_0 code x) : Int) ≥ (↑(k3_5 code) : Int))) = true))) ∧ (∀ b : Bool, ((b = bif decide ((↑(k3_0 code x) : Int) ≥ (↑(k3_5 code) : Int)) then true else TEvent.client (List.getD (evW (fiB code) (fiA code) (fiW code)) (Int.toNat (↑(k3_0 code x) : Int)) default) != Watch.client (List.getD (fiW code) (Int.toNat (↑x : Int)) default)) → ((tq (!b)) ∧ ((tq (!b)) ∧ ((tq (!b)) ∧ ((((!b) = true) → (((0 : Int) ≤ (↑(k3_0 code x) : Int)) ∧ ((↑(k3_0 code x) : Int) < (↑(k3_5 code) : Int)))) ∧ ((tq (!b)) ∧ ((tq (!b)) ∧ ((((!b) = true) → (Int.toNat (↑(k3_0 code x) : Int) < List.length (evW (fiB code) (fiA code) (fiW code)))) ∧ ((tq (!b)) ∧ ((tq (!b)) ∧ ((((!b) = true) → (((0 : Int) ≤ (↑x : Int)) ∧ ((↑x : Int) < (↑(List.length (fiW code)) : Int)))) ∧ ((tq (!b)) ∧ ((tq (!b)) ∧ ((((!b) = true) → (Int.toNat (↑x : Int) < List.length (fiW code))) ∧ ((tq (!b)) ∧ ((tq (!b)) ∧ (((true = true) → ((b = false) → ((!b) = true))) ∧ (∀ b_1 : Bool, ((b_1 = bif b then true else !strEq (TEvent.path (List.getD (evW (fiB code) (fiA code) (fiW code)) (Int.toNat (↑(k3_0 code x) : Int)) default)) (Watch.path (List.getD (fiW code) (Int.toNat (↑x : Int)) default))) → ((tq (!b_1)) ∧ ((tq (!b_1)) ∧ ((tq (!b_1)) ∧ ((((!b_1) = true) → (((0 : Int) ≤ (↑(k3_0 code x) : Int)) ∧ ((↑(k3_0 code x) : Int) < (↑(k3_5 code) : Int)))) ∧ ((tq (!b_1)) ∧ ((tq (!b_1)) ∧ ((((!b_1) = true) → (Int.toNat (↑(k3_0 code x) : Int) < List.length (evW (fiB code) (fiA code) (fiW code)))) ∧ ((tq (!b_1)) ∧ ((tq (!b_1)) ∧ ((tq (!b_1)) ∧ (((true = true) → ((b_1 = false) → ((!b_1) = true))) ∧ (∀ b_2 : Bool, ((b_2 = bif b_1 then true else TEvent.kind (List.getD (evW (fiB code) (fiA code) (fiW code)) (Int.toNat (↑(k3_0 code x) : Int)) default) != IntResult.value (changeOfF (decL decZnode (encL (encZnode 1) 1 (fiB code))) (decL decZnode (encL (encZnode 1) 1 (fiA code))) (Watch.path (List.getD (fiW code) (Int.toNat (↑x : Int)) default)))) → ((tq (!b_2)) ∧ ((tq (!b_2)) ∧ ((tq (!b_2)) ∧ ((((!b_2) = true) → (((0 : Int) ≤ (↑(k3_0 code x) : Int)) ∧ ((↑(k3_0 code x) : Int) < (↑(k3_5 code) : Int)))) ∧ ((tq (!b_2)) ∧ ((((!b_2) = true) → (Int.toNat (↑(k3_0 code x) : Int) < List.length (evW (fiB code) (fiA code) (fiW code)))) ∧ ((tq (!b_2)) ∧ ((((!b_2) = true) → ((VLe (k3_7 code x) (encTEvent 1 (decTEvent (k3_7 code x)))) ∧ (pr9 (decTEvent (k3_7 code x))))) ∧ ((tq (!b_2)) ∧ ((tq (!b_2)) ∧ (((true = true) → ((b_2 = false) → ((!b_2) = true))) ∧ (∀ b_3 : Bool, ((b_3 = bif b_2 then true else TextResult.code (eventF (decTEvent (k3_7 code x))) != (0 : Int)) → (((b_3 = true) → (VLe (V.bool false) (V.bool true))) ∧ ((b_3 = false) → ((inK IntKind.i64 ((↑(k3_0 code x) : Int) + (1 : Int))) ∧ ((inK IntKind.i64 ((↑x : Int) + (1 : Int))) ∧ (∃ y : Nat, ((SLe (AS.mk [(3, V.osl 32000256 (List.length (fiW code))), (4, V.osl 32000320 (List.length (fiB code))), (5, V.osl 32000384 (List.length (fiA code))), (6, V.oref 448 0 0), (7, vi ((↑(k3_0 code x) : Int) + (1 : Int))), (8, vi ((↑x : Int) + (1 : Int)))] (k3_1 code)) (k3_8 code y)) ∧ ((y ≤ List.length (fiW code)) ∧ (List.length (fiW code) - y < List.length (fiW code) - x))))))))))))))))))))))))))))))))))))))))))))))))))))))))))))))))))))))) ∧ (((IntResult.value (changeOfF (decL decZnode (encL (encZnode 1) 1 (fiB code))) (decL decZnode (encL (encZnode 1) 1 (fiA code))) (Watch.path (List.getD (fiW code) (Int.toNat (↑x : Int)) default))) != (0 : Int)) = false) → ((inK IntKind.i64 ((↑x : Int) + (1 : Int))) ∧ (∃ y : Nat, ((SLe (AS.mk [(3, V.osl 32000256 (List.length (fiW code))), (4, V.osl 32000320 (List.length (fiB code))), (5, V.osl 32000384 (List.length (fiA code))), (6, V.oref 448 0 0), (7, vi (↑(k3_0 code x) : Int)), (8, vi ((↑x : Int) + (1 : Int)))] (k3_1 code)) (k3_8 code y)) ∧ ((y ≤ List.length (fiW code)) ∧ (List.length (fiW code) - y < List.length (fiW code) - x))))))))))))) ∧ ((decide ((↑x : Int) < (↑(List.length (fiW code)) : Int)) = false) → (((VLe (k3_6 code) (encL (encWatch 1) 1 (decL decWatch (k3_6 code)))) ∧ ((VLe (encL (encZnode 1) 1 (fiB code)) (encL (encZnode 1) 1 (decL decZnode (encL (encZnode 1) 1 (fiB code))))) ∧ ((VLe (encL (encZnode 1) 1 (fiA code)) (encL (encZnode 1) 1 (decL decZnode (encL (encZnode 1) 1 (fiA code))))) ∧ (pr6o (decL decWatch (k3_6 code)) (decL decZnode (encL (encZnode 1) 1 (fiB code))) (decL decZnode (encL (encZnode 1) 1 (fiA code))))))) ∧ ((tq ((↑(k3_0 code x) : Int) == (↑(k3_5 code) : Int))) ∧ ((tq ((↑(k3_0 code x) : Int) == (↑(k3_5 code) : Int))) ∧ ((tq ((↑(k3_0 code x) : Int) == (↑(k3_5 code) : Int))) ∧ ((tq ((↑(k3_0 code x) : Int) == (↑(k3_5 code) : Int))) ∧ (((((↑(k3_0 code x) : Int) == (↑(k3_5 code) : Int)) = true) → (inK IntKind.i64 ((↑(List.length (leftW (fiB code) (fiA code) (fiW code))) : Int) + (↑(k3_0 code x) : Int)))) ∧ ((tq ((↑(k3_0 code x) : Int) == (↑(k3_5 code) : Int))) ∧ ((tq ((↑(k3_0 code x) : Int) == (↑(k3_5 code) : Int))) ∧ ((tq ((↑(k3_0 code x) : Int) == (↑(k3_5 code) : Int))) ∧ (((true = true) → ((((↑(k3_0 code x) : Int) == (↑(k3_5 code) : Int)) = true) → (((↑(k3_0 code x) : Int) == (↑(k3_5 code) : Int)) = true))) ∧ (∀ b : Bool, ((b = bif (↑(k3_0 code x) : Int) == (↑(k3_5 code) : Int) then (↑(List.length (leftW (fiB code) (fiA code) (fiW code))) : Int) + (↑(k3_0 code x) : Int) == (↑(List.length (fiW code)) : Int) else false) → ((tq (b)) ∧ ((tq (b)) ∧ (((b = true) → ((VLe (k3_6 code) (encL (encWatch 1) 1 (decL decWatch (k3_6 code)))) ∧ (pr10 (decL decWatch (k3_6 code))))) ∧ ((tq (b)) ∧ (((true = true) → ((b = true) → (b = true))) ∧ (∀ b_1 : Bool, ((b_1 = bif b then watchesF (decL decWatch (k3_6 code)) == (0 : Int) else false) → ((tq (b_1)) ∧ ((tq (b_1)) ∧ (((true = true) → ((b_1 = true) → (b_1 = true))) ∧ (∀ b_2 : Bool, ((b_2 = bif b_1 then WatchResult.code (ro6o (decL decWatch (k3_6 code)) (decL decZnode (encL (encZnode 1) 1 (fiB code))) (decL decZnode (encL (encZnode 1) 1 (fiA code)))) == (0 : Int) else false) → ((tq (b_2)) ∧ ((tq (b_2)) ∧ ((tq (b_2)) ∧ (((true = true) → ((b_2 = true) → (b_2 = true))) ∧ (∀ b_3 : Bool, ((b_3 = bif b_2 then (↑(List.length (WatchResult.events (ro6o (decL decWatch (k3_6 code)) (decL decZnode (encL (encZnode 1) 1 (fiB code))) (decL decZnode (encL (encZnode 1) 1 (fiA code)))))) : Int) == (0 : Int) else false) → (VLe (V.bool b_3) (V.bool true)))))))))))))))))))))))))))))))))))))))))))) := by
    delta k3_11; delta k3_10; delta k3_9; delta k3_8; delta k3_7; delta k3_6; delta k3_5; delta k3_4; delta k3_3; delta k3_2; delta k3_1; delta k3_0; delta vi
    obtain ⟨hlen, hby⟩ := hpre
    simp only [decL_bytes, decL_Watch, decL_Znode, decL_TEvent, ro5, ro6o, ro7o]
    refine ⟨⟨VLe.refl _, trivial⟩, fun h => VLe.refl _, fun h => ?_⟩
    have h0 := okX_code (Nat.le_of_not_lt (of_decide_eq_false h)) hby
    have w := fi_bd h0
    generalize fiW code = l at *
    generalize fiB code = b at *
    generalize fiA code = a at *
    refine ⟨⟨VLe.refl _, h0⟩, ⟨VLe.refl _, VLe.refl _, VLe.refl _, by omega, by omega, by omega⟩, fun h => ⟨⟨VLe.refl _, VLe.refl _, VLe.refl _, by omega, by omega, by omega⟩, vle_bool (by simp)⟩, fun h => ?_⟩
    obtain ⟨hw, hb, ha⟩ := fire_zero (ez h)
    obtain ⟨hl20, hok, hnd⟩ := watch_facts hw
    have v0 : (0 : Int) = (((evW b a (l.take 0)).length : Nat) : Int) := by simp [evW]
    have ll := left_ev b a l
    have lo := left_ok b a hw
    have ln := left_no b a l
    simp only [fi_e4 hw hb ha, fi_e4 lo hb ha, ln]
    refine ⟨⟨0, sle_of ⟨rfl, VLe.refl _, rfl, VLe.refl _, rfl, VLe.refl _, rfl, VLe.refl _, rfl, vle_int v0, rfl, VLe.refl _, trivial⟩ ⟨rfl, BLe.refl _, rfl, BLe.refl _, rfl, BLe.refl _, rfl, BLe.refl _, rfl, BLe.refl _, rfl, BLe.refl _, trivial⟩, by omega⟩, fun i hi => ⟨fun h1 => ?_, fun h1 => ?_⟩⟩
    · have hlt : i < l.length := by simpa using h1
      have hm : l.getD i default ∈ l := by simp [hlt]
      have hwi := hok _ hm
      have hp := (watch_is hwi).2
      have ec : changeOfF b a (l.getD i default).path = ⟨0, changeF b a (l.getD i default).path⟩ := by
        unfold changeOfF
        rw [if_neg (not_not_intro hb), if_neg (not_not_intro ha), if_neg (not_not_intro hp)]
      simp only [Int.toNat_natCast, ec]
      refine ⟨⟨by omega, by omega⟩, hlt, ⟨VLe.refl _, VLe.refl _, by unfold maxLen; omega, by unfold maxLen; omega⟩, fun h2 => (by cases h2), fun _ => ⟨fun h3 => ?_, fun h3 => ?_⟩⟩
      · have hk : ¬ changeF b a (l.getD i default).path = 0 := by simpa using h3
        obtain ⟨e1, e2⟩ := ev_at hlt hk
        have eok := event_ok hwi hk
        have e3 := evW_hit hlt hk
        have d1 : decide ((((evW b a (l.take i)).length : Nat) : Int) ≥ ((evW b a l).length : Nat)) = false := decide_eq_false (by omega)
        simp only [d1, e2, eok]
        repeat (first | (refine And.intro (fun h _ => h) ?_) | (refine And.intro (fun _ h => h) ?_) | (refine And.intro ?aa ?_; case aa => (exact tqB _)) | (refine And.intro ?aa ?_; case aa => (exact fun _ => ⟨by omega, by omega⟩)) | (refine And.intro ?aa ?_; case aa => (exact fun _ => e1)) | (refine And.intro ?aa ?_; case aa => (exact fun _ => hlt)) | (refine And.intro ?aa ?_; case aa => (exact fun _ _ => rfl)) | (refine And.intro ?aa ?_; case aa => (intros; simp_all [pr4, pr5, pr6o, pr7o, pr8, pr9, pr10]; done)) | (refine And.intro ?aa ?_; case aa => (intros; exact inK64 (by omega))) | (refine And.intro ?aa ?_; case aa => (intros; simp only [decide_eq_true_eq] at *; omega)) | (intro q hq))
        have e4 : q = false := by
          rw [hq]
          subst_vars
          simp [e2, strEq_dec]
          simpa using eok
        rw [e4]
        have v2 : (((evW b a (l.take i)).length : Nat) : Int) + 1 = (((evW b a (l.take (i + 1))).length : Nat) : Int) := by
          rw [e3, List.length_append, List.length_singleton]
          omega
        exact ⟨fun h => (by cases h), fun _ => ⟨inK64 (by omega), inK64 (by omega), i + 1, sle_of ⟨rfl, VLe.refl _, rfl, VLe.refl _, rfl, VLe.refl _, rfl, VLe.refl _, rfl, vle_int v2, rfl, vle_int (by omega), trivial⟩ ⟨rfl, BLe.refl _, rfl, BLe.refl _, rfl, BLe.refl _, rfl, BLe.refl _, rfl, BLe.refl _, rfl, BLe.refl _, trivial⟩, by omega, by omega⟩⟩
      · have hk : changeF b a (l.getD i default).path = 0 := by simpa using h3
        have e3 := evW_no hlt hk
        have v2 : (((evW b a (l.take i)).length : Nat) : Int) = (((evW b a (l.take (i + 1))).length : Nat) : Int) := by rw [e3]
        exact ⟨inK64 (by omega), i + 1, sle_of ⟨rfl, VLe.refl _, rfl, VLe.refl _, rfl, VLe.refl _, rfl, VLe.refl _, rfl, vle_int v2, rfl, vle_int (by omega), trivial⟩ ⟨rfl, BLe.refl _, rfl, BLe.refl _, rfl, BLe.refl _, rfl, BLe.refl _, rfl, BLe.refl _, rfl, BLe.refl _, trivial⟩, by omega, by omega⟩
    · have hge : i = l.length := by simp at h1; omega
      subst hge
      rw [List.take_length]
      refine ⟨⟨VLe.refl _, VLe.refl _, VLe.refl _, by omega, by omega, by omega⟩, ?_⟩
      have pw : pr10 (leftW b a l) := by
        show (leftW b a l).length ≤ maxLen
        unfold maxLen
        omega
      repeat (first | (refine And.intro (fun h _ => h) ?_) | (refine And.intro (fun _ h => h) ?_) | (refine And.intro ?aa ?_; case aa => (exact tqB _)) | (refine And.intro ?aa ?_; case aa => (exact fun _ => inK64 (by omega))) | (refine And.intro ?aa ?_; case aa => (exact fun _ _ h => h)) | (refine And.intro ?aa ?_; case aa => (exact fun _ => ⟨VLe.refl _, pw⟩)) | (refine And.intro ?aa ?_; case aa => (intros; simp_all [pr4, pr5, pr6o, pr7o, pr8, pr9, pr10]; done)) | (refine And.intro ?aa ?_; case aa => (intros; exact inK64 (by omega))) | (refine And.intro ?aa ?_; case aa => (intros; simp only [decide_eq_true_eq] at *; omega)) | (intro q hq))
      refine vle_bool ?_
      subst_vars
      have d2 : (((leftW b a l).length : Nat) : Int) + ((evW b a l).length : Nat) = (l.length : Nat) := by omega
      simp [d2, lo]
  exact Eq.mp (by kernel_rfl) key
theorem so3 : Sound Tryz.prog 3 (lawD Q3) := by
  refine sound_of_body hmix (pol := 0) Tryz.func3 rfl (by kernel_rfl) fun args bin ob r bout hDe hob => ?_
  unfold lawD at hDe
  split at hDe
  · cases hDe
    obtain ⟨code, hle, hpre⟩ := hob
    have hlen : args.length = 1 := hle.1.symm
    exact ⟨rfl, rfl, by rw [hlen]; exact Nat.le_of_ble_eq_true (by kernel_rfl), cx3 code, Eq.mp (by kernel_rfl) htt, Eq.mp (by kernel_rfl) da3, Eq.mp (by kernel_rfl) (noM_sound (P := Tryz.prog)), by kernel_rfl, _, hle, Eq.mp (by kernel_rfl) (bd3 code hpre)⟩
  · cases hDe

end Go.Av
