/- Who is told that a path turned. -/
import Derived.Test.YtendmninanhmiaaDoorM2
import Derived.Test.YtendmninanhmiaaDoorT2
namespace Go.Av
open Go.Proofs
set_option maxRecDepth 100000
set_option maxHeartbeats 2000000
set_option linter.unusedVariables false
set_option linter.unusedSimpArgs false

noncomputable def leftW (b a : List Znode) (l : List Watch) : List Watch := l.filter fun w => decide (changeF b a w.path = 0)
noncomputable def evW (b a : List Znode) (l : List Watch) : List TEvent := (l.filter fun w => !decide (changeF b a w.path = 0)).map fun w => ⟨w.client, w.path, changeF b a w.path⟩
noncomputable def fireF (l : List Watch) (b a : List Znode) : List Watch × List TEvent := (leftW b a l, evW b a l)
noncomputable def fireWF (l : List Watch) (b a : List Znode) : WatchResult :=
  if watchesF l ≠ 0 then ⟨watchesF l, [], []⟩ else if treeF b ≠ 0 then ⟨treeF b, [], []⟩ else if treeF a ≠ 0 then ⟨treeF a, [], []⟩ else ⟨0, leftW b a l, evW b a l⟩
theorem leftW_len (b a : List Znode) (l : List Watch) : (leftW b a l).length ≤ l.length := List.length_filter_le _ _
theorem evW_len (b a : List Znode) (l : List Watch) : (evW b a l).length ≤ l.length := by
  unfold evW
  rw [List.length_map]
  exact List.length_filter_le _ _
theorem take_succ' {l : List Watch} {i : Nat} (h : i < l.length) : l.take (i + 1) = l.take i ++ [l.getD i default] := by
  rw [List.take_add_one]
  simp [h]
theorem leftW_hit {b a : List Znode} {l : List Watch} {i : Nat} (h : i < l.length) (h2 : changeF b a (l.getD i default).path = 0) : leftW b a (l.take (i + 1)) = leftW b a (l.take i) ++ [l.getD i default] := by
  rw [take_succ' h]
  unfold leftW
  rw [List.filter_append]
  congr 1
  simp only [List.filter_cons, decide_eq_true h2, if_true, List.filter_nil]
theorem leftW_no {b a : List Znode} {l : List Watch} {i : Nat} (h : i < l.length) (h2 : ¬ changeF b a (l.getD i default).path = 0) : leftW b a (l.take (i + 1)) = leftW b a (l.take i) := by
  rw [take_succ' h]
  unfold leftW
  rw [List.filter_append]
  simp only [List.filter_cons, decide_eq_false h2, List.filter_nil, Bool.false_eq_true, if_false, List.append_nil]
theorem evW_hit {b a : List Znode} {l : List Watch} {i : Nat} (h : i < l.length) (h2 : ¬ changeF b a (l.getD i default).path = 0) :
    evW b a (l.take (i + 1)) = evW b a (l.take i) ++ [⟨(l.getD i default).client, (l.getD i default).path, changeF b a (l.getD i default).path⟩] := by
  rw [take_succ' h]
  unfold evW
  rw [List.filter_append, List.map_append]
  congr 1
  simp only [List.filter_cons, decide_eq_false h2, Bool.not_false, if_true, List.filter_nil, List.map_cons, List.map_nil]
theorem evW_no {b a : List Znode} {l : List Watch} {i : Nat} (h : i < l.length) (h2 : changeF b a (l.getD i default).path = 0) : evW b a (l.take (i + 1)) = evW b a (l.take i) := by
  rw [take_succ' h]
  unfold evW
  rw [List.filter_append, List.map_append]
  simp only [List.filter_cons, decide_eq_true h2, Bool.not_true, List.filter_nil, Bool.false_eq_true, if_false, List.map_nil, List.append_nil]
theorem fireWF_len (l : List Watch) (b a : List Znode) : (fireWF l b a).watches.length ≤ 20 ∧ (fireWF l b a).events.length ≤ 20 := by
  unfold fireWF
  split
  · simp
  rename_i h
  have := watches_len (Classical.not_not.1 h)
  split
  · simp
  split
  · simp
  · exact ⟨Nat.le_trans (leftW_len b a l) this, Nat.le_trans (evW_len b a l) this⟩
theorem fi_e1 {l : List Watch} {b a : List Znode} (h : watchesF l ≠ 0) : fireWF l b a = ⟨watchesF l, [], []⟩ := if_pos h
theorem fi_e2 {l : List Watch} {b a : List Znode} (h : watchesF l = 0) (h2 : treeF b ≠ 0) : fireWF l b a = ⟨treeF b, [], []⟩ := by
  unfold fireWF
  rw [if_neg (not_not_intro h), if_pos h2]
theorem fi_e3 {l : List Watch} {b a : List Znode} (h : watchesF l = 0) (h2 : treeF b = 0) (h3 : treeF a ≠ 0) : fireWF l b a = ⟨treeF a, [], []⟩ := by
  unfold fireWF
  rw [if_neg (not_not_intro h), if_neg (not_not_intro h2), if_pos h3]
theorem fi_e4 {l : List Watch} {b a : List Znode} (h : watchesF l = 0) (h2 : treeF b = 0) (h3 : treeF a = 0) : fireWF l b a = ⟨0, leftW b a l, evW b a l⟩ := by
  unfold fireWF
  rw [if_neg (not_not_intro h), if_neg (not_not_intro h2), if_neg (not_not_intro h3)]

/-! ### laws.markZnodeS -/
noncomputable def in45m_2 (l : List Znode) (k : Int) : LoopInv :=
  ⟨Nat, fun i => ⟨[(0, encL (encZnode 1) 1 l), (1, .int .i64 (k + 5 * i)), (5, .int .i64 i)], []⟩, fun i => i ≤ l.length, fun i => l.length - i⟩
noncomputable def iv45m (l : List Znode) (k : Int) : Nat → Option LoopInv := fun k0 => match k0 with
  | 2 => some (in45m_2 l k)
  | _ => none
def mp45 (l : List Znode) (k : Int) : Prop := 1 ≤ k ∧ k + 5 * l.length ≤ 4611686018427387904
noncomputable def mm45 : MSpec := fun n g k => some (VLe (.sl n g 1) (encL (encZnode 1) 1 (decL decZnode (.sl n g 1))) ∧ mp45 (decL decZnode (.sl n g 1)) k, (fun (l : List Znode) => k + 5 * (l.length : Int)) (decL decZnode (.sl n g 1)))
noncomputable def M45 : Nat → Option MSpec := lk []
theorem ma45 : SoundAllM Tryd.prog M45 := soundAllM_nil
noncomputable def D45m : Nat → Option (Bool × FSpec) := lk [(62, (false, sp62))]
theorem da45m : SoundAll Tryd.prog D45m := soundAll_cons so62 (soundAll_nil)
noncomputable def cx45m (l : List Znode) (k : Int) : Cx := ⟨tt, D45m, Tryd.f45.ntmps, [0, 1, 4, 5, 9], [(2, ⟨[(0, none), (1, none), (5, none)], []⟩)], [], iv45m l k, [], M45, []⟩
theorem bd45m (l : List Znode) (k : Int) (hpre : mp45 l k) : bodyM (cx45m l k) Tryd.f45 [encL (encZnode 1) 1 l, .int .i64 k] (fun r => r = k + 5 * (l.length : Int)) := by
  have key :
      ((∃ x : Nat, ((SLe
   (AS.mk
   [(0, encL (encZnode 1) 1 l), (1, V.int IntKind.i64 k),
   (5, V.int IntKind.i64 (0 : Int))]
   [])
   (AS.mk
   [(0, encL (encZnode 1) 1 l), (1, V.int IntKind.i64 (k + (5 : Int) * (↑x : Int))),
   (5, V.int IntKind.i64 (↑x : Int))]
   [])) ∧
   (x ≤ List.length l))) ∧
   (∀ x : Nat,
   ((x ≤ List.length l) →
   (((decide ((↑x : Int) < (↑(List.length l) : Int)) = true) →
   ((pr62 (k + (5 : Int) * (↑x : Int))) ∧
   ((((0 : Int) ≤ (↑x : Int)) ∧
   ((↑x : Int) < (↑(List.length l) : Int))) ∧
   ((inK IntKind.i64 (k + (5 : Int) * (↑x : Int) + (1 : Int))) ∧
   ((((0 : Int) ≤ (↑x : Int)) ∧
   ((↑x : Int) < (↑(List.length l) : Int))) ∧
   ((inK IntKind.i64 (k + (5 : Int) * (↑x : Int) + (1 : Int) + (1 : Int))) ∧
   ((((0 : Int) ≤ (↑x : Int)) ∧
   ((↑x : Int) < (↑(List.length l) : Int))) ∧
   ((inK IntKind.i64 (k + (5 : Int) * (↑x : Int) + (1 : Int) + (1 : Int) + (1 : Int))) ∧
   ((((0 : Int) ≤ (↑x : Int)) ∧
   ((↑x : Int) < (↑(List.length l) : Int))) ∧
   ((inK IntKind.i64 (k + (5 : Int) * (↑x : Int) + (1 : Int) + (1 : Int) + (1 : Int) + (1 : Int))) ∧
   ((((0 : Int) ≤ (↑x : Int)) ∧
   ((↑x : Int) < (↑(List.length l) : Int))) ∧
   ((inK IntKind.i64 (k + (5 : Int) * (↑x : Int) + (1 : Int) + (1 : Int) + (1 : Int) + (1 : Int) + (1 : Int))) ∧
   ((inK IntKind.i64 ((↑x : Int) + (1 : Int))) ∧
   (∃ y : Nat, ((SLe
   (AS.mk
   [(0, encL (encZnode 1) 1 l),
   (1,
   V.int IntKind.i64 (k + (5 : Int) * (↑x : Int) + (1 : Int) + (1 : Int) + (1 : Int) + (1 : Int) + (1 : Int))),
   (5, V.int IntKind.i64 ((↑x : Int) + (1 : Int)))]
   [])
   (AS.mk
   [(0, encL (encZnode 1) 1 l), (1, V.int IntKind.i64 (k + (5 : Int) * (↑y : Int))),
   (5, V.int IntKind.i64 (↑y : Int))]
   [])) ∧
   ((y ≤ List.length l) ∧
   (List.length l - y < List.length l - x))))))))))))))))) ∧
   ((decide ((↑x : Int) < (↑(List.length l) : Int)) = false) →
   (k + (5 : Int) * (↑x : Int) = k + (5 : Int) * (↑(List.length l) : Int))))))) := by
    unfold mp45 at hpre
    refine ⟨⟨0, sle_of ⟨rfl, VLe.refl _, rfl, vle_int (by omega), rfl, VLe.refl _, trivial⟩ trivial, by omega⟩, fun i hi => ⟨fun h => ?_, fun h => ?_⟩⟩
    · have hlt : i < l.length := by simpa using h
      refine ⟨⟨by omega, by omega⟩, ?_⟩
      repeat (first | (refine And.intro ⟨by omega, by omega⟩ ?_) | (refine And.intro (inK64 (by omega)) ?_))
      exact ⟨i + 1, sle_of ⟨rfl, VLe.refl _, rfl, vle_int (by omega), rfl, vle_int (by omega), trivial⟩ trivial, by omega, by omega⟩
    · have : i = l.length := by simp at h; omega
      omega
  exact Eq.mp (by kernel_rfl) key
theorem sm45 : SoundMk Tryd.prog 45 mm45 := by
  refine soundMk_of_body Tryd.func45 rfl (by kernel_rfl) (Nat.le_of_ble_eq_true (by kernel_rfl)) fun n g k ob r he ho => ?_
  cases he
  exact ⟨cx45m (decL decZnode (.sl n g 1)) k, Eq.mp (by kernel_rfl) htt, Eq.mp (by kernel_rfl) da45m, Eq.mp (by kernel_rfl) ma45, by kernel_rfl, _, ho.1, Eq.mp (by kernel_rfl) (bd45m _ k ho.2)⟩

/-! ### laws.toZnodeS%o -/
def pr31o (xs : List Znode) : Prop := xs.length ≤ most ∧ ∀ x ∈ xs, pr70 x
noncomputable def ro31o (xs : List Znode) : List Znode := xs
noncomputable def rb31o (xs : List Znode) : List Blk := [(.arr 5 (ro31o xs).length (gL (encZnode 1) (ro31o xs)) tagS)]
noncomputable def rs31o (xs : List Znode) : V := .osl 0 (ro31o xs).length
noncomputable def sp31o : FSpec := fun args bin => match args, bin with
  | [a0], [] => some (VLe a0 (encL (encZnode 1) 1 (((decL decZnode) a0))) ∧ pr31o ((decL decZnode) a0), rs31o ((decL decZnode) a0), rb31o ((decL decZnode) a0))
  | _, _ => none
noncomputable def in31o_3 (xs : List Znode) : LoopInv :=
  ⟨Nat × List Znode, fun p => ⟨[(0, encL (encZnode 1) 1 xs), (3, .osl (canonT 3) xs.length), (4, .int .i64 p.1)], [(canonT 3, .arr 5 xs.length (gL (encZnode 1) p.2) tagS)]⟩,
    fun p => p.1 ≤ xs.length ∧ p.2.length = xs.length ∧ ∀ j, j < p.1 → p.2.getD j default = xs.getD j default, fun p => xs.length - p.1⟩
noncomputable def iv31o (xs : List Znode) : Nat → Option LoopInv := fun rg_ => match rg_ with
  | 3 => some (in31o_3 xs)
  | _ => none
noncomputable def D31o : Nat → Option (Bool × FSpec) := lk [(70, (false, sp70))]
theorem da31o : SoundAll Tryd.prog D31o := soundAll_cons so70 (soundAll_nil)
noncomputable def cx31o (xs : List Znode) : Cx := ⟨tt, D31o, Tryd.f31.ntmps, [0, 2, 3, 4, 11], [(3, ⟨[(0, none), (3, some 5), (4, none)], []⟩)], [], iv31o xs, [], noM, []⟩
theorem bd31o (xs : List Znode) (hpre : pr31o xs) : bodyO (cx31o xs) Tryd.f31 [(0, 5)] [encL (encZnode 1) 1 (xs)] [] (fun rr bs => VLe rr (rs31o xs) ∧ BinLe bs (rb31o xs)) := by
  have key :
      ((((0 : Int) ≤ (↑(List.length xs) : Int)) ∧
   (((↑(List.length xs) : Int) ≤ (↑(List.length xs) : Int)) ∧
   ((↑(List.length xs) : Int) ≤ (↑1073741824 : Int)))) ∧
   ((∃ x : Nat × List Znode, ((SLe
   (AS.mk
   [(0, encL (encZnode 1) 1 xs),
   (3, V.osl 32000256 (Int.toNat (↑(List.length xs) : Int))),
   (4, V.int IntKind.i64 (0 : Int))]
   [(32000256,
   Blk.arr 5 (Int.toNat (↑(List.length xs) : Int))
   (fun (x : Nat) ↦
   V.agg
   [V.str (ByteArray.mk #[]), V.int IntKind.i64 (0 : Int), V.int IntKind.i64 (0 : Int),
   V.int IntKind.i64 (0 : Int), V.int IntKind.i64 (0 : Int)])
   100)])
   (AS.mk
   [(0, encL (encZnode 1) 1 xs), (3, V.osl 32000256 (List.length xs)),
   (4, V.int IntKind.i64 (↑(Prod.fst x) : Int))]
   [(32000256, Blk.arr 5 (List.length xs) (gL (encZnode 1) (Prod.snd x)) 100)])) ∧
   ((Prod.fst x ≤ List.length xs) ∧
   ((List.length (Prod.snd x) = List.length xs) ∧
   (∀ j : Nat,
   ((j < Prod.fst x) →
   (List.getD (Prod.snd x) j default = List.getD xs j default))))))) ∧
   (∀ x : Nat × List Znode,
   (((Prod.fst x ≤ List.length xs) ∧
   ((List.length (Prod.snd x) = List.length xs) ∧
   (∀ j : Nat,
   ((j < Prod.fst x) →
   (List.getD (Prod.snd x) j default = List.getD xs j default))))) →
   (((decide ((↑(Prod.fst x) : Int) < (↑(List.length xs) : Int)) = true) →
   ((((0 : Int) ≤ (↑(Prod.fst x) : Int)) ∧
   ((↑(Prod.fst x) : Int) < (↑(List.length xs) : Int))) ∧
   (((VLe (encZnode 1 (List.getD xs (Int.toNat (↑(Prod.fst x) : Int)) default))
   (encZnode 1 (decZnode (encZnode 1 (List.getD xs (Int.toNat (↑(Prod.fst x) : Int)) default))))) ∧
   (pr70 (decZnode (encZnode 1 (List.getD xs (Int.toNat (↑(Prod.fst x) : Int)) default))))) ∧
   ((((0 : Int) ≤ (↑(Prod.fst x) : Int)) ∧
   ((↑(Prod.fst x) : Int) < (↑(List.length xs) : Int))) ∧
   ((Int.toNat (↑(Prod.fst x) : Int) < List.length xs) ∧
   ((inK IntKind.i64 ((↑(Prod.fst x) : Int) + (1 : Int))) ∧
   (∃ y : Nat × List Znode, ((SLe
   (AS.mk
   [(0, encL (encZnode 1) 1 xs), (3, V.osl 32000256 (List.length xs)),
   (4, V.int IntKind.i64 ((↑(Prod.fst x) : Int) + (1 : Int)))]
   [(32000256,
   Blk.arr 5 (List.length xs)
   (setg (gL (encZnode 1) (Prod.snd x)) (Int.toNat (↑(Prod.fst x) : Int))
   (encZnode 1
   (decZnode (encZnode 1 (List.getD xs (Int.toNat (↑(Prod.fst x) : Int)) default)))))
   100)])
   (AS.mk
   [(0, encL (encZnode 1) 1 xs), (3, V.osl 32000256 (List.length xs)),
   (4, V.int IntKind.i64 (↑(Prod.fst y) : Int))]
   [(32000256, Blk.arr 5 (List.length xs) (gL (encZnode 1) (Prod.snd y)) 100)])) ∧
   (((Prod.fst y ≤ List.length xs) ∧
   ((List.length (Prod.snd y) = List.length xs) ∧
   (∀ j : Nat,
   ((j < Prod.fst y) →
   (List.getD (Prod.snd y) j default = List.getD xs j default))))) ∧
   (List.length xs - Prod.fst y < List.length xs - Prod.fst x)))))))))) ∧
   ((decide ((↑(Prod.fst x) : Int) < (↑(List.length xs) : Int)) = false) →
   ((VLe (V.osl 0 (List.length xs)) (V.osl 0 (List.length (ro31o xs)))) ∧
   ((BLe (Blk.arr 5 (List.length xs) (gL (encZnode 1) (Prod.snd x)) 100)
   (Blk.arr 5 (List.length (ro31o xs)) (gL (encZnode 1) (ro31o xs)) 100)) ∧
   (True))))))))) := by
    unfold pr31o most at hpre
    obtain ⟨hpre, hel⟩ := hpre
    refine ⟨⟨by omega, by omega, by omega⟩, ⟨(0, List.replicate xs.length default), ?_, by simp, by simp, fun j hj => absurd hj (Nat.not_lt_zero j)⟩, ?_⟩
    · refine sle_of ⟨rfl, VLe.refl _, rfl, VLe.refl _, rfl, VLe.refl _, trivial⟩ ⟨rfl, ?_, trivial⟩
      refine ble_arr (fun i hi => ?_) (Or.inl rfl)
      have hi' : i < xs.length := hi
      have e1 : gL (encZnode 1) (List.replicate xs.length default) i = (encZnode 1) default := by simp [gL, hi']
      rw [e1]
      exact zele_Znode
    · rintro ⟨i, ys⟩ ⟨hi, hl, hj⟩
      simp only at hi hl hj ⊢
      refine ⟨fun h => ?_, fun h => ?_⟩
      · have hlt : i < xs.length := by simpa using h
        have hin : xs.getD i default ∈ xs := by simp [hlt]
        simp only [dec_encZnode, Int.toNat_natCast]
        refine ⟨⟨by omega, by omega⟩, ⟨VLe.refl _, hel _ hin⟩, ⟨by omega, by omega⟩, by simpa using hlt, inK64 (by omega), (i + 1, ys.set i (xs.getD i default)), ?_, ⟨by simp only; omega, by simpa using hl, fun j h2 => ?_⟩, by simp only; omega⟩
        · refine sle_of ⟨rfl, VLe.refl _, rfl, VLe.refl _, rfl, vle_int (by simp), trivial⟩ ⟨rfl, ?_, trivial⟩
          refine ble_arr (fun k hk => ?_) (Or.inl rfl)
          simp only [setg, gL, Int.toNat_natCast]
          by_cases e : k = i
          · subst e
            rw [if_pos rfl, getD_set_eq _ _ _ _ (by omega)]
            exact ele_Znode _ _ _
          · rw [if_neg e, getD_set_ne _ _ _ _ e]
            exact ELe.refl _
        · simp only at h2 ⊢
          by_cases e : j = i
          · subst e; rw [getD_set_eq _ _ _ _ (by omega)]
          · rw [getD_set_ne _ _ _ _ e]; exact hj j (by omega)
      · have hge : i = xs.length := by simp at h; omega
        refine ⟨VLe.refl _, ble_arr (fun k hk => ?_) (Or.inl rfl), trivial⟩
        show ELe _ (gL (encZnode 1) xs k)
        simp only [gL]
        rw [hj k (by omega)]
        exact ELe.refl _
  exact Eq.mp (by kernel_rfl) key
theorem so31o : Sound Tryd.prog 31 sp31o := by
  refine sound_of_bodyO hmix (tpl := [(0, 5)]) Tryd.func31 rfl (by kernel_rfl) fun args bin ob r bout hDe hob => ?_
  unfold sp31o at hDe
  split at hDe
  · rename_i a0
    cases hDe
    exact ⟨Nat.le_of_ble_eq_true (by kernel_rfl), cx31o ((decL decZnode) a0), Eq.mp (by kernel_rfl) htt, Eq.mp (by kernel_rfl) da31o, Eq.mp (by kernel_rfl) (noM_sound (P := Tryd.prog)), by kernel_rfl, [encL (encZnode 1) 1 (((decL decZnode) a0))], [], args_of_vles (⟨hob.1, trivial⟩), trivial, Eq.mp (by kernel_rfl) (bd31o ((decL decZnode) a0) (hob.2))⟩
  · cases hDe

/-! ### impl.fire%o -/
def pr91o (l : List Watch) (b : List Znode) (a : List Znode) : Prop := l.length ≤ 1048576 ∧ rising b ∧ rising a ∧ b.length ≤ 1000 ∧ a.length ≤ 1000
noncomputable def ro91o (l : List Watch) (b : List Znode) (a : List Znode) : List Watch × List TEvent := fireF l b a
noncomputable def rb91o (l : List Watch) (b : List Znode) (a : List Znode) : List Blk := [(.arr 2 ((ro91o l b a).1).length (gL (encWatch 1) ((ro91o l b a).1)) tagS), (.arr 3 ((ro91o l b a).2).length (gL (encTEvent 1) ((ro91o l b a).2)) tagS)]
noncomputable def rs91o (l : List Watch) (b : List Znode) (a : List Znode) : V := .tup [.osl 0 ((ro91o l b a).1).length, .osl 1 ((ro91o l b a).2).length]
noncomputable def sp91o : FSpec := fun args bin => match args, bin with
  | [a0, a1, a2], [] => some (VLe a0 (encL (encWatch 1) 1 (((decL decWatch) a0))) ∧ VLe a1 (encL (encZnode 1) 1 (((decL decZnode) a1))) ∧ VLe a2 (encL (encZnode 1) 1 (((decL decZnode) a2))) ∧ pr91o ((decL decWatch) a0) ((decL decZnode) a1) ((decL decZnode) a2), rs91o ((decL decWatch) a0) ((decL decZnode) a1) ((decL decZnode) a2), rb91o ((decL decWatch) a0) ((decL decZnode) a1) ((decL decZnode) a2))
  | _, _ => none
noncomputable def in91o_3 (l : List Watch) (b : List Znode) (a : List Znode) : LoopInv :=
  ⟨Nat, fun i => ⟨[(1, encL (encZnode 1) 1 b), (2, encL (encZnode 1) 1 a), (8, .osl (canonT 8) (leftW b a (l.take i)).length), (9, .osl (canonT 9) (evW b a (l.take i)).length), (15, encL (encWatch 1) 1 l), (16, .int .i64 l.length), (17, .int .i64 i)], [(canonT 8, .arr 2 (leftW b a (l.take i)).length (gL (encWatch 1) (leftW b a (l.take i))) tagS), (canonT 9, .arr 3 (evW b a (l.take i)).length (gL (encTEvent 1) (evW b a (l.take i))) tagS)]⟩,
    fun i => i ≤ l.length, fun i => l.length - i⟩
noncomputable def iv91o (l : List Watch) (b : List Znode) (a : List Znode) : Nat → Option LoopInv := fun rg_ => match rg_ with
  | 3 => some (in91o_3 l b a)
  | _ => none
noncomputable def D91o : Nat → Option (Bool × FSpec) := lk [(73, (false, sp73))]
theorem da91o : SoundAll Tryd.prog D91o := soundAll_cons so73 (soundAll_nil)
noncomputable def cx91o (l : List Watch) (b : List Znode) (a : List Znode) : Cx := ⟨tt, D91o, Tryd.f91.ntmps, [0, 1, 2, 6, 7, 8, 9, 11, 12, 15, 16, 17, 18, 27], [(3, ⟨[(1, none), (2, none), (8, some 2), (9, some 3), (15, none), (16, none), (17, none)], []⟩)], [], iv91o l b a, [], noM, []⟩
theorem bd91o (l : List Watch) (b : List Znode) (a : List Znode) (hpre : pr91o l b a) : bodyO (cx91o l b a) Tryd.f91 [(0, 2), (1, 3)] [encL (encWatch 1) 1 (l), encL (encZnode 1) 1 (b), encL (encZnode 1) 1 (a)] [] (fun rr bs => VLe rr (rs91o l b a) ∧ BinLe bs (rb91o l b a)) := by
  have key :
      ((∃ x : Nat, ((SLe
   (AS.mk
   [(1, encL (encZnode 1) 1 b), (2, encL (encZnode 1) 1 a),
   (8, V.osl 32000576 0), (9, V.osl 32000640 0),
   (15, encL (encWatch 1) 1 l), (16, V.int IntKind.i64 (↑(List.length l) : Int)),
   (17, V.int IntKind.i64 (0 : Int))]
   [(32000576, Blk.arr 2 0 (rowg []) 100),
   (32000640, Blk.arr 3 0 (rowg []) 100)])
   (AS.mk
   [(1, encL (encZnode 1) 1 b), (2, encL (encZnode 1) 1 a),
   (8, V.osl 32000576 (List.length (leftW b a (List.take x l)))),
   (9, V.osl 32000640 (List.length (evW b a (List.take x l)))),
   (15, encL (encWatch 1) 1 l), (16, V.int IntKind.i64 (↑(List.length l) : Int)),
   (17, V.int IntKind.i64 (↑x : Int))]
   [(32000576,
   Blk.arr 2 (List.length (leftW b a (List.take x l)))
   (gL (encWatch 1) (leftW b a (List.take x l))) 100),
   (32000640,
   Blk.arr 3 (List.length (evW b a (List.take x l))) (gL (encTEvent 1) (evW b a (List.take x l)))
   100)])) ∧
   (x ≤ List.length l))) ∧
   (∀ x : Nat,
   ((x ≤ List.length l) →
   (((decide ((↑x : Int) < (↑(List.length l) : Int)) = true) →
   ((((0 : Int) ≤ (↑x : Int)) ∧
   ((↑x : Int) < (↑(List.length l) : Int))) ∧
   (((VLe (encL (encZnode 1) 1 b)
   (encL (encZnode 1) 1 (decL decZnode (encL (encZnode 1) 1 b)))) ∧
   ((VLe (encL (encZnode 1) 1 a)
   (encL (encZnode 1) 1 (decL decZnode (encL (encZnode 1) 1 a)))) ∧
   (pr73 (decL decZnode (encL (encZnode 1) 1 b)) (decL decZnode (encL (encZnode 1) 1 a))
   (Watch.path (List.getD l (Int.toNat (↑x : Int)) default))))) ∧
   ((((changeF (decL decZnode (encL (encZnode 1) 1 b)) (decL decZnode (encL (encZnode 1) 1 a))
   (Watch.path (List.getD l (Int.toNat (↑x : Int)) default)) !=
   (0 : Int)) =
   true) →
   ((List.length (evW b a (List.take x l)) = List.length (evW b a (List.take x l))) ∧
   ((List.length (evW b a (List.take x l)) + 1 ≤ 1073741824) ∧
   ((sizedL 3 1
   (rowg
   [V.agg
   [V.int IntKind.i64 (Watch.client (List.getD l (Int.toNat (↑x : Int)) default)),
   V.str (Watch.path (List.getD l (Int.toNat (↑x : Int)) default)),
   V.int IntKind.i64
   (changeF (decL decZnode (encL (encZnode 1) 1 b))
   (decL decZnode (encL (encZnode 1) 1 a))
   (Watch.path (List.getD l (Int.toNat (↑x : Int)) default)))]])) ∧
   ((inK IntKind.i64 ((↑x : Int) + (1 : Int))) ∧
   (∃ y : Nat, ((SLe
   (AS.mk
   [(1, encL (encZnode 1) 1 b), (2, encL (encZnode 1) 1 a),
   (8, V.osl 32000576 (List.length (leftW b a (List.take x l)))),
   (9, V.osl 32000640 (List.length (evW b a (List.take x l)) + 1)),
   (15, encL (encWatch 1) 1 l), (16, V.int IntKind.i64 (↑(List.length l) : Int)),
   (17, V.int IntKind.i64 ((↑x : Int) + (1 : Int)))]
   [(32000576,
   Blk.arr 2 (List.length (leftW b a (List.take x l)))
   (gL (encWatch 1) (leftW b a (List.take x l))) 100),
   (32000640,
   Blk.arr 3 (List.length (evW b a (List.take x l)) + 1)
   (appg (List.length (evW b a (List.take x l))) (gL (encTEvent 1) (evW b a (List.take x l)))
   (rowg
   [V.agg
   [V.int IntKind.i64 (Watch.client (List.getD l (Int.toNat (↑x : Int)) default)),
   V.str (Watch.path (List.getD l (Int.toNat (↑x : Int)) default)),
   V.int IntKind.i64
   (changeF (decL decZnode (encL (encZnode 1) 1 b))
   (decL decZnode (encL (encZnode 1) 1 a))
   (Watch.path (List.getD l (Int.toNat (↑x : Int)) default)))]]))
   100)])
   (AS.mk
   [(1, encL (encZnode 1) 1 b), (2, encL (encZnode 1) 1 a),
   (8, V.osl 32000576 (List.length (leftW b a (List.take y l)))),
   (9, V.osl 32000640 (List.length (evW b a (List.take y l)))),
   (15, encL (encWatch 1) 1 l), (16, V.int IntKind.i64 (↑(List.length l) : Int)),
   (17, V.int IntKind.i64 (↑y : Int))]
   [(32000576,
   Blk.arr 2 (List.length (leftW b a (List.take y l)))
   (gL (encWatch 1) (leftW b a (List.take y l))) 100),
   (32000640,
   Blk.arr 3 (List.length (evW b a (List.take y l))) (gL (encTEvent 1) (evW b a (List.take y l)))
   100)])) ∧
   ((y ≤ List.length l) ∧
   (List.length l - y < List.length l - x))))))))) ∧
   (((changeF (decL decZnode (encL (encZnode 1) 1 b)) (decL decZnode (encL (encZnode 1) 1 a))
   (Watch.path (List.getD l (Int.toNat (↑x : Int)) default)) !=
   (0 : Int)) =
   false) →
   ((List.length (leftW b a (List.take x l)) = List.length (leftW b a (List.take x l))) ∧
   ((List.length (leftW b a (List.take x l)) + 1 ≤ 1073741824) ∧
   ((sizedL 2 1 (rowg [encWatch 1 (List.getD l (Int.toNat (↑x : Int)) default)])) ∧
   ((inK IntKind.i64 ((↑x : Int) + (1 : Int))) ∧
   (∃ y : Nat, ((SLe
   (AS.mk
   [(1, encL (encZnode 1) 1 b), (2, encL (encZnode 1) 1 a),
   (8, V.osl 32000576 (List.length (leftW b a (List.take x l)) + 1)),
   (9, V.osl 32000640 (List.length (evW b a (List.take x l)))),
   (15, encL (encWatch 1) 1 l), (16, V.int IntKind.i64 (↑(List.length l) : Int)),
   (17, V.int IntKind.i64 ((↑x : Int) + (1 : Int)))]
   [(32000576,
   Blk.arr 2 (List.length (leftW b a (List.take x l)) + 1)
   (appg (List.length (leftW b a (List.take x l))) (gL (encWatch 1) (leftW b a (List.take x l)))
   (rowg [encWatch 1 (List.getD l (Int.toNat (↑x : Int)) default)]))
   100),
   (32000640,
   Blk.arr 3 (List.length (evW b a (List.take x l))) (gL (encTEvent 1) (evW b a (List.take x l)))
   100)])
   (AS.mk
   [(1, encL (encZnode 1) 1 b), (2, encL (encZnode 1) 1 a),
   (8, V.osl 32000576 (List.length (leftW b a (List.take y l)))),
   (9, V.osl 32000640 (List.length (evW b a (List.take y l)))),
   (15, encL (encWatch 1) 1 l), (16, V.int IntKind.i64 (↑(List.length l) : Int)),
   (17, V.int IntKind.i64 (↑y : Int))]
   [(32000576,
   Blk.arr 2 (List.length (leftW b a (List.take y l)))
   (gL (encWatch 1) (leftW b a (List.take y l))) 100),
   (32000640,
   Blk.arr 3 (List.length (evW b a (List.take y l))) (gL (encTEvent 1) (evW b a (List.take y l)))
   100)])) ∧
   ((y ≤ List.length l) ∧
   (List.length l - y < List.length l - x))))))))))))) ∧
   ((decide ((↑x : Int) < (↑(List.length l) : Int)) = false) →
   ((VLe
   (V.tup
   [V.osl 0 (List.length (leftW b a (List.take x l))),
   V.osl 1 (List.length (evW b a (List.take x l)))])
   (V.tup
   [V.osl 0 (List.length (Prod.fst (leftW b a l, evW b a l))),
   V.osl 1 (List.length (Prod.snd (leftW b a l, evW b a l)))])) ∧
   ((BLe
   (Blk.arr 2 (List.length (leftW b a (List.take x l))) (gL (encWatch 1) (leftW b a (List.take x l)))
   100)
   (Blk.arr 2 (List.length (Prod.fst (leftW b a l, evW b a l)))
   (gL (encWatch 1) (Prod.fst (leftW b a l, evW b a l))) 100)) ∧
   ((BLe
   (Blk.arr 3 (List.length (evW b a (List.take x l))) (gL (encTEvent 1) (evW b a (List.take x l)))
   100)
   (Blk.arr 3 (List.length (Prod.snd (leftW b a l, evW b a l)))
   (gL (encTEvent 1) (Prod.snd (leftW b a l, evW b a l))) 100)) ∧
   (True))))))))) := by
    obtain ⟨hl, hb, ha, hbl, hal⟩ := hpre
    simp only [decL_Znode, ro91o, fireF]
    refine ⟨⟨0, sle_of ⟨rfl, VLe.refl _, rfl, VLe.refl _, rfl, VLe.refl _, rfl, VLe.refl _, rfl, VLe.refl _, rfl, VLe.refl _, rfl, VLe.refl _, trivial⟩ ⟨rfl, ble_nil _, rfl, ble_nil _, trivial⟩, by omega⟩, fun i hi => ⟨fun h => ?_, fun h => ?_⟩⟩
    · have hlt : i < l.length := by simpa using h
      have n1 := leftW_len b a (l.take i)
      have n2 := evW_len b a (l.take i)
      rw [List.length_take] at n1 n2
      simp only [Int.toNat_natCast]
      refine ⟨by omega, ⟨VLe.refl _, VLe.refl _, hb, ha, hbl, hal⟩, fun h2 => ⟨trivial, by omega, fun k hk => ?_, inK64 (by omega), i + 1, ?_, by omega, by omega⟩, fun h2 => ⟨trivial, by omega, fun k hk => ?_, inK64 (by omega), i + 1, ?_, by omega, by omega⟩⟩
      · have hk0 : k = 0 := by omega
        subst hk0
        exact ⟨rfl, rfl⟩
      · rw [leftW_no hlt (nz h2), evW_hit hlt (nz h2), List.length_append, List.length_singleton]
        exact sle_of ⟨rfl, VLe.refl _, rfl, VLe.refl _, rfl, VLe.refl _, rfl, VLe.refl _, rfl, VLe.refl _, rfl, VLe.refl _, rfl, vle_int (by omega), trivial⟩ ⟨rfl, BLe.refl _, rfl, ble_push rfl rfl, trivial⟩
      · have hk0 : k = 0 := by omega
        subst hk0
        exact ⟨rfl, rfl⟩
      · rw [leftW_hit hlt (ez h2), evW_no hlt (ez h2), List.length_append, List.length_singleton]
        exact sle_of ⟨rfl, VLe.refl _, rfl, VLe.refl _, rfl, VLe.refl _, rfl, VLe.refl _, rfl, VLe.refl _, rfl, VLe.refl _, rfl, vle_int (by omega), trivial⟩ ⟨rfl, ble_push rfl rfl, rfl, BLe.refl _, trivial⟩
    · have hge : i = l.length := by simp at h; omega
      subst hge
      rw [List.take_length]
      exact ⟨VLe.refl _, BLe.refl _, BLe.refl _, trivial⟩
  exact Eq.mp (by kernel_rfl) key
theorem so91o : Sound Tryd.prog 91 sp91o := by
  refine sound_of_bodyO hmix (tpl := [(0, 2), (1, 3)]) Tryd.func91 rfl (by kernel_rfl) fun args bin ob r bout hDe hob => ?_
  unfold sp91o at hDe
  split at hDe
  · rename_i a0 a1 a2
    cases hDe
    exact ⟨Nat.le_of_ble_eq_true (by kernel_rfl), cx91o ((decL decWatch) a0) ((decL decZnode) a1) ((decL decZnode) a2), Eq.mp (by kernel_rfl) htt, Eq.mp (by kernel_rfl) da91o, Eq.mp (by kernel_rfl) (noM_sound (P := Tryd.prog)), by kernel_rfl, [encL (encWatch 1) 1 (((decL decWatch) a0)), encL (encZnode 1) 1 (((decL decZnode) a1)), encL (encZnode 1) 1 (((decL decZnode) a2))], [], args_of_vles (⟨hob.1, hob.2.1, hob.2.2.1, trivial⟩), trivial, Eq.mp (by kernel_rfl) (bd91o ((decL decWatch) a0) ((decL decZnode) a1) ((decL decZnode) a2) (hob.2.2.2))⟩
  · cases hDe

/-! ### spec.l7Fire%o -/
def pr90o (l : List Watch) (b : List Znode) (a : List Znode) : Prop := l.length ≤ 1048576 ∧ rising b ∧ rising a ∧ b.length ≤ 1000 ∧ a.length ≤ 1000
noncomputable def ro90o (l : List Watch) (b : List Znode) (a : List Znode) : List Watch × List TEvent := fireF l b a
noncomputable def rb90o (l : List Watch) (b : List Znode) (a : List Znode) : List Blk := [(.arr 2 ((ro90o l b a).1).length (gL (encWatch 1) ((ro90o l b a).1)) tagS), (.arr 3 ((ro90o l b a).2).length (gL (encTEvent 1) ((ro90o l b a).2)) tagS)]
noncomputable def rs90o (l : List Watch) (b : List Znode) (a : List Znode) : V := .tup [.osl 0 ((ro90o l b a).1).length, .osl 1 ((ro90o l b a).2).length]
noncomputable def sp90o : FSpec := fun args bin => match args, bin with
  | [a0, a1, a2], [] => some (VLe a0 (encL (encWatch 1) 1 (((decL decWatch) a0))) ∧ VLe a1 (encL (encZnode 1) 1 (((decL decZnode) a1))) ∧ VLe a2 (encL (encZnode 1) 1 (((decL decZnode) a2))) ∧ pr90o ((decL decWatch) a0) ((decL decZnode) a1) ((decL decZnode) a2), rs90o ((decL decWatch) a0) ((decL decZnode) a1) ((decL decZnode) a2), rb90o ((decL decWatch) a0) ((decL decZnode) a1) ((decL decZnode) a2))
  | _, _ => none
noncomputable def in90o_4 (l : List Watch) (b : List Znode) (a : List Znode) : LoopInv :=
  ⟨Nat, fun i => ⟨[(0, encL (encWatch 1) 1 l), (1, encL (encZnode 1) 1 b), (2, encL (encZnode 1) 1 a), (8, .osl (canonT 8) (leftW b a (l.take i)).length), (9, .osl (canonT 9) (evW b a (l.take i)).length), (10, .int .i64 i)], [(canonT 8, .arr 2 (leftW b a (l.take i)).length (gL (encWatch 1) (leftW b a (l.take i))) tagS), (canonT 9, .arr 3 (evW b a (l.take i)).length (gL (encTEvent 1) (evW b a (l.take i))) tagS)]⟩,
    fun i => i ≤ l.length, fun i => l.length - i⟩
noncomputable def iv90o (l : List Watch) (b : List Znode) (a : List Znode) : Nat → Option LoopInv := fun rg_ => match rg_ with
  | 4 => some (in90o_4 l b a)
  | _ => none
noncomputable def D90o : Nat → Option (Bool × FSpec) := lk [(69, (false, sp69))]
theorem da90o : SoundAll Tryd.prog D90o := soundAll_cons so69 (soundAll_nil)
noncomputable def cx90o (l : List Watch) (b : List Znode) (a : List Znode) : Cx := ⟨tt, D90o, Tryd.f90.ntmps, [0, 1, 2, 6, 7, 8, 9, 10, 11, 17, 29], [(4, ⟨[(0, none), (1, none), (2, none), (8, some 2), (9, some 3), (10, none)], []⟩)], [], iv90o l b a, [], noM, []⟩
theorem bd90o (l : List Watch) (b : List Znode) (a : List Znode) (hpre : pr90o l b a) : bodyO (cx90o l b a) Tryd.f90 [(0, 2), (1, 3)] [encL (encWatch 1) 1 (l), encL (encZnode 1) 1 (b), encL (encZnode 1) 1 (a)] [] (fun rr bs => VLe rr (rs90o l b a) ∧ BinLe bs (rb90o l b a)) := by
  have key :
      ((∃ x : Nat, ((SLe
   (AS.mk
   [(0, encL (encWatch 1) 1 l), (1, encL (encZnode 1) 1 b),
   (2, encL (encZnode 1) 1 a), (8, V.osl 32000576 0),
   (9, V.osl 32000640 0), (10, V.int IntKind.i64 (0 : Int))]
   [(32000576, Blk.arr 2 0 (rowg []) 100),
   (32000640, Blk.arr 3 0 (rowg []) 100)])
   (AS.mk
   [(0, encL (encWatch 1) 1 l), (1, encL (encZnode 1) 1 b),
   (2, encL (encZnode 1) 1 a),
   (8, V.osl 32000576 (List.length (leftW b a (List.take x l)))),
   (9, V.osl 32000640 (List.length (evW b a (List.take x l)))),
   (10, V.int IntKind.i64 (↑x : Int))]
   [(32000576,
   Blk.arr 2 (List.length (leftW b a (List.take x l)))
   (gL (encWatch 1) (leftW b a (List.take x l))) 100),
   (32000640,
   Blk.arr 3 (List.length (evW b a (List.take x l))) (gL (encTEvent 1) (evW b a (List.take x l)))
   100)])) ∧
   (x ≤ List.length l))) ∧
   (∀ x : Nat,
   ((x ≤ List.length l) →
   (((decide ((↑x : Int) < (↑(List.length l) : Int)) = true) →
   ((((0 : Int) ≤ (↑x : Int)) ∧
   ((↑x : Int) < (↑(List.length l) : Int))) ∧
   (((VLe (encL (encZnode 1) 1 b)
   (encL (encZnode 1) 1 (decL decZnode (encL (encZnode 1) 1 b)))) ∧
   ((VLe (encL (encZnode 1) 1 a)
   (encL (encZnode 1) 1 (decL decZnode (encL (encZnode 1) 1 a)))) ∧
   (pr69 (decL decZnode (encL (encZnode 1) 1 b)) (decL decZnode (encL (encZnode 1) 1 a))
   (Watch.path (List.getD l (Int.toNat (↑x : Int)) default))))) ∧
   ((((changeF (decL decZnode (encL (encZnode 1) 1 b)) (decL decZnode (encL (encZnode 1) 1 a))
   (Watch.path (List.getD l (Int.toNat (↑x : Int)) default)) ==
   (0 : Int)) =
   true) →
   ((((0 : Int) ≤ (↑x : Int)) ∧
   ((↑x : Int) < (↑(List.length l) : Int))) ∧
   ((List.length (leftW b a (List.take x l)) = List.length (leftW b a (List.take x l))) ∧
   ((List.length (leftW b a (List.take x l)) + 1 ≤ 1073741824) ∧
   ((sizedL 2 1 (rowg [encWatch 1 (List.getD l (Int.toNat (↑x : Int)) default)])) ∧
   ((inK IntKind.i64 ((↑x : Int) + (1 : Int))) ∧
   (∃ y : Nat, ((SLe
   (AS.mk
   [(0, encL (encWatch 1) 1 l), (1, encL (encZnode 1) 1 b),
   (2, encL (encZnode 1) 1 a),
   (8, V.osl 32000576 (List.length (leftW b a (List.take x l)) + 1)),
   (9, V.osl 32000640 (List.length (evW b a (List.take x l)))),
   (10, V.int IntKind.i64 ((↑x : Int) + (1 : Int)))]
   [(32000576,
   Blk.arr 2 (List.length (leftW b a (List.take x l)) + 1)
   (appg (List.length (leftW b a (List.take x l))) (gL (encWatch 1) (leftW b a (List.take x l)))
   (rowg [encWatch 1 (List.getD l (Int.toNat (↑x : Int)) default)]))
   100),
   (32000640,
   Blk.arr 3 (List.length (evW b a (List.take x l))) (gL (encTEvent 1) (evW b a (List.take x l)))
   100)])
   (AS.mk
   [(0, encL (encWatch 1) 1 l), (1, encL (encZnode 1) 1 b),
   (2, encL (encZnode 1) 1 a),
   (8, V.osl 32000576 (List.length (leftW b a (List.take y l)))),
   (9, V.osl 32000640 (List.length (evW b a (List.take y l)))),
   (10, V.int IntKind.i64 (↑y : Int))]
   [(32000576,
   Blk.arr 2 (List.length (leftW b a (List.take y l)))
   (gL (encWatch 1) (leftW b a (List.take y l))) 100),
   (32000640,
   Blk.arr 3 (List.length (evW b a (List.take y l))) (gL (encTEvent 1) (evW b a (List.take y l)))
   100)])) ∧
   ((y ≤ List.length l) ∧
   (List.length l - y < List.length l - x)))))))))) ∧
   (((changeF (decL decZnode (encL (encZnode 1) 1 b)) (decL decZnode (encL (encZnode 1) 1 a))
   (Watch.path (List.getD l (Int.toNat (↑x : Int)) default)) ==
   (0 : Int)) =
   false) →
   ((((0 : Int) ≤ (↑x : Int)) ∧
   ((↑x : Int) < (↑(List.length l) : Int))) ∧
   ((((0 : Int) ≤ (↑x : Int)) ∧
   ((↑x : Int) < (↑(List.length l) : Int))) ∧
   ((List.length (evW b a (List.take x l)) = List.length (evW b a (List.take x l))) ∧
   ((List.length (evW b a (List.take x l)) + 1 ≤ 1073741824) ∧
   ((sizedL 3 1
   (rowg
   [V.agg
   [V.int IntKind.i64 (Watch.client (List.getD l (Int.toNat (↑x : Int)) default)),
   V.str (Watch.path (List.getD l (Int.toNat (↑x : Int)) default)),
   V.int IntKind.i64
   (changeF (decL decZnode (encL (encZnode 1) 1 b))
   (decL decZnode (encL (encZnode 1) 1 a))
   (Watch.path (List.getD l (Int.toNat (↑x : Int)) default)))]])) ∧
   ((inK IntKind.i64 ((↑x : Int) + (1 : Int))) ∧
   (∃ y : Nat, ((SLe
   (AS.mk
   [(0, encL (encWatch 1) 1 l), (1, encL (encZnode 1) 1 b),
   (2, encL (encZnode 1) 1 a),
   (8, V.osl 32000576 (List.length (leftW b a (List.take x l)))),
   (9, V.osl 32000640 (List.length (evW b a (List.take x l)) + 1)),
   (10, V.int IntKind.i64 ((↑x : Int) + (1 : Int)))]
   [(32000576,
   Blk.arr 2 (List.length (leftW b a (List.take x l)))
   (gL (encWatch 1) (leftW b a (List.take x l))) 100),
   (32000640,
   Blk.arr 3 (List.length (evW b a (List.take x l)) + 1)
   (appg (List.length (evW b a (List.take x l))) (gL (encTEvent 1) (evW b a (List.take x l)))
   (rowg
   [V.agg
   [V.int IntKind.i64 (Watch.client (List.getD l (Int.toNat (↑x : Int)) default)),
   V.str (Watch.path (List.getD l (Int.toNat (↑x : Int)) default)),
   V.int IntKind.i64
   (changeF (decL decZnode (encL (encZnode 1) 1 b))
   (decL decZnode (encL (encZnode 1) 1 a))
   (Watch.path (List.getD l (Int.toNat (↑x : Int)) default)))]]))
   100)])
   (AS.mk
   [(0, encL (encWatch 1) 1 l), (1, encL (encZnode 1) 1 b),
   (2, encL (encZnode 1) 1 a),
   (8, V.osl 32000576 (List.length (leftW b a (List.take y l)))),
   (9, V.osl 32000640 (List.length (evW b a (List.take y l)))),
   (10, V.int IntKind.i64 (↑y : Int))]
   [(32000576,
   Blk.arr 2 (List.length (leftW b a (List.take y l)))
   (gL (encWatch 1) (leftW b a (List.take y l))) 100),
   (32000640,
   Blk.arr 3 (List.length (evW b a (List.take y l))) (gL (encTEvent 1) (evW b a (List.take y l)))
   100)])) ∧
   ((y ≤ List.length l) ∧
   (List.length l - y < List.length l - x))))))))))))))) ∧
   ((decide ((↑x : Int) < (↑(List.length l) : Int)) = false) →
   ((VLe
   (V.tup
   [V.osl 0 (List.length (leftW b a (List.take x l))),
   V.osl 1 (List.length (evW b a (List.take x l)))])
   (V.tup
   [V.osl 0 (List.length (Prod.fst (leftW b a l, evW b a l))),
   V.osl 1 (List.length (Prod.snd (leftW b a l, evW b a l)))])) ∧
   ((BLe
   (Blk.arr 2 (List.length (leftW b a (List.take x l))) (gL (encWatch 1) (leftW b a (List.take x l)))
   100)
   (Blk.arr 2 (List.length (Prod.fst (leftW b a l, evW b a l)))
   (gL (encWatch 1) (Prod.fst (leftW b a l, evW b a l))) 100)) ∧
   ((BLe
   (Blk.arr 3 (List.length (evW b a (List.take x l))) (gL (encTEvent 1) (evW b a (List.take x l)))
   100)
   (Blk.arr 3 (List.length (Prod.snd (leftW b a l, evW b a l)))
   (gL (encTEvent 1) (Prod.snd (leftW b a l, evW b a l))) 100)) ∧
   (True))))))))) := by
    obtain ⟨hl, hb, ha, hbl, hal⟩ := hpre
    simp only [decL_Znode, ro90o, fireF]
    refine ⟨⟨0, sle_of ⟨rfl, VLe.refl _, rfl, VLe.refl _, rfl, VLe.refl _, rfl, VLe.refl _, rfl, VLe.refl _, rfl, VLe.refl _, trivial⟩ ⟨rfl, ble_nil _, rfl, ble_nil _, trivial⟩, by omega⟩, fun i hi => ⟨fun h => ?_, fun h => ?_⟩⟩
    · have hlt : i < l.length := by simpa using h
      have n1 := leftW_len b a (l.take i)
      have n2 := evW_len b a (l.take i)
      rw [List.length_take] at n1 n2
      simp only [Int.toNat_natCast]
      refine ⟨by omega, ⟨VLe.refl _, VLe.refl _, hb, ha, hbl, hal⟩, fun h2 => ⟨by omega, trivial, by omega, fun k hk => ?_, inK64 (by omega), i + 1, ?_, by omega, by omega⟩, fun h2 => ⟨by omega, by omega, trivial, by omega, fun k hk => ?_, inK64 (by omega), i + 1, ?_, by omega, by omega⟩⟩
      · have hk0 : k = 0 := by omega
        subst hk0
        exact ⟨rfl, rfl⟩
      · have h3 : changeF b a (l.getD i default).path = 0 := by simpa using h2
        rw [leftW_hit hlt h3, evW_no hlt h3, List.length_append, List.length_singleton]
        exact sle_of ⟨rfl, VLe.refl _, rfl, VLe.refl _, rfl, VLe.refl _, rfl, VLe.refl _, rfl, VLe.refl _, rfl, vle_int (by omega), trivial⟩ ⟨rfl, ble_push rfl rfl, rfl, BLe.refl _, trivial⟩
      · have hk0 : k = 0 := by omega
        subst hk0
        exact ⟨rfl, rfl⟩
      · have h3 : ¬ changeF b a (l.getD i default).path = 0 := by simpa using h2
        rw [leftW_no hlt h3, evW_hit hlt h3, List.length_append, List.length_singleton]
        exact sle_of ⟨rfl, VLe.refl _, rfl, VLe.refl _, rfl, VLe.refl _, rfl, VLe.refl _, rfl, VLe.refl _, rfl, vle_int (by omega), trivial⟩ ⟨rfl, BLe.refl _, rfl, ble_push rfl rfl, trivial⟩
    · have hge : i = l.length := by simp at h; omega
      subst hge
      rw [List.take_length]
      exact ⟨VLe.refl _, BLe.refl _, BLe.refl _, trivial⟩
  exact Eq.mp (by kernel_rfl) key
theorem so90o : Sound Tryd.prog 90 sp90o := by
  refine sound_of_bodyO hmix (tpl := [(0, 2), (1, 3)]) Tryd.func90 rfl (by kernel_rfl) fun args bin ob r bout hDe hob => ?_
  unfold sp90o at hDe
  split at hDe
  · rename_i a0 a1 a2
    cases hDe
    exact ⟨Nat.le_of_ble_eq_true (by kernel_rfl), cx90o ((decL decWatch) a0) ((decL decZnode) a1) ((decL decZnode) a2), Eq.mp (by kernel_rfl) htt, Eq.mp (by kernel_rfl) da90o, Eq.mp (by kernel_rfl) (noM_sound (P := Tryd.prog)), by kernel_rfl, [encL (encWatch 1) 1 (((decL decWatch) a0)), encL (encZnode 1) 1 (((decL decZnode) a1)), encL (encZnode 1) 1 (((decL decZnode) a2))], [], args_of_vles (⟨hob.1, hob.2.1, hob.2.2.1, trivial⟩), trivial, Eq.mp (by kernel_rfl) (bd90o ((decL decWatch) a0) ((decL decZnode) a1) ((decL decZnode) a2) (hob.2.2.2))⟩
  · cases hDe

/-! ### impl.FireWatches%o -/
def pr44o (l : List Watch) (b : List Znode) (a : List Znode) : Prop := l.length ≤ 1048576 ∧ b.length ≤ 1048576 ∧ a.length ≤ 1048576
noncomputable def ro44o (l : List Watch) (b : List Znode) (a : List Znode) : WatchResult := fireWF l b a
noncomputable def rb44o (l : List Watch) (b : List Znode) (a : List Znode) : List Blk := [(.arr 2 ((ro44o l b a).watches).length (gL (encWatch 1) ((ro44o l b a).watches)) tagS), (.arr 3 ((ro44o l b a).events).length (gL (encTEvent 1) ((ro44o l b a).events)) tagS)]
noncomputable def rs44o (l : List Watch) (b : List Znode) (a : List Znode) : V := .agg [.int .i64 ((ro44o l b a).code), .osl 0 ((ro44o l b a).watches).length, .osl 1 ((ro44o l b a).events).length]
noncomputable def sp44o : FSpec := fun args bin => match args, bin with
  | [a0, a1, a2], [] => some (VLe a0 (encL (encWatch 1) 1 (((decL decWatch) a0))) ∧ VLe a1 (encL (encZnode 1) 1 (((decL decZnode) a1))) ∧ VLe a2 (encL (encZnode 1) 1 (((decL decZnode) a2))) ∧ pr44o ((decL decWatch) a0) ((decL decZnode) a1) ((decL decZnode) a2), rs44o ((decL decWatch) a0) ((decL decZnode) a1) ((decL decZnode) a2), rb44o ((decL decWatch) a0) ((decL decZnode) a1) ((decL decZnode) a2))
  | _, _ => none
noncomputable def D44o : Nat → Option (Bool × FSpec) := lk [(14, (false, sp14)), (71, (false, sp71)), (91, (false, sp91o))]
theorem da44o : SoundAll Tryd.prog D44o := soundAll_cons so14 (soundAll_cons so71 (soundAll_cons so91o (soundAll_nil)))
noncomputable def cx44o (l : List Watch) (b : List Znode) (a : List Znode) : Cx := ⟨tt, D44o, Tryd.f44.ntmps, [0, 1, 2, 6, 7, 8, 9, 10, 14, 21], [], [], fun _ => none, [], noM, []⟩
theorem bd44o (l : List Watch) (b : List Znode) (a : List Znode) (hpre : pr44o l b a) : bodyO (cx44o l b a) Tryd.f44 [(1, 2), (2, 3)] [encL (encWatch 1) 1 (l), encL (encZnode 1) 1 (b), encL (encZnode 1) 1 (a)] [] (fun rr bs => VLe rr (rs44o l b a) ∧ BinLe bs (rb44o l b a)) := by
  have key :
      (((VLe (encL (encWatch 1) 1 l)
   (encL (encWatch 1) 1 (decL decWatch (encL (encWatch 1) 1 l)))) ∧
   (pr14 (decL decWatch (encL (encWatch 1) 1 l)))) ∧
   ((((watchesF (decL decWatch (encL (encWatch 1) 1 l)) != (0 : Int)) = true) →
   ((VLe
   (V.agg
   [V.int IntKind.i64 (watchesF (decL decWatch (encL (encWatch 1) 1 l))), V.osl 0 0,
   V.osl 1 0])
   (V.agg
   [V.int IntKind.i64 (WatchResult.code (ro44o l b a)),
   V.osl 0 (List.length (WatchResult.watches (ro44o l b a))),
   V.osl 1 (List.length (WatchResult.events (ro44o l b a)))])) ∧
   ((BLe (Blk.arr 2 0 (fun (x : Nat) ↦ V.undef) 100)
   (Blk.arr 2 (List.length (WatchResult.watches (ro44o l b a)))
   (gL (encWatch 1) (WatchResult.watches (ro44o l b a))) 100)) ∧
   ((BLe (Blk.arr 3 0 (fun (x : Nat) ↦ V.undef) 100)
   (Blk.arr 3 (List.length (WatchResult.events (ro44o l b a)))
   (gL (encTEvent 1) (WatchResult.events (ro44o l b a))) 100)) ∧
   (True))))) ∧
   (((watchesF (decL decWatch (encL (encWatch 1) 1 l)) != (0 : Int)) = false) →
   (((VLe (encL (encZnode 1) 1 b)
   (encL (encZnode 1) 1 (decL decZnode (encL (encZnode 1) 1 b)))) ∧
   ((VLe (encL (encZnode 1) 1 a)
   (encL (encZnode 1) 1 (decL decZnode (encL (encZnode 1) 1 a)))) ∧
   (pr71 (decL decZnode (encL (encZnode 1) 1 b)) (decL decZnode (encL (encZnode 1) 1 a))))) ∧
   (((((if treeF (decL decZnode (encL (encZnode 1) 1 b)) ≠ (0 : Int) then
   treeF (decL decZnode (encL (encZnode 1) 1 b))
   else treeF (decL decZnode (encL (encZnode 1) 1 a))) !=
   (0 : Int)) =
   true) →
   ((VLe
   (V.agg
   [V.int IntKind.i64
   (if treeF (decL decZnode (encL (encZnode 1) 1 b)) ≠ (0 : Int) then
   treeF (decL decZnode (encL (encZnode 1) 1 b))
   else treeF (decL decZnode (encL (encZnode 1) 1 a))),
   V.osl 0 0, V.osl 1 0])
   (V.agg
   [V.int IntKind.i64 (WatchResult.code (ro44o l b a)),
   V.osl 0 (List.length (WatchResult.watches (ro44o l b a))),
   V.osl 1 (List.length (WatchResult.events (ro44o l b a)))])) ∧
   ((BLe (Blk.arr 2 0 (fun (x : Nat) ↦ V.undef) 100)
   (Blk.arr 2 (List.length (WatchResult.watches (ro44o l b a)))
   (gL (encWatch 1) (WatchResult.watches (ro44o l b a))) 100)) ∧
   ((BLe (Blk.arr 3 0 (fun (x : Nat) ↦ V.undef) 100)
   (Blk.arr 3 (List.length (WatchResult.events (ro44o l b a)))
   (gL (encTEvent 1) (WatchResult.events (ro44o l b a))) 100)) ∧
   (True))))) ∧
   ((((if treeF (decL decZnode (encL (encZnode 1) 1 b)) ≠ (0 : Int) then
   treeF (decL decZnode (encL (encZnode 1) 1 b))
   else treeF (decL decZnode (encL (encZnode 1) 1 a))) !=
   (0 : Int)) =
   false) →
   (((VLe (encL (encWatch 1) 1 l)
   (encL (encWatch 1) 1 (decL decWatch (encL (encWatch 1) 1 l)))) ∧
   ((VLe (encL (encZnode 1) 1 b)
   (encL (encZnode 1) 1 (decL decZnode (encL (encZnode 1) 1 b)))) ∧
   ((VLe (encL (encZnode 1) 1 a)
   (encL (encZnode 1) 1 (decL decZnode (encL (encZnode 1) 1 a)))) ∧
   (pr91o (decL decWatch (encL (encWatch 1) 1 l)) (decL decZnode (encL (encZnode 1) 1 b))
   (decL decZnode (encL (encZnode 1) 1 a)))))) ∧
   ((VLe
   (V.agg
   [V.int IntKind.i64 (0 : Int),
   V.osl 0
   (List.length
   (Prod.fst
   (leftW (decL decZnode (encL (encZnode 1) 1 b))
   (decL decZnode (encL (encZnode 1) 1 a))
   (decL decWatch (encL (encWatch 1) 1 l)),
   evW (decL decZnode (encL (encZnode 1) 1 b))
   (decL decZnode (encL (encZnode 1) 1 a))
   (decL decWatch (encL (encWatch 1) 1 l))))),
   V.osl 1
   (List.length
   (Prod.snd
   (leftW (decL decZnode (encL (encZnode 1) 1 b))
   (decL decZnode (encL (encZnode 1) 1 a))
   (decL decWatch (encL (encWatch 1) 1 l)),
   evW (decL decZnode (encL (encZnode 1) 1 b))
   (decL decZnode (encL (encZnode 1) 1 a))
   (decL decWatch (encL (encWatch 1) 1 l)))))])
   (V.agg
   [V.int IntKind.i64 (WatchResult.code (ro44o l b a)),
   V.osl 0 (List.length (WatchResult.watches (ro44o l b a))),
   V.osl 1 (List.length (WatchResult.events (ro44o l b a)))])) ∧
   ((BLe
   (Blk.arr 2
   (List.length
   (Prod.fst
   (leftW (decL decZnode (encL (encZnode 1) 1 b))
   (decL decZnode (encL (encZnode 1) 1 a))
   (decL decWatch (encL (encWatch 1) 1 l)),
   evW (decL decZnode (encL (encZnode 1) 1 b))
   (decL decZnode (encL (encZnode 1) 1 a))
   (decL decWatch (encL (encWatch 1) 1 l)))))
   (gL (encWatch 1)
   (Prod.fst
   (leftW (decL decZnode (encL (encZnode 1) 1 b))
   (decL decZnode (encL (encZnode 1) 1 a))
   (decL decWatch (encL (encWatch 1) 1 l)),
   evW (decL decZnode (encL (encZnode 1) 1 b))
   (decL decZnode (encL (encZnode 1) 1 a))
   (decL decWatch (encL (encWatch 1) 1 l)))))
   100)
   (Blk.arr 2 (List.length (WatchResult.watches (ro44o l b a)))
   (gL (encWatch 1) (WatchResult.watches (ro44o l b a))) 100)) ∧
   ((BLe
   (Blk.arr 3
   (List.length
   (Prod.snd
   (leftW (decL decZnode (encL (encZnode 1) 1 b))
   (decL decZnode (encL (encZnode 1) 1 a))
   (decL decWatch (encL (encWatch 1) 1 l)),
   evW (decL decZnode (encL (encZnode 1) 1 b))
   (decL decZnode (encL (encZnode 1) 1 a))
   (decL decWatch (encL (encWatch 1) 1 l)))))
   (gL (encTEvent 1)
   (Prod.snd
   (leftW (decL decZnode (encL (encZnode 1) 1 b))
   (decL decZnode (encL (encZnode 1) 1 a))
   (decL decWatch (encL (encWatch 1) 1 l)),
   evW (decL decZnode (encL (encZnode 1) 1 b))
   (decL decZnode (encL (encZnode 1) 1 a))
   (decL decWatch (encL (encWatch 1) 1 l)))))
   100)
   (Blk.arr 3 (List.length (WatchResult.events (ro44o l b a)))
   (gL (encTEvent 1) (WatchResult.events (ro44o l b a))) 100)) ∧
   (True))))))))))) := by
    obtain ⟨hl, hb, ha⟩ := hpre
    have ml : l.length ≤ maxLen := by unfold maxLen; omega
    have mb : b.length ≤ maxLen := by unfold maxLen; omega
    have ma : a.length ≤ maxLen := by unfold maxLen; omega
    simp only [decL_Znode, decL_Watch, ro44o, ro91o, fireF]
    refine ⟨⟨VLe.refl _, ml⟩, fun h => ?_, fun h => ⟨⟨VLe.refl _, VLe.refl _, mb, ma⟩, fun h2 => ?_, fun h2 => ?_⟩⟩
    · rw [fi_e1 (nz h)]
      exact ⟨VLe.refl _, ble_nil _, ble_nil _, trivial⟩
    · by_cases c : treeF b = 0
      · rw [if_neg (not_not_intro c)] at h2 ⊢
        rw [fi_e3 (ez h) c (nz h2)]
        exact ⟨VLe.refl _, ble_nil _, ble_nil _, trivial⟩
      · rw [if_pos c, fi_e2 (ez h) c]
        exact ⟨VLe.refl _, ble_nil _, ble_nil _, trivial⟩
    · have c : treeF b = 0 := Classical.byContradiction fun c => by rw [if_pos c] at h2; exact c (ez h2)
      rw [if_neg (not_not_intro c)] at h2
      have tb := tree_ok c
      have ta := tree_ok (ez h2)
      rw [fi_e4 (ez h) c (ez h2)]
      exact ⟨⟨VLe.refl _, VLe.refl _, VLe.refl _, hl, rising_scan tb.2.1, rising_scan ta.2.1, by omega, by omega⟩, VLe.refl _, BLe.refl _, BLe.refl _, trivial⟩
  exact Eq.mp (by kernel_rfl) key
theorem so44o : Sound Tryd.prog 44 sp44o := by
  refine sound_of_bodyO hmix (tpl := [(1, 2), (2, 3)]) Tryd.func44 rfl (by kernel_rfl) fun args bin ob r bout hDe hob => ?_
  unfold sp44o at hDe
  split at hDe
  · rename_i a0 a1 a2
    cases hDe
    exact ⟨Nat.le_of_ble_eq_true (by kernel_rfl), cx44o ((decL decWatch) a0) ((decL decZnode) a1) ((decL decZnode) a2), Eq.mp (by kernel_rfl) htt, Eq.mp (by kernel_rfl) da44o, Eq.mp (by kernel_rfl) (noM_sound (P := Tryd.prog)), by kernel_rfl, [encL (encWatch 1) 1 (((decL decWatch) a0)), encL (encZnode 1) 1 (((decL decZnode) a1)), encL (encZnode 1) 1 (((decL decZnode) a2))], [], args_of_vles (⟨hob.1, hob.2.1, hob.2.2.1, trivial⟩), trivial, Eq.mp (by kernel_rfl) (bd44o ((decL decWatch) a0) ((decL decZnode) a1) ((decL decZnode) a2) (hob.2.2.2))⟩
  · cases hDe

/-! ### spec.FireWatches%o -/
def pr43o (l : List Watch) (b : List Znode) (a : List Znode) : Prop := l.length ≤ 1048576 ∧ b.length ≤ 1048576 ∧ a.length ≤ 1048576
noncomputable def ro43o (l : List Watch) (b : List Znode) (a : List Znode) : WatchResult := fireWF l b a
noncomputable def rb43o (l : List Watch) (b : List Znode) (a : List Znode) : List Blk := [(.arr 2 ((ro43o l b a).watches).length (gL (encWatch 1) ((ro43o l b a).watches)) tagS), (.arr 3 ((ro43o l b a).events).length (gL (encTEvent 1) ((ro43o l b a).events)) tagS)]
noncomputable def rs43o (l : List Watch) (b : List Znode) (a : List Znode) : V := .agg [.int .i64 ((ro43o l b a).code), .osl 0 ((ro43o l b a).watches).length, .osl 1 ((ro43o l b a).events).length]
noncomputable def sp43o : FSpec := fun args bin => match args, bin with
  | [a0, a1, a2], [] => some (VLe a0 (encL (encWatch 1) 1 (((decL decWatch) a0))) ∧ VLe a1 (encL (encZnode 1) 1 (((decL decZnode) a1))) ∧ VLe a2 (encL (encZnode 1) 1 (((decL decZnode) a2))) ∧ pr43o ((decL decWatch) a0) ((decL decZnode) a1) ((decL decZnode) a2), rs43o ((decL decWatch) a0) ((decL decZnode) a1) ((decL decZnode) a2), rb43o ((decL decWatch) a0) ((decL decZnode) a1) ((decL decZnode) a2))
  | _, _ => none
noncomputable def D43o : Nat → Option (Bool × FSpec) := lk [(48, (false, sp48)), (67, (false, sp67)), (90, (false, sp90o))]
theorem da43o : SoundAll Tryd.prog D43o := soundAll_cons so48 (soundAll_cons so67 (soundAll_cons so90o (soundAll_nil)))
noncomputable def cx43o (l : List Watch) (b : List Znode) (a : List Znode) : Cx := ⟨tt, D43o, Tryd.f43.ntmps, [0, 1, 2, 6, 7, 8, 9, 10, 11, 15, 21, 27], [], [], fun _ => none, [], noM, []⟩
theorem bd43o (l : List Watch) (b : List Znode) (a : List Znode) (hpre : pr43o l b a) : bodyO (cx43o l b a) Tryd.f43 [(1, 2), (2, 3)] [encL (encWatch 1) 1 (l), encL (encZnode 1) 1 (b), encL (encZnode 1) 1 (a)] [] (fun rr bs => VLe rr (rs43o l b a) ∧ BinLe bs (rb43o l b a)) := by
  have key :
      (((VLe (encL (encWatch 1) 1 l)
   (encL (encWatch 1) 1 (decL decWatch (encL (encWatch 1) 1 l)))) ∧
   (pr48 (decL decWatch (encL (encWatch 1) 1 l)))) ∧
   ((((watchesF (decL decWatch (encL (encWatch 1) 1 l)) != (0 : Int)) = true) →
   ((VLe
   (V.agg
   [V.int IntKind.i64 (watchesF (decL decWatch (encL (encWatch 1) 1 l))), V.osl 0 0,
   V.osl 1 0])
   (V.agg
   [V.int IntKind.i64 (WatchResult.code (ro43o l b a)),
   V.osl 0 (List.length (WatchResult.watches (ro43o l b a))),
   V.osl 1 (List.length (WatchResult.events (ro43o l b a)))])) ∧
   ((BLe (Blk.arr 2 0 (fun (x : Nat) ↦ V.undef) 100)
   (Blk.arr 2 (List.length (WatchResult.watches (ro43o l b a)))
   (gL (encWatch 1) (WatchResult.watches (ro43o l b a))) 100)) ∧
   ((BLe (Blk.arr 3 0 (fun (x : Nat) ↦ V.undef) 100)
   (Blk.arr 3 (List.length (WatchResult.events (ro43o l b a)))
   (gL (encTEvent 1) (WatchResult.events (ro43o l b a))) 100)) ∧
   (True))))) ∧
   (((watchesF (decL decWatch (encL (encWatch 1) 1 l)) != (0 : Int)) = false) →
   (((VLe (encL (encZnode 1) 1 b)
   (encL (encZnode 1) 1 (decL decZnode (encL (encZnode 1) 1 b)))) ∧
   (pr67 (decL decZnode (encL (encZnode 1) 1 b)))) ∧
   ((((treeF (decL decZnode (encL (encZnode 1) 1 b)) != (0 : Int)) = true) →
   ((VLe
   (V.agg
   [V.int IntKind.i64 (treeF (decL decZnode (encL (encZnode 1) 1 b))), V.osl 0 0,
   V.osl 1 0])
   (V.agg
   [V.int IntKind.i64 (WatchResult.code (ro43o l b a)),
   V.osl 0 (List.length (WatchResult.watches (ro43o l b a))),
   V.osl 1 (List.length (WatchResult.events (ro43o l b a)))])) ∧
   ((BLe (Blk.arr 2 0 (fun (x : Nat) ↦ V.undef) 100)
   (Blk.arr 2 (List.length (WatchResult.watches (ro43o l b a)))
   (gL (encWatch 1) (WatchResult.watches (ro43o l b a))) 100)) ∧
   ((BLe (Blk.arr 3 0 (fun (x : Nat) ↦ V.undef) 100)
   (Blk.arr 3 (List.length (WatchResult.events (ro43o l b a)))
   (gL (encTEvent 1) (WatchResult.events (ro43o l b a))) 100)) ∧
   (True))))) ∧
   (((treeF (decL decZnode (encL (encZnode 1) 1 b)) != (0 : Int)) = false) →
   (((VLe (encL (encZnode 1) 1 a)
   (encL (encZnode 1) 1 (decL decZnode (encL (encZnode 1) 1 a)))) ∧
   (pr67 (decL decZnode (encL (encZnode 1) 1 a)))) ∧
   ((((treeF (decL decZnode (encL (encZnode 1) 1 a)) != (0 : Int)) = true) →
   ((VLe
   (V.agg
   [V.int IntKind.i64 (treeF (decL decZnode (encL (encZnode 1) 1 a))), V.osl 0 0,
   V.osl 1 0])
   (V.agg
   [V.int IntKind.i64 (WatchResult.code (ro43o l b a)),
   V.osl 0 (List.length (WatchResult.watches (ro43o l b a))),
   V.osl 1 (List.length (WatchResult.events (ro43o l b a)))])) ∧
   ((BLe (Blk.arr 2 0 (fun (x : Nat) ↦ V.undef) 100)
   (Blk.arr 2 (List.length (WatchResult.watches (ro43o l b a)))
   (gL (encWatch 1) (WatchResult.watches (ro43o l b a))) 100)) ∧
   ((BLe (Blk.arr 3 0 (fun (x : Nat) ↦ V.undef) 100)
   (Blk.arr 3 (List.length (WatchResult.events (ro43o l b a)))
   (gL (encTEvent 1) (WatchResult.events (ro43o l b a))) 100)) ∧
   (True))))) ∧
   (((treeF (decL decZnode (encL (encZnode 1) 1 a)) != (0 : Int)) = false) →
   (((VLe (encL (encWatch 1) 1 l)
   (encL (encWatch 1) 1 (decL decWatch (encL (encWatch 1) 1 l)))) ∧
   ((VLe (encL (encZnode 1) 1 b)
   (encL (encZnode 1) 1 (decL decZnode (encL (encZnode 1) 1 b)))) ∧
   ((VLe (encL (encZnode 1) 1 a)
   (encL (encZnode 1) 1 (decL decZnode (encL (encZnode 1) 1 a)))) ∧
   (pr90o (decL decWatch (encL (encWatch 1) 1 l)) (decL decZnode (encL (encZnode 1) 1 b))
   (decL decZnode (encL (encZnode 1) 1 a)))))) ∧
   ((VLe
   (V.agg
   [V.int IntKind.i64 (0 : Int),
   V.osl 0
   (List.length
   (Prod.fst
   (leftW (decL decZnode (encL (encZnode 1) 1 b))
   (decL decZnode (encL (encZnode 1) 1 a))
   (decL decWatch (encL (encWatch 1) 1 l)),
   evW (decL decZnode (encL (encZnode 1) 1 b))
   (decL decZnode (encL (encZnode 1) 1 a))
   (decL decWatch (encL (encWatch 1) 1 l))))),
   V.osl 1
   (List.length
   (Prod.snd
   (leftW (decL decZnode (encL (encZnode 1) 1 b))
   (decL decZnode (encL (encZnode 1) 1 a))
   (decL decWatch (encL (encWatch 1) 1 l)),
   evW (decL decZnode (encL (encZnode 1) 1 b))
   (decL decZnode (encL (encZnode 1) 1 a))
   (decL decWatch (encL (encWatch 1) 1 l)))))])
   (V.agg
   [V.int IntKind.i64 (WatchResult.code (ro43o l b a)),
   V.osl 0 (List.length (WatchResult.watches (ro43o l b a))),
   V.osl 1 (List.length (WatchResult.events (ro43o l b a)))])) ∧
   ((BLe
   (Blk.arr 2
   (List.length
   (Prod.fst
   (leftW (decL decZnode (encL (encZnode 1) 1 b))
   (decL decZnode (encL (encZnode 1) 1 a))
   (decL decWatch (encL (encWatch 1) 1 l)),
   evW (decL decZnode (encL (encZnode 1) 1 b))
   (decL decZnode (encL (encZnode 1) 1 a))
   (decL decWatch (encL (encWatch 1) 1 l)))))
   (gL (encWatch 1)
   (Prod.fst
   (leftW (decL decZnode (encL (encZnode 1) 1 b))
   (decL decZnode (encL (encZnode 1) 1 a))
   (decL decWatch (encL (encWatch 1) 1 l)),
   evW (decL decZnode (encL (encZnode 1) 1 b))
   (decL decZnode (encL (encZnode 1) 1 a))
   (decL decWatch (encL (encWatch 1) 1 l)))))
   100)
   (Blk.arr 2 (List.length (WatchResult.watches (ro43o l b a)))
   (gL (encWatch 1) (WatchResult.watches (ro43o l b a))) 100)) ∧
   ((BLe
   (Blk.arr 3
   (List.length
   (Prod.snd
   (leftW (decL decZnode (encL (encZnode 1) 1 b))
   (decL decZnode (encL (encZnode 1) 1 a))
   (decL decWatch (encL (encWatch 1) 1 l)),
   evW (decL decZnode (encL (encZnode 1) 1 b))
   (decL decZnode (encL (encZnode 1) 1 a))
   (decL decWatch (encL (encWatch 1) 1 l)))))
   (gL (encTEvent 1)
   (Prod.snd
   (leftW (decL decZnode (encL (encZnode 1) 1 b))
   (decL decZnode (encL (encZnode 1) 1 a))
   (decL decWatch (encL (encWatch 1) 1 l)),
   evW (decL decZnode (encL (encZnode 1) 1 b))
   (decL decZnode (encL (encZnode 1) 1 a))
   (decL decWatch (encL (encWatch 1) 1 l)))))
   100)
   (Blk.arr 3 (List.length (WatchResult.events (ro43o l b a)))
   (gL (encTEvent 1) (WatchResult.events (ro43o l b a))) 100)) ∧
   (True)))))))))))))) := by
    obtain ⟨hl, hb, ha⟩ := hpre
    have ml : l.length ≤ maxLen := by unfold maxLen; omega
    have mb : b.length ≤ maxLen := by unfold maxLen; omega
    have ma : a.length ≤ maxLen := by unfold maxLen; omega
    simp only [decL_Znode, decL_Watch, ro43o, ro90o, fireF]
    refine ⟨⟨VLe.refl _, ml⟩, fun h => ?_, fun h => ⟨⟨VLe.refl _, mb⟩, fun h2 => ?_, fun h2 => ⟨⟨VLe.refl _, ma⟩, fun h3 => ?_, fun h3 => ?_⟩⟩⟩
    · rw [fi_e1 (nz h)]
      exact ⟨VLe.refl _, ble_nil _, ble_nil _, trivial⟩
    · rw [fi_e2 (ez h) (nz h2)]
      exact ⟨VLe.refl _, ble_nil _, ble_nil _, trivial⟩
    · rw [fi_e3 (ez h) (ez h2) (nz h3)]
      exact ⟨VLe.refl _, ble_nil _, ble_nil _, trivial⟩
    · have tb := tree_ok (ez h2)
      have ta := tree_ok (ez h3)
      rw [fi_e4 (ez h) (ez h2) (ez h3)]
      exact ⟨⟨VLe.refl _, VLe.refl _, VLe.refl _, hl, rising_scan tb.2.1, rising_scan ta.2.1, by omega, by omega⟩, VLe.refl _, BLe.refl _, BLe.refl _, trivial⟩
  exact Eq.mp (by kernel_rfl) key
theorem so43o : Sound Tryd.prog 43 sp43o := by
  refine sound_of_bodyO hmix (tpl := [(1, 2), (2, 3)]) Tryd.func43 rfl (by kernel_rfl) fun args bin ob r bout hDe hob => ?_
  unfold sp43o at hDe
  split at hDe
  · rename_i a0 a1 a2
    cases hDe
    exact ⟨Nat.le_of_ble_eq_true (by kernel_rfl), cx43o ((decL decWatch) a0) ((decL decZnode) a1) ((decL decZnode) a2), Eq.mp (by kernel_rfl) htt, Eq.mp (by kernel_rfl) da43o, Eq.mp (by kernel_rfl) (noM_sound (P := Tryd.prog)), by kernel_rfl, [encL (encWatch 1) 1 (((decL decWatch) a0)), encL (encZnode 1) 1 (((decL decZnode) a1)), encL (encZnode 1) 1 (((decL decZnode) a2))], [], args_of_vles (⟨hob.1, hob.2.1, hob.2.2.1, trivial⟩), trivial, Eq.mp (by kernel_rfl) (bd43o ((decL decWatch) a0) ((decL decZnode) a1) ((decL decZnode) a2) (hob.2.2.2))⟩
  · cases hDe

/-! ### laws.FnExactFireWatches -/
def pr9 (l : List Watch) (b : List Znode) (a : List Znode) : Prop := (l.length ≤ maxLen ∧ ∀ x ∈ l, x.bd) ∧ (b.length ≤ maxLen ∧ ∀ x ∈ b, x.bd) ∧ (a.length ≤ maxLen ∧ ∀ x ∈ a, x.bd)
noncomputable def rs9 (l : List Watch) (b : List Znode) (a : List Znode) : V := .bool (true)
def Q9 (vs : List V) : Prop := ∃ (l : List Watch) (b : List Znode) (a : List Znode), ArgsLe vs [encL (encWatch 1) 1 (l), encL (encZnode 1) 1 (b), encL (encZnode 1) 1 (a)] ∧ pr9 l b a
noncomputable def D9 : Nat → Option (Bool × FSpec) := lk [(11, (false, sp11)), (29, (false, sp29)), (13, (false, sp13o)), (31, (false, sp31o)), (15, (false, sp15)), (34, (false, sp34)), (43, (false, sp43o)), (44, (false, sp44o)), (25, (false, sp25)), (27, (true, sp27)), (28, (false, sp28))]
theorem da9 : SoundAll Tryd.prog D9 := soundAll_cons so11 (soundAll_cons so29 (soundAll_cons so13o (soundAll_cons so31o (soundAll_cons so15 (soundAll_cons so34 (soundAll_cons so43o (soundAll_cons so44o (soundAll_cons so25 (soundAll_cons so27 (soundAll_cons so28 (soundAll_nil)))))))))))
noncomputable def cx9 (l : List Watch) (b : List Znode) (a : List Znode) : Cx := ⟨tt, D9, Tryd.f9.ntmps, [0, 1, 2, 6, 7, 8, 9, 10, 11, 12, 13, 14, 15, 16, 21, 26, 31, 52, 57, 62, 67, 84, 92, 95, 106, 111, 114], [], [], fun _ => none, [25,26,27], (lk [(26, mm26), (45, mm45)]), []⟩
theorem bd9 (l : List Watch) (b : List Znode) (a : List Znode) (hpre : pr9 l b a) : bodyP (cx9 l b a) Tryd.f9 0 [encL (encWatch 1) 1 (l), encL (encZnode 1) 1 (b), encL (encZnode 1) 1 (a)] (fun rr => VLe rr (rs9 l b a)) := by
  have key :
      (((VLe (encL (encWatch 1) 1 l)
   (encL (encWatch 1) 1 (decL decWatch (encL (encWatch 1) 1 l)))) ∧
   (pr11 (decL decWatch (encL (encWatch 1) 1 l)) (1048576 : Int))) ∧
   (((decide (szS szWatch (decL decWatch (encL (encWatch 1) 1 l)) (1048576 : Int) < (0 : Int)) = true) →
   (VLe (V.bool true) (V.bool true))) ∧
   ((decide (szS szWatch (decL decWatch (encL (encWatch 1) 1 l)) (1048576 : Int) < (0 : Int)) = false) →
   (((VLe (encL (encZnode 1) 1 b)
   (encL (encZnode 1) 1 (decL decZnode (encL (encZnode 1) 1 b)))) ∧
   (pr29 (decL decZnode (encL (encZnode 1) 1 b))
   (szS szWatch (decL decWatch (encL (encWatch 1) 1 l)) (1048576 : Int)))) ∧
   (((decide
   (szS szZnode (decL decZnode (encL (encZnode 1) 1 b))
   (szS szWatch (decL decWatch (encL (encWatch 1) 1 l)) (1048576 : Int)) <
   (0 : Int)) =
   true) →
   (VLe (V.bool true) (V.bool true))) ∧
   ((decide
   (szS szZnode (decL decZnode (encL (encZnode 1) 1 b))
   (szS szWatch (decL decWatch (encL (encWatch 1) 1 l)) (1048576 : Int)) <
   (0 : Int)) =
   false) →
   (((VLe (encL (encZnode 1) 1 a)
   (encL (encZnode 1) 1 (decL decZnode (encL (encZnode 1) 1 a)))) ∧
   (pr29 (decL decZnode (encL (encZnode 1) 1 a))
   (szS szZnode (decL decZnode (encL (encZnode 1) 1 b))
   (szS szWatch (decL decWatch (encL (encWatch 1) 1 l)) (1048576 : Int))))) ∧
   (((decide
   (szS szZnode (decL decZnode (encL (encZnode 1) 1 a))
   (szS szZnode (decL decZnode (encL (encZnode 1) 1 b))
   (szS szWatch (decL decWatch (encL (encWatch 1) 1 l)) (1048576 : Int))) <
   (0 : Int)) =
   true) →
   (VLe (V.bool true) (V.bool true))) ∧
   ((decide
   (szS szZnode (decL decZnode (encL (encZnode 1) 1 a))
   (szS szZnode (decL decZnode (encL (encZnode 1) 1 b))
   (szS szWatch (decL decWatch (encL (encWatch 1) 1 l)) (1048576 : Int))) <
   (0 : Int)) =
   false) →
   (((VLe (encL (encWatch 1) 1 l)
   (encL (encWatch 1) 1 (decL decWatch (encL (encWatch 1) 1 l)))) ∧
   (pr13o (decL decWatch (encL (encWatch 1) 1 l)))) ∧
   (((VLe (encL (encZnode 1) 1 b)
   (encL (encZnode 1) 1 (decL decZnode (encL (encZnode 1) 1 b)))) ∧
   (pr31o (decL decZnode (encL (encZnode 1) 1 b)))) ∧
   (((VLe (encL (encZnode 1) 1 a)
   (encL (encZnode 1) 1 (decL decZnode (encL (encZnode 1) 1 a)))) ∧
   (pr31o (decL decZnode (encL (encZnode 1) 1 a)))) ∧
   (((VLe (encL (encWatch 1) 1 (ro13o (decL decWatch (encL (encWatch 1) 1 l))))
   (encL (encWatch 1) 1
   (decL decWatch
   (encL (encWatch 1) 1 (ro13o (decL decWatch (encL (encWatch 1) 1 l))))))) ∧
   ((VLe (encL (encZnode 1) 1 (ro31o (decL decZnode (encL (encZnode 1) 1 b))))
   (encL (encZnode 1) 1
   (decL decZnode
   (encL (encZnode 1) 1 (ro31o (decL decZnode (encL (encZnode 1) 1 b))))))) ∧
   ((VLe (encL (encZnode 1) 1 (ro31o (decL decZnode (encL (encZnode 1) 1 a))))
   (encL (encZnode 1) 1
   (decL decZnode
   (encL (encZnode 1) 1 (ro31o (decL decZnode (encL (encZnode 1) 1 a))))))) ∧
   (pr43o
   (decL decWatch (encL (encWatch 1) 1 (ro13o (decL decWatch (encL (encWatch 1) 1 l)))))
   (decL decZnode (encL (encZnode 1) 1 (ro31o (decL decZnode (encL (encZnode 1) 1 b)))))
   (decL decZnode (encL (encZnode 1) 1 (ro31o (decL decZnode (encL (encZnode 1) 1 a))))))))) ∧
   (((VLe (encL (encWatch 1) 1 l)
   (encL (encWatch 1) 1 (decL decWatch (encL (encWatch 1) 1 l)))) ∧
   (pr13o (decL decWatch (encL (encWatch 1) 1 l)))) ∧
   (((VLe (encL (encZnode 1) 1 b)
   (encL (encZnode 1) 1 (decL decZnode (encL (encZnode 1) 1 b)))) ∧
   (pr31o (decL decZnode (encL (encZnode 1) 1 b)))) ∧
   (((VLe (encL (encZnode 1) 1 a)
   (encL (encZnode 1) 1 (decL decZnode (encL (encZnode 1) 1 a)))) ∧
   (pr31o (decL decZnode (encL (encZnode 1) 1 a)))) ∧
   (((VLe (encL (encWatch 1) 1 (ro13o (decL decWatch (encL (encWatch 1) 1 l))))
   (encL (encWatch 1) 1
   (decL decWatch
   (encL (encWatch 1) 1 (ro13o (decL decWatch (encL (encWatch 1) 1 l))))))) ∧
   ((VLe (encL (encZnode 1) 1 (ro31o (decL decZnode (encL (encZnode 1) 1 b))))
   (encL (encZnode 1) 1
   (decL decZnode
   (encL (encZnode 1) 1 (ro31o (decL decZnode (encL (encZnode 1) 1 b))))))) ∧
   ((VLe (encL (encZnode 1) 1 (ro31o (decL decZnode (encL (encZnode 1) 1 a))))
   (encL (encZnode 1) 1
   (decL decZnode
   (encL (encZnode 1) 1 (ro31o (decL decZnode (encL (encZnode 1) 1 a))))))) ∧
   (pr44o
   (decL decWatch (encL (encWatch 1) 1 (ro13o (decL decWatch (encL (encWatch 1) 1 l)))))
   (decL decZnode (encL (encZnode 1) 1 (ro31o (decL decZnode (encL (encZnode 1) 1 b)))))
   (decL decZnode (encL (encZnode 1) 1 (ro31o (decL decZnode (encL (encZnode 1) 1 a))))))))) ∧
   (((VLe
   (encWatchResult 1
   (ro44o
   (decL decWatch
   (encL (encWatch 1) 1 (ro13o (decL decWatch (encL (encWatch 1) 1 l)))))
   (decL decZnode
   (encL (encZnode 1) 1 (ro31o (decL decZnode (encL (encZnode 1) 1 b)))))
   (decL decZnode
   (encL (encZnode 1) 1 (ro31o (decL decZnode (encL (encZnode 1) 1 a)))))))
   (encWatchResult 1
   (decWatchResult
   (encWatchResult 1
   (ro44o
   (decL decWatch
   (encL (encWatch 1) 1 (ro13o (decL decWatch (encL (encWatch 1) 1 l)))))
   (decL decZnode
   (encL (encZnode 1) 1 (ro31o (decL decZnode (encL (encZnode 1) 1 b)))))
   (decL decZnode
   (encL (encZnode 1) 1 (ro31o (decL decZnode (encL (encZnode 1) 1 a)))))))))) ∧
   ((VLe
   (encWatchResult 1
   (ro43o
   (decL decWatch
   (encL (encWatch 1) 1 (ro13o (decL decWatch (encL (encWatch 1) 1 l)))))
   (decL decZnode
   (encL (encZnode 1) 1 (ro31o (decL decZnode (encL (encZnode 1) 1 b)))))
   (decL decZnode
   (encL (encZnode 1) 1 (ro31o (decL decZnode (encL (encZnode 1) 1 a)))))))
   (encWatchResult 1
   (decWatchResult
   (encWatchResult 1
   (ro43o
   (decL decWatch
   (encL (encWatch 1) 1 (ro13o (decL decWatch (encL (encWatch 1) 1 l)))))
   (decL decZnode
   (encL (encZnode 1) 1 (ro31o (decL decZnode (encL (encZnode 1) 1 b)))))
   (decL decZnode
   (encL (encZnode 1) 1 (ro31o (decL decZnode (encL (encZnode 1) 1 a)))))))))) ∧
   (pr25
   (decWatchResult
   (encWatchResult 1
   (ro44o
   (decL decWatch
   (encL (encWatch 1) 1 (ro13o (decL decWatch (encL (encWatch 1) 1 l)))))
   (decL decZnode
   (encL (encZnode 1) 1 (ro31o (decL decZnode (encL (encZnode 1) 1 b)))))
   (decL decZnode
   (encL (encZnode 1) 1 (ro31o (decL decZnode (encL (encZnode 1) 1 a))))))))
   (decWatchResult
   (encWatchResult 1
   (ro43o
   (decL decWatch
   (encL (encWatch 1) 1 (ro13o (decL decWatch (encL (encWatch 1) 1 l)))))
   (decL decZnode
   (encL (encZnode 1) 1 (ro31o (decL decZnode (encL (encZnode 1) 1 b)))))
   (decL decZnode
   (encL (encZnode 1) 1 (ro31o (decL decZnode (encL (encZnode 1) 1 a))))))))))) ∧
   ((((!decide
   (decWatchResult
   (encWatchResult 1
   (ro44o
   (decL decWatch
   (encL (encWatch 1) 1 (ro13o (decL decWatch (encL (encWatch 1) 1 l)))))
   (decL decZnode
   (encL (encZnode 1) 1 (ro31o (decL decZnode (encL (encZnode 1) 1 b)))))
   (decL decZnode
   (encL (encZnode 1) 1
   (ro31o (decL decZnode (encL (encZnode 1) 1 a))))))) =
   decWatchResult
   (encWatchResult 1
   (ro43o
   (decL decWatch
   (encL (encWatch 1) 1 (ro13o (decL decWatch (encL (encWatch 1) 1 l)))))
   (decL decZnode
   (encL (encZnode 1) 1 (ro31o (decL decZnode (encL (encZnode 1) 1 b)))))
   (decL decZnode
   (encL (encZnode 1) 1
   (ro31o (decL decZnode (encL (encZnode 1) 1 a))))))))) =
   true) →
   (VLe (V.bool false) (V.bool true))) ∧
   (((!decide
   (decWatchResult
   (encWatchResult 1
   (ro44o
   (decL decWatch
   (encL (encWatch 1) 1 (ro13o (decL decWatch (encL (encWatch 1) 1 l)))))
   (decL decZnode
   (encL (encZnode 1) 1 (ro31o (decL decZnode (encL (encZnode 1) 1 b)))))
   (decL decZnode
   (encL (encZnode 1) 1
   (ro31o (decL decZnode (encL (encZnode 1) 1 a))))))) =
   decWatchResult
   (encWatchResult 1
   (ro43o
   (decL decWatch
   (encL (encWatch 1) 1 (ro13o (decL decWatch (encL (encWatch 1) 1 l)))))
   (decL decZnode
   (encL (encZnode 1) 1 (ro31o (decL decZnode (encL (encZnode 1) 1 b)))))
   (decL decZnode
   (encL (encZnode 1) 1
   (ro31o (decL decZnode (encL (encZnode 1) 1 a))))))))) =
   false) →
   (((VLe (encL (encWatch 1) 1 l)
   (encL (encWatch 1) 1 (decL decWatch (encL (encWatch 1) 1 l)))) ∧
   (pr13o (decL decWatch (encL (encWatch 1) 1 l)))) ∧
   (((VLe (encL (encWatch 1) 1 (ro13o (decL decWatch (encL (encWatch 1) 1 l))))
   (encL (encWatch 1) 1
   (decL decWatch
   (encL (encWatch 1) 1 (ro13o (decL decWatch (encL (encWatch 1) 1 l))))))) ∧
   ((VLe (encL (encWatch 1) 1 (ro13o (decL decWatch (encL (encWatch 1) 1 l))))
   (encL (encWatch 1) 1
   (decL decWatch
   (encL (encWatch 1) 1 (ro13o (decL decWatch (encL (encWatch 1) 1 l))))))) ∧
   (pr15
   (decL decWatch (encL (encWatch 1) 1 (ro13o (decL decWatch (encL (encWatch 1) 1 l)))))
   (decL decWatch (encL (encWatch 1) 1 (ro13o (decL decWatch (encL (encWatch 1) 1 l)))))))) ∧
   ((((!decide
   (decL decWatch
   (encL (encWatch 1) 1 (ro13o (decL decWatch (encL (encWatch 1) 1 l)))) =
   decL decWatch
   (encL (encWatch 1) 1 (ro13o (decL decWatch (encL (encWatch 1) 1 l)))))) =
   true) →
   (VLe (V.bool false) (V.bool true))) ∧
   (((!decide
   (decL decWatch
   (encL (encWatch 1) 1 (ro13o (decL decWatch (encL (encWatch 1) 1 l)))) =
   decL decWatch
   (encL (encWatch 1) 1 (ro13o (decL decWatch (encL (encWatch 1) 1 l)))))) =
   false) →
   (((VLe (encL (encZnode 1) 1 b)
   (encL (encZnode 1) 1 (decL decZnode (encL (encZnode 1) 1 b)))) ∧
   (pr31o (decL decZnode (encL (encZnode 1) 1 b)))) ∧
   (((VLe (encL (encZnode 1) 1 (ro31o (decL decZnode (encL (encZnode 1) 1 b))))
   (encL (encZnode 1) 1
   (decL decZnode
   (encL (encZnode 1) 1 (ro31o (decL decZnode (encL (encZnode 1) 1 b))))))) ∧
   ((VLe (encL (encZnode 1) 1 (ro31o (decL decZnode (encL (encZnode 1) 1 b))))
   (encL (encZnode 1) 1
   (decL decZnode
   (encL (encZnode 1) 1 (ro31o (decL decZnode (encL (encZnode 1) 1 b))))))) ∧
   (pr34
   (decL decZnode (encL (encZnode 1) 1 (ro31o (decL decZnode (encL (encZnode 1) 1 b)))))
   (decL decZnode (encL (encZnode 1) 1 (ro31o (decL decZnode (encL (encZnode 1) 1 b)))))))) ∧
   ((((!decide
   (decL decZnode
   (encL (encZnode 1) 1 (ro31o (decL decZnode (encL (encZnode 1) 1 b)))) =
   decL decZnode
   (encL (encZnode 1) 1 (ro31o (decL decZnode (encL (encZnode 1) 1 b)))))) =
   true) →
   (VLe (V.bool false) (V.bool true))) ∧
   (((!decide
   (decL decZnode
   (encL (encZnode 1) 1 (ro31o (decL decZnode (encL (encZnode 1) 1 b)))) =
   decL decZnode
   (encL (encZnode 1) 1 (ro31o (decL decZnode (encL (encZnode 1) 1 b)))))) =
   false) →
   (((VLe (encL (encZnode 1) 1 a)
   (encL (encZnode 1) 1 (decL decZnode (encL (encZnode 1) 1 a)))) ∧
   (pr31o (decL decZnode (encL (encZnode 1) 1 a)))) ∧
   (((VLe (encL (encZnode 1) 1 (ro31o (decL decZnode (encL (encZnode 1) 1 a))))
   (encL (encZnode 1) 1
   (decL decZnode
   (encL (encZnode 1) 1 (ro31o (decL decZnode (encL (encZnode 1) 1 a))))))) ∧
   ((VLe (encL (encZnode 1) 1 (ro31o (decL decZnode (encL (encZnode 1) 1 a))))
   (encL (encZnode 1) 1
   (decL decZnode
   (encL (encZnode 1) 1 (ro31o (decL decZnode (encL (encZnode 1) 1 a))))))) ∧
   (pr34
   (decL decZnode (encL (encZnode 1) 1 (ro31o (decL decZnode (encL (encZnode 1) 1 a)))))
   (decL decZnode (encL (encZnode 1) 1 (ro31o (decL decZnode (encL (encZnode 1) 1 a)))))))) ∧
   ((((!decide
   (decL decZnode
   (encL (encZnode 1) 1 (ro31o (decL decZnode (encL (encZnode 1) 1 a)))) =
   decL decZnode
   (encL (encZnode 1) 1 (ro31o (decL decZnode (encL (encZnode 1) 1 a)))))) =
   true) →
   (VLe (V.bool false) (V.bool true))) ∧
   (((!decide
   (decL decZnode
   (encL (encZnode 1) 1 (ro31o (decL decZnode (encL (encZnode 1) 1 a)))) =
   decL decZnode
   (encL (encZnode 1) 1 (ro31o (decL decZnode (encL (encZnode 1) 1 a)))))) =
   false) →
   (((VLe (encL (encWatch 1) 1 (ro13o (decL decWatch (encL (encWatch 1) 1 l))))
   (encL (encWatch 1) 1
   (decL decWatch
   (encL (encWatch 1) 1 (ro13o (decL decWatch (encL (encWatch 1) 1 l))))))) ∧
   (mp26
   (decL decWatch (encL (encWatch 1) 1 (ro13o (decL decWatch (encL (encWatch 1) 1 l)))))
   (1 : Int))) ∧
   (((VLe (encL (encZnode 1) 1 (ro31o (decL decZnode (encL (encZnode 1) 1 b))))
   (encL (encZnode 1) 1
   (decL decZnode
   (encL (encZnode 1) 1 (ro31o (decL decZnode (encL (encZnode 1) 1 b))))))) ∧
   (mp45
   (decL decZnode (encL (encZnode 1) 1 (ro31o (decL decZnode (encL (encZnode 1) 1 b)))))
   ((1 : Int) +
   (2 : Int) *
   (↑(List.length
   (decL decWatch
   (encL (encWatch 1) 1 (ro13o (decL decWatch (encL (encWatch 1) 1 l)))))) :
   Int)))) ∧
   (((VLe (encL (encZnode 1) 1 (ro31o (decL decZnode (encL (encZnode 1) 1 a))))
   (encL (encZnode 1) 1
   (decL decZnode
   (encL (encZnode 1) 1 (ro31o (decL decZnode (encL (encZnode 1) 1 a))))))) ∧
   (mp45
   (decL decZnode (encL (encZnode 1) 1 (ro31o (decL decZnode (encL (encZnode 1) 1 a)))))
   ((1 : Int) +
   (2 : Int) *
   (↑(List.length
   (decL decWatch
   (encL (encWatch 1) 1
   (ro13o (decL decWatch (encL (encWatch 1) 1 l)))))) :
   Int) +
   (5 : Int) *
   (↑(List.length
   (decL decZnode
   (encL (encZnode 1) 1 (ro31o (decL decZnode (encL (encZnode 1) 1 b)))))) :
   Int)))) ∧
   ((tq (!decide
   ((1 : Int) +
   (2 : Int) *
   (↑(List.length
   (decL decWatch
   (encL (encWatch 1) 1
   (ro13o (decL decWatch (encL (encWatch 1) 1 l)))))) :
   Int) +
   (5 : Int) *
   (↑(List.length
   (decL decZnode
   (encL (encZnode 1) 1
   (ro31o (decL decZnode (encL (encZnode 1) 1 b)))))) :
   Int) +
   (5 : Int) *
   (↑(List.length
   (decL decZnode
   (encL (encZnode 1) 1
   (ro31o (decL decZnode (encL (encZnode 1) 1 a)))))) :
   Int) <
   (0 : Int)))) ∧
   ((tq (!decide
   ((1 : Int) +
   (2 : Int) *
   (↑(List.length
   (decL decWatch
   (encL (encWatch 1) 1
   (ro13o (decL decWatch (encL (encWatch 1) 1 l)))))) :
   Int) +
   (5 : Int) *
   (↑(List.length
   (decL decZnode
   (encL (encZnode 1) 1
   (ro31o (decL decZnode (encL (encZnode 1) 1 b)))))) :
   Int) +
   (5 : Int) *
   (↑(List.length
   (decL decZnode
   (encL (encZnode 1) 1
   (ro31o (decL decZnode (encL (encZnode 1) 1 a)))))) :
   Int) <
   (0 : Int)))) ∧
   ((((!decide
   ((1 : Int) +
   (2 : Int) *
   (↑(List.length
   (decL decWatch
   (encL (encWatch 1) 1
   (ro13o (decL decWatch (encL (encWatch 1) 1 l)))))) :
   Int) +
   (5 : Int) *
   (↑(List.length
   (decL decZnode
   (encL (encZnode 1) 1
   (ro31o (decL decZnode (encL (encZnode 1) 1 b)))))) :
   Int) +
   (5 : Int) *
   (↑(List.length
   (decL decZnode
   (encL (encZnode 1) 1
   (ro31o (decL decZnode (encL (encZnode 1) 1 a)))))) :
   Int) <
   (0 : Int))) =
   true) →
   ((VLe
   (encWatchResult 1
   (ro44o
   (decL decWatch
   (encL (encWatch 1) 1 (ro13o (decL decWatch (encL (encWatch 1) 1 l)))))
   (decL decZnode
   (encL (encZnode 1) 1 (ro31o (decL decZnode (encL (encZnode 1) 1 b)))))
   (decL decZnode
   (encL (encZnode 1) 1 (ro31o (decL decZnode (encL (encZnode 1) 1 a)))))))
   (encWatchResult 1
   (decWatchResult
   (encWatchResult 1
   (ro44o
   (decL decWatch
   (encL (encWatch 1) 1 (ro13o (decL decWatch (encL (encWatch 1) 1 l)))))
   (decL decZnode
   (encL (encZnode 1) 1 (ro31o (decL decZnode (encL (encZnode 1) 1 b)))))
   (decL decZnode
   (encL (encZnode 1) 1 (ro31o (decL decZnode (encL (encZnode 1) 1 a)))))))))) ∧
   ((VLe
   (encWatchResult 1
   (ro43o
   (decL decWatch
   (encL (encWatch 1) 1 (ro13o (decL decWatch (encL (encWatch 1) 1 l)))))
   (decL decZnode
   (encL (encZnode 1) 1 (ro31o (decL decZnode (encL (encZnode 1) 1 b)))))
   (decL decZnode
   (encL (encZnode 1) 1 (ro31o (decL decZnode (encL (encZnode 1) 1 a)))))))
   (encWatchResult 1
   (decWatchResult
   (encWatchResult 1
   (ro43o
   (decL decWatch
   (encL (encWatch 1) 1 (ro13o (decL decWatch (encL (encWatch 1) 1 l)))))
   (decL decZnode
   (encL (encZnode 1) 1 (ro31o (decL decZnode (encL (encZnode 1) 1 b)))))
   (decL decZnode
   (encL (encZnode 1) 1 (ro31o (decL decZnode (encL (encZnode 1) 1 a)))))))))) ∧
   (pr25
   (decWatchResult
   (encWatchResult 1
   (ro44o
   (decL decWatch
   (encL (encWatch 1) 1 (ro13o (decL decWatch (encL (encWatch 1) 1 l)))))
   (decL decZnode
   (encL (encZnode 1) 1 (ro31o (decL decZnode (encL (encZnode 1) 1 b)))))
   (decL decZnode
   (encL (encZnode 1) 1 (ro31o (decL decZnode (encL (encZnode 1) 1 a))))))))
   (decWatchResult
   (encWatchResult 1
   (ro43o
   (decL decWatch
   (encL (encWatch 1) 1 (ro13o (decL decWatch (encL (encWatch 1) 1 l)))))
   (decL decZnode
   (encL (encZnode 1) 1 (ro31o (decL decZnode (encL (encZnode 1) 1 b)))))
   (decL decZnode
   (encL (encZnode 1) 1 (ro31o (decL decZnode (encL (encZnode 1) 1 a)))))))))))) ∧
   ((tq (!decide
   ((1 : Int) +
   (2 : Int) *
   (↑(List.length
   (decL decWatch
   (encL (encWatch 1) 1
   (ro13o (decL decWatch (encL (encWatch 1) 1 l)))))) :
   Int) +
   (5 : Int) *
   (↑(List.length
   (decL decZnode
   (encL (encZnode 1) 1
   (ro31o (decL decZnode (encL (encZnode 1) 1 b)))))) :
   Int) +
   (5 : Int) *
   (↑(List.length
   (decL decZnode
   (encL (encZnode 1) 1
   (ro31o (decL decZnode (encL (encZnode 1) 1 a)))))) :
   Int) <
   (0 : Int)))) ∧
   (((true = true) →
   ((decide
   ((1 : Int) +
   (2 : Int) *
   (↑(List.length
   (decL decWatch
   (encL (encWatch 1) 1
   (ro13o (decL decWatch (encL (encWatch 1) 1 l)))))) :
   Int) +
   (5 : Int) *
   (↑(List.length
   (decL decZnode
   (encL (encZnode 1) 1
   (ro31o (decL decZnode (encL (encZnode 1) 1 b)))))) :
   Int) +
   (5 : Int) *
   (↑(List.length
   (decL decZnode
   (encL (encZnode 1) 1
   (ro31o (decL decZnode (encL (encZnode 1) 1 a)))))) :
   Int) <
   (0 : Int)) =
   false) →
   ((!decide
   ((1 : Int) +
   (2 : Int) *
   (↑(List.length
   (decL decWatch
   (encL (encWatch 1) 1
   (ro13o (decL decWatch (encL (encWatch 1) 1 l)))))) :
   Int) +
   (5 : Int) *
   (↑(List.length
   (decL decZnode
   (encL (encZnode 1) 1
   (ro31o (decL decZnode (encL (encZnode 1) 1 b)))))) :
   Int) +
   (5 : Int) *
   (↑(List.length
   (decL decZnode
   (encL (encZnode 1) 1
   (ro31o (decL decZnode (encL (encZnode 1) 1 a)))))) :
   Int) <
   (0 : Int))) =
   true))) ∧
   (∀ b_1 : Bool,
   ((b_1 =
   bif
   decide
   ((1 : Int) +
   (2 : Int) *
   (↑(List.length
   (decL decWatch
   (encL (encWatch 1) 1
   (ro13o (decL decWatch (encL (encWatch 1) 1 l)))))) :
   Int) +
   (5 : Int) *
   (↑(List.length
   (decL decZnode
   (encL (encZnode 1) 1
   (ro31o (decL decZnode (encL (encZnode 1) 1 b)))))) :
   Int) +
   (5 : Int) *
   (↑(List.length
   (decL decZnode
   (encL (encZnode 1) 1
   (ro31o (decL decZnode (encL (encZnode 1) 1 a)))))) :
   Int) <
   (0 : Int)) then
   true
   else
   !decide
   (decWatchResult
   (encWatchResult 1
   (ro44o
   (decL decWatch
   (encL (encWatch 1) 1 (ro13o (decL decWatch (encL (encWatch 1) 1 l)))))
   (decL decZnode
   (encL (encZnode 1) 1 (ro31o (decL decZnode (encL (encZnode 1) 1 b)))))
   (decL decZnode
   (encL (encZnode 1) 1
   (ro31o (decL decZnode (encL (encZnode 1) 1 a))))))) =
   decWatchResult
   (encWatchResult 1
   (ro43o
   (decL decWatch
   (encL (encWatch 1) 1 (ro13o (decL decWatch (encL (encWatch 1) 1 l)))))
   (decL decZnode
   (encL (encZnode 1) 1 (ro31o (decL decZnode (encL (encZnode 1) 1 b)))))
   (decL decZnode
   (encL (encZnode 1) 1
   (ro31o (decL decZnode (encL (encZnode 1) 1 a))))))))) →
   (((b_1 = true) →
   (VLe (V.bool false) (V.bool true))) ∧
   ((b_1 = false) →
   ((((0 = 0) ∧
   ((2 = 2) ∧
   ((100 = 100) ∧
   ((List.length
   (WatchResult.watches
   (ro44o
   (decL decWatch
   (encL (encWatch 1) 1 (ro13o (decL decWatch (encL (encWatch 1) 1 l)))))
   (decL decZnode
   (encL (encZnode 1) 1 (ro31o (decL decZnode (encL (encZnode 1) 1 b)))))
   (decL decZnode
   (encL (encZnode 1) 1 (ro31o (decL decZnode (encL (encZnode 1) 1 a))))))) =
   List.length
   (WatchResult.watches
   (ro44o
   (decL decWatch
   (encL (encWatch 1) 1 (ro13o (decL decWatch (encL (encWatch 1) 1 l)))))
   (decL decZnode
   (encL (encZnode 1) 1 (ro31o (decL decZnode (encL (encZnode 1) 1 b)))))
   (decL decZnode
   (encL (encZnode 1) 1 (ro31o (decL decZnode (encL (encZnode 1) 1 a)))))))) ∧
   (∃ y : List Watch, ((List.length y =
   List.length
   (WatchResult.watches
   (ro44o
   (decL decWatch
   (encL (encWatch 1) 1 (ro13o (decL decWatch (encL (encWatch 1) 1 l)))))
   (decL decZnode
   (encL (encZnode 1) 1 (ro31o (decL decZnode (encL (encZnode 1) 1 b)))))
   (decL decZnode
   (encL (encZnode 1) 1 (ro31o (decL decZnode (encL (encZnode 1) 1 a)))))))) ∧
   (∀ i : Nat,
   ((i <
   List.length
   (WatchResult.watches
   (ro44o
   (decL decWatch
   (encL (encWatch 1) 1 (ro13o (decL decWatch (encL (encWatch 1) 1 l)))))
   (decL decZnode
   (encL (encZnode 1) 1 (ro31o (decL decZnode (encL (encZnode 1) 1 b)))))
   (decL decZnode
   (encL (encZnode 1) 1 (ro31o (decL decZnode (encL (encZnode 1) 1 a)))))))) →
   (ELe
   (encWatch 1
   (List.getD
   (WatchResult.watches
   (ro44o
   (decL decWatch
   (encL (encWatch 1) 1 (ro13o (decL decWatch (encL (encWatch 1) 1 l)))))
   (decL decZnode
   (encL (encZnode 1) 1 (ro31o (decL decZnode (encL (encZnode 1) 1 b)))))
   (decL decZnode
   (encL (encZnode 1) 1 (ro31o (decL decZnode (encL (encZnode 1) 1 a)))))))
   i default))
   (encWatch 1 (List.getD y i default))))))))))) ∧
   (((1 = 1) ∧
   ((3 = 3) ∧
   ((100 = 100) ∧
   ((List.length
   (WatchResult.events
   (ro44o
   (decL decWatch
   (encL (encWatch 1) 1 (ro13o (decL decWatch (encL (encWatch 1) 1 l)))))
   (decL decZnode
   (encL (encZnode 1) 1 (ro31o (decL decZnode (encL (encZnode 1) 1 b)))))
   (decL decZnode
   (encL (encZnode 1) 1 (ro31o (decL decZnode (encL (encZnode 1) 1 a))))))) =
   List.length
   (WatchResult.events
   (ro44o
   (decL decWatch
   (encL (encWatch 1) 1 (ro13o (decL decWatch (encL (encWatch 1) 1 l)))))
   (decL decZnode
   (encL (encZnode 1) 1 (ro31o (decL decZnode (encL (encZnode 1) 1 b)))))
   (decL decZnode
   (encL (encZnode 1) 1 (ro31o (decL decZnode (encL (encZnode 1) 1 a)))))))) ∧
   (∃ y : List TEvent, ((List.length y =
   List.length
   (WatchResult.events
   (ro44o
   (decL decWatch
   (encL (encWatch 1) 1 (ro13o (decL decWatch (encL (encWatch 1) 1 l)))))
   (decL decZnode
   (encL (encZnode 1) 1 (ro31o (decL decZnode (encL (encZnode 1) 1 b)))))
   (decL decZnode
   (encL (encZnode 1) 1 (ro31o (decL decZnode (encL (encZnode 1) 1 a)))))))) ∧
   (∀ i : Nat,
   ((i <
   List.length
   (WatchResult.events
   (ro44o
   (decL decWatch
   (encL (encWatch 1) 1 (ro13o (decL decWatch (encL (encWatch 1) 1 l)))))
   (decL decZnode
   (encL (encZnode 1) 1 (ro31o (decL decZnode (encL (encZnode 1) 1 b)))))
   (decL decZnode
   (encL (encZnode 1) 1 (ro31o (decL decZnode (encL (encZnode 1) 1 a)))))))) →
   (ELe
   (encTEvent 1
   (List.getD
   (WatchResult.events
   (ro44o
   (decL decWatch
   (encL (encWatch 1) 1 (ro13o (decL decWatch (encL (encWatch 1) 1 l)))))
   (decL decZnode
   (encL (encZnode 1) 1 (ro31o (decL decZnode (encL (encZnode 1) 1 b)))))
   (decL decZnode
   (encL (encZnode 1) 1 (ro31o (decL decZnode (encL (encZnode 1) 1 a)))))))
   i default))
   (encTEvent 1 (List.getD y i default))))))))))) ∧
   (pr27
   (List.length
   (WatchResult.watches
   (ro44o
   (decL decWatch
   (encL (encWatch 1) 1 (ro13o (decL decWatch (encL (encWatch 1) 1 l)))))
   (decL decZnode
   (encL (encZnode 1) 1 (ro31o (decL decZnode (encL (encZnode 1) 1 b)))))
   (decL decZnode
   (encL (encZnode 1) 1 (ro31o (decL decZnode (encL (encZnode 1) 1 a))))))))
   (List.length
   (WatchResult.events
   (ro44o
   (decL decWatch
   (encL (encWatch 1) 1 (ro13o (decL decWatch (encL (encWatch 1) 1 l)))))
   (decL decZnode
   (encL (encZnode 1) 1 (ro31o (decL decZnode (encL (encZnode 1) 1 b)))))
   (decL decZnode
   (encL (encZnode 1) 1 (ro31o (decL decZnode (encL (encZnode 1) 1 a))))))))
   (1 : Int)))) ∧
   ((List.length
   (WatchResult.watches
   (ro44o
   (decL decWatch
   (encL (encWatch 1) 1 (ro13o (decL decWatch (encL (encWatch 1) 1 l)))))
   (decL decZnode
   (encL (encZnode 1) 1 (ro31o (decL decZnode (encL (encZnode 1) 1 b)))))
   (decL decZnode
   (encL (encZnode 1) 1 (ro31o (decL decZnode (encL (encZnode 1) 1 a))))))) =
   List.length
   (WatchResult.watches
   (ro44o
   (decL decWatch
   (encL (encWatch 1) 1 (ro13o (decL decWatch (encL (encWatch 1) 1 l)))))
   (decL decZnode
   (encL (encZnode 1) 1 (ro31o (decL decZnode (encL (encZnode 1) 1 b)))))
   (decL decZnode
   (encL (encZnode 1) 1 (ro31o (decL decZnode (encL (encZnode 1) 1 a)))))))) ∧
   ((List.length
   (WatchResult.events
   (ro44o
   (decL decWatch
   (encL (encWatch 1) 1 (ro13o (decL decWatch (encL (encWatch 1) 1 l)))))
   (decL decZnode
   (encL (encZnode 1) 1 (ro31o (decL decZnode (encL (encZnode 1) 1 b)))))
   (decL decZnode
   (encL (encZnode 1) 1 (ro31o (decL decZnode (encL (encZnode 1) 1 a))))))) =
   List.length
   (WatchResult.events
   (ro44o
   (decL decWatch
   (encL (encWatch 1) 1 (ro13o (decL decWatch (encL (encWatch 1) 1 l)))))
   (decL decZnode
   (encL (encZnode 1) 1 (ro31o (decL decZnode (encL (encZnode 1) 1 b)))))
   (decL decZnode
   (encL (encZnode 1) 1 (ro31o (decL decZnode (encL (encZnode 1) 1 a)))))))) ∧
   (((VLe
   (V.agg
   [V.int IntKind.i64
   (WatchResult.code
   (ro44o
   (decL decWatch
   (encL (encWatch 1) 1 (ro13o (decL decWatch (encL (encWatch 1) 1 l)))))
   (decL decZnode
   (encL (encZnode 1) 1 (ro31o (decL decZnode (encL (encZnode 1) 1 b)))))
   (decL decZnode
   (encL (encZnode 1) 1 (ro31o (decL decZnode (encL (encZnode 1) 1 a))))))),
   V.sl
   (List.length
   (WatchResult.watches
   (ro44o
   (decL decWatch
   (encL (encWatch 1) 1 (ro13o (decL decWatch (encL (encWatch 1) 1 l)))))
   (decL decZnode
   (encL (encZnode 1) 1 (ro31o (decL decZnode (encL (encZnode 1) 1 b)))))
   (decL decZnode
   (encL (encZnode 1) 1
   (ro31o (decL decZnode (encL (encZnode 1) 1 a))))))))
   (gL (encWatch 1)
   (markW (1 : Int)
   (List.length
   (WatchResult.watches
   (ro44o
   (decL decWatch
   (encL (encWatch 1) 1
   (ro13o (decL decWatch (encL (encWatch 1) 1 l)))))
   (decL decZnode
   (encL (encZnode 1) 1
   (ro31o (decL decZnode (encL (encZnode 1) 1 b)))))
   (decL decZnode
   (encL (encZnode 1) 1
   (ro31o (decL decZnode (encL (encZnode 1) 1 a))))))))))
   1,
   V.sl
   (List.length
   (WatchResult.events
   (ro44o
   (decL decWatch
   (encL (encWatch 1) 1 (ro13o (decL decWatch (encL (encWatch 1) 1 l)))))
   (decL decZnode
   (encL (encZnode 1) 1 (ro31o (decL decZnode (encL (encZnode 1) 1 b)))))
   (decL decZnode
   (encL (encZnode 1) 1
   (ro31o (decL decZnode (encL (encZnode 1) 1 a))))))))
   (gL (encTEvent 1)
   (markE
   ((1 : Int) +
   (2 : Int) *
   (↑(List.length
   (WatchResult.watches
   (ro44o
   (decL decWatch
   (encL (encWatch 1) 1
   (ro13o (decL decWatch (encL (encWatch 1) 1 l)))))
   (decL decZnode
   (encL (encZnode 1) 1
   (ro31o (decL decZnode (encL (encZnode 1) 1 b)))))
   (decL decZnode
   (encL (encZnode 1) 1
   (ro31o (decL decZnode (encL (encZnode 1) 1 a)))))))) :
   Int))
   (List.length
   (WatchResult.events
   (ro44o
   (decL decWatch
   (encL (encWatch 1) 1
   (ro13o (decL decWatch (encL (encWatch 1) 1 l)))))
   (decL decZnode
   (encL (encZnode 1) 1
   (ro31o (decL decZnode (encL (encZnode 1) 1 b)))))
   (decL decZnode
   (encL (encZnode 1) 1
   (ro31o (decL decZnode (encL (encZnode 1) 1 a))))))))))
   1])
   (encWatchResult 1
   (decWatchResult
   (V.agg
   [V.int IntKind.i64
   (WatchResult.code
   (ro44o
   (decL decWatch
   (encL (encWatch 1) 1 (ro13o (decL decWatch (encL (encWatch 1) 1 l)))))
   (decL decZnode
   (encL (encZnode 1) 1 (ro31o (decL decZnode (encL (encZnode 1) 1 b)))))
   (decL decZnode
   (encL (encZnode 1) 1
   (ro31o (decL decZnode (encL (encZnode 1) 1 a))))))),
   V.sl
   (List.length
   (WatchResult.watches
   (ro44o
   (decL decWatch
   (encL (encWatch 1) 1
   (ro13o (decL decWatch (encL (encWatch 1) 1 l)))))
   (decL decZnode
   (encL (encZnode 1) 1
   (ro31o (decL decZnode (encL (encZnode 1) 1 b)))))
   (decL decZnode
   (encL (encZnode 1) 1
   (ro31o (decL decZnode (encL (encZnode 1) 1 a))))))))
   (gL (encWatch 1)
   (markW (1 : Int)
   (List.length
   (WatchResult.watches
   (ro44o
   (decL decWatch
   (encL (encWatch 1) 1
   (ro13o (decL decWatch (encL (encWatch 1) 1 l)))))
   (decL decZnode
   (encL (encZnode 1) 1
   (ro31o (decL decZnode (encL (encZnode 1) 1 b)))))
   (decL decZnode
   (encL (encZnode 1) 1
   (ro31o (decL decZnode (encL (encZnode 1) 1 a))))))))))
   1,
   V.sl
   (List.length
   (WatchResult.events
   (ro44o
   (decL decWatch
   (encL (encWatch 1) 1
   (ro13o (decL decWatch (encL (encWatch 1) 1 l)))))
   (decL decZnode
   (encL (encZnode 1) 1
   (ro31o (decL decZnode (encL (encZnode 1) 1 b)))))
   (decL decZnode
   (encL (encZnode 1) 1
   (ro31o (decL decZnode (encL (encZnode 1) 1 a))))))))
   (gL (encTEvent 1)
   (markE
   ((1 : Int) +
   (2 : Int) *
   (↑(List.length
   (WatchResult.watches
   (ro44o
   (decL decWatch
   (encL (encWatch 1) 1
   (ro13o (decL decWatch (encL (encWatch 1) 1 l)))))
   (decL decZnode
   (encL (encZnode 1) 1
   (ro31o (decL decZnode (encL (encZnode 1) 1 b)))))
   (decL decZnode
   (encL (encZnode 1) 1
   (ro31o (decL decZnode (encL (encZnode 1) 1 a)))))))) :
   Int))
   (List.length
   (WatchResult.events
   (ro44o
   (decL decWatch
   (encL (encWatch 1) 1
   (ro13o (decL decWatch (encL (encWatch 1) 1 l)))))
   (decL decZnode
   (encL (encZnode 1) 1
   (ro31o (decL decZnode (encL (encZnode 1) 1 b)))))
   (decL decZnode
   (encL (encZnode 1) 1
   (ro31o (decL decZnode (encL (encZnode 1) 1 a))))))))))
   1])))) ∧
   (pr28
   (decWatchResult
   (V.agg
   [V.int IntKind.i64
   (WatchResult.code
   (ro44o
   (decL decWatch
   (encL (encWatch 1) 1 (ro13o (decL decWatch (encL (encWatch 1) 1 l)))))
   (decL decZnode
   (encL (encZnode 1) 1 (ro31o (decL decZnode (encL (encZnode 1) 1 b)))))
   (decL decZnode
   (encL (encZnode 1) 1
   (ro31o (decL decZnode (encL (encZnode 1) 1 a))))))),
   V.sl
   (List.length
   (WatchResult.watches
   (ro44o
   (decL decWatch
   (encL (encWatch 1) 1 (ro13o (decL decWatch (encL (encWatch 1) 1 l)))))
   (decL decZnode
   (encL (encZnode 1) 1 (ro31o (decL decZnode (encL (encZnode 1) 1 b)))))
   (decL decZnode
   (encL (encZnode 1) 1
   (ro31o (decL decZnode (encL (encZnode 1) 1 a))))))))
   (gL (encWatch 1)
   (markW (1 : Int)
   (List.length
   (WatchResult.watches
   (ro44o
   (decL decWatch
   (encL (encWatch 1) 1
   (ro13o (decL decWatch (encL (encWatch 1) 1 l)))))
   (decL decZnode
   (encL (encZnode 1) 1
   (ro31o (decL decZnode (encL (encZnode 1) 1 b)))))
   (decL decZnode
   (encL (encZnode 1) 1
   (ro31o (decL decZnode (encL (encZnode 1) 1 a))))))))))
   1,
   V.sl
   (List.length
   (WatchResult.events
   (ro44o
   (decL decWatch
   (encL (encWatch 1) 1 (ro13o (decL decWatch (encL (encWatch 1) 1 l)))))
   (decL decZnode
   (encL (encZnode 1) 1 (ro31o (decL decZnode (encL (encZnode 1) 1 b)))))
   (decL decZnode
   (encL (encZnode 1) 1
   (ro31o (decL decZnode (encL (encZnode 1) 1 a))))))))
   (gL (encTEvent 1)
   (markE
   ((1 : Int) +
   (2 : Int) *
   (↑(List.length
   (WatchResult.watches
   (ro44o
   (decL decWatch
   (encL (encWatch 1) 1
   (ro13o (decL decWatch (encL (encWatch 1) 1 l)))))
   (decL decZnode
   (encL (encZnode 1) 1
   (ro31o (decL decZnode (encL (encZnode 1) 1 b)))))
   (decL decZnode
   (encL (encZnode 1) 1
   (ro31o (decL decZnode (encL (encZnode 1) 1 a)))))))) :
   Int))
   (List.length
   (WatchResult.events
   (ro44o
   (decL decWatch
   (encL (encWatch 1) 1
   (ro13o (decL decWatch (encL (encWatch 1) 1 l)))))
   (decL decZnode
   (encL (encZnode 1) 1
   (ro31o (decL decZnode (encL (encZnode 1) 1 b)))))
   (decL decZnode
   (encL (encZnode 1) 1
   (ro31o (decL decZnode (encL (encZnode 1) 1 a))))))))))
   1]))
   (1 : Int))) ∧
   (((decide
   (heldR
   (decWatchResult
   (V.agg
   [V.int IntKind.i64
   (WatchResult.code
   (ro44o
   (decL decWatch
   (encL (encWatch 1) 1
   (ro13o (decL decWatch (encL (encWatch 1) 1 l)))))
   (decL decZnode
   (encL (encZnode 1) 1
   (ro31o (decL decZnode (encL (encZnode 1) 1 b)))))
   (decL decZnode
   (encL (encZnode 1) 1
   (ro31o (decL decZnode (encL (encZnode 1) 1 a))))))),
   V.sl
   (List.length
   (WatchResult.watches
   (ro44o
   (decL decWatch
   (encL (encWatch 1) 1
   (ro13o (decL decWatch (encL (encWatch 1) 1 l)))))
   (decL decZnode
   (encL (encZnode 1) 1
   (ro31o (decL decZnode (encL (encZnode 1) 1 b)))))
   (decL decZnode
   (encL (encZnode 1) 1
   (ro31o (decL decZnode (encL (encZnode 1) 1 a))))))))
   (gL (encWatch 1)
   (markW (1 : Int)
   (List.length
   (WatchResult.watches
   (ro44o
   (decL decWatch
   (encL (encWatch 1) 1
   (ro13o (decL decWatch (encL (encWatch 1) 1 l)))))
   (decL decZnode
   (encL (encZnode 1) 1
   (ro31o (decL decZnode (encL (encZnode 1) 1 b)))))
   (decL decZnode
   (encL (encZnode 1) 1
   (ro31o (decL decZnode (encL (encZnode 1) 1 a))))))))))
   1,
   V.sl
   (List.length
   (WatchResult.events
   (ro44o
   (decL decWatch
   (encL (encWatch 1) 1
   (ro13o (decL decWatch (encL (encWatch 1) 1 l)))))
   (decL decZnode
   (encL (encZnode 1) 1
   (ro31o (decL decZnode (encL (encZnode 1) 1 b)))))
   (decL decZnode
   (encL (encZnode 1) 1
   (ro31o (decL decZnode (encL (encZnode 1) 1 a))))))))
   (gL (encTEvent 1)
   (markE
   ((1 : Int) +
   (2 : Int) *
   (↑(List.length
   (WatchResult.watches
   (ro44o
   (decL decWatch
   (encL (encWatch 1) 1
   (ro13o (decL decWatch (encL (encWatch 1) 1 l)))))
   (decL decZnode
   (encL (encZnode 1) 1
   (ro31o (decL decZnode (encL (encZnode 1) 1 b)))))
   (decL decZnode
   (encL (encZnode 1) 1
   (ro31o (decL decZnode (encL (encZnode 1) 1 a)))))))) :
   Int))
   (List.length
   (WatchResult.events
   (ro44o
   (decL decWatch
   (encL (encWatch 1) 1
   (ro13o (decL decWatch (encL (encWatch 1) 1 l)))))
   (decL decZnode
   (encL (encZnode 1) 1
   (ro31o (decL decZnode (encL (encZnode 1) 1 b)))))
   (decL decZnode
   (encL (encZnode 1) 1
   (ro31o (decL decZnode (encL (encZnode 1) 1 a))))))))))
   1]))
   (1 : Int) <
   (0 : Int)) =
   true) →
   (VLe (V.bool false) (V.bool true))) ∧
   ((decide
   (heldR
   (decWatchResult
   (V.agg
   [V.int IntKind.i64
   (WatchResult.code
   (ro44o
   (decL decWatch
   (encL (encWatch 1) 1
   (ro13o (decL decWatch (encL (encWatch 1) 1 l)))))
   (decL decZnode
   (encL (encZnode 1) 1
   (ro31o (decL decZnode (encL (encZnode 1) 1 b)))))
   (decL decZnode
   (encL (encZnode 1) 1
   (ro31o (decL decZnode (encL (encZnode 1) 1 a))))))),
   V.sl
   (List.length
   (WatchResult.watches
   (ro44o
   (decL decWatch
   (encL (encWatch 1) 1
   (ro13o (decL decWatch (encL (encWatch 1) 1 l)))))
   (decL decZnode
   (encL (encZnode 1) 1
   (ro31o (decL decZnode (encL (encZnode 1) 1 b)))))
   (decL decZnode
   (encL (encZnode 1) 1
   (ro31o (decL decZnode (encL (encZnode 1) 1 a))))))))
   (gL (encWatch 1)
   (markW (1 : Int)
   (List.length
   (WatchResult.watches
   (ro44o
   (decL decWatch
   (encL (encWatch 1) 1
   (ro13o (decL decWatch (encL (encWatch 1) 1 l)))))
   (decL decZnode
   (encL (encZnode 1) 1
   (ro31o (decL decZnode (encL (encZnode 1) 1 b)))))
   (decL decZnode
   (encL (encZnode 1) 1
   (ro31o (decL decZnode (encL (encZnode 1) 1 a))))))))))
   1,
   V.sl
   (List.length
   (WatchResult.events
   (ro44o
   (decL decWatch
   (encL (encWatch 1) 1
   (ro13o (decL decWatch (encL (encWatch 1) 1 l)))))
   (decL decZnode
   (encL (encZnode 1) 1
   (ro31o (decL decZnode (encL (encZnode 1) 1 b)))))
   (decL decZnode
   (encL (encZnode 1) 1
   (ro31o (decL decZnode (encL (encZnode 1) 1 a))))))))
   (gL (encTEvent 1)
   (markE
   ((1 : Int) +
   (2 : Int) *
   (↑(List.length
   (WatchResult.watches
   (ro44o
   (decL decWatch
   (encL (encWatch 1) 1
   (ro13o (decL decWatch (encL (encWatch 1) 1 l)))))
   (decL decZnode
   (encL (encZnode 1) 1
   (ro31o (decL decZnode (encL (encZnode 1) 1 b)))))
   (decL decZnode
   (encL (encZnode 1) 1
   (ro31o (decL decZnode (encL (encZnode 1) 1 a)))))))) :
   Int))
   (List.length
   (WatchResult.events
   (ro44o
   (decL decWatch
   (encL (encWatch 1) 1
   (ro13o (decL decWatch (encL (encWatch 1) 1 l)))))
   (decL decZnode
   (encL (encZnode 1) 1
   (ro31o (decL decZnode (encL (encZnode 1) 1 b)))))
   (decL decZnode
   (encL (encZnode 1) 1
   (ro31o (decL decZnode (encL (encZnode 1) 1 a))))))))))
   1]))
   (1 : Int) <
   (0 : Int)) =
   false) →
   ((((heldR
   (decWatchResult
   (V.agg
   [V.int IntKind.i64
   (WatchResult.code
   (ro44o
   (decL decWatch
   (encL (encWatch 1) 1
   (ro13o (decL decWatch (encL (encWatch 1) 1 l)))))
   (decL decZnode
   (encL (encZnode 1) 1
   (ro31o (decL decZnode (encL (encZnode 1) 1 b)))))
   (decL decZnode
   (encL (encZnode 1) 1
   (ro31o (decL decZnode (encL (encZnode 1) 1 a))))))),
   V.sl
   (List.length
   (WatchResult.watches
   (ro44o
   (decL decWatch
   (encL (encWatch 1) 1
   (ro13o (decL decWatch (encL (encWatch 1) 1 l)))))
   (decL decZnode
   (encL (encZnode 1) 1
   (ro31o (decL decZnode (encL (encZnode 1) 1 b)))))
   (decL decZnode
   (encL (encZnode 1) 1
   (ro31o (decL decZnode (encL (encZnode 1) 1 a))))))))
   (gL (encWatch 1)
   (markW (1 : Int)
   (List.length
   (WatchResult.watches
   (ro44o
   (decL decWatch
   (encL (encWatch 1) 1
   (ro13o (decL decWatch (encL (encWatch 1) 1 l)))))
   (decL decZnode
   (encL (encZnode 1) 1
   (ro31o (decL decZnode (encL (encZnode 1) 1 b)))))
   (decL decZnode
   (encL (encZnode 1) 1
   (ro31o (decL decZnode (encL (encZnode 1) 1 a))))))))))
   1,
   V.sl
   (List.length
   (WatchResult.events
   (ro44o
   (decL decWatch
   (encL (encWatch 1) 1
   (ro13o (decL decWatch (encL (encWatch 1) 1 l)))))
   (decL decZnode
   (encL (encZnode 1) 1
   (ro31o (decL decZnode (encL (encZnode 1) 1 b)))))
   (decL decZnode
   (encL (encZnode 1) 1
   (ro31o (decL decZnode (encL (encZnode 1) 1 a))))))))
   (gL (encTEvent 1)
   (markE
   ((1 : Int) +
   (2 : Int) *
   (↑(List.length
   (WatchResult.watches
   (ro44o
   (decL decWatch
   (encL (encWatch 1) 1
   (ro13o (decL decWatch (encL (encWatch 1) 1 l)))))
   (decL decZnode
   (encL (encZnode 1) 1
   (ro31o (decL decZnode (encL (encZnode 1) 1 b)))))
   (decL decZnode
   (encL (encZnode 1) 1
   (ro31o (decL decZnode (encL (encZnode 1) 1 a)))))))) :
   Int))
   (List.length
   (WatchResult.events
   (ro44o
   (decL decWatch
   (encL (encWatch 1) 1
   (ro13o (decL decWatch (encL (encWatch 1) 1 l)))))
   (decL decZnode
   (encL (encZnode 1) 1
   (ro31o (decL decZnode (encL (encZnode 1) 1 b)))))
   (decL decZnode
   (encL (encZnode 1) 1
   (ro31o (decL decZnode (encL (encZnode 1) 1 a))))))))))
   1]))
   (1 : Int) !=
   (1 : Int) +
   (2 : Int) *
   (↑(List.length
   (WatchResult.watches
   (ro44o
   (decL decWatch
   (encL (encWatch 1) 1
   (ro13o (decL decWatch (encL (encWatch 1) 1 l)))))
   (decL decZnode
   (encL (encZnode 1) 1
   (ro31o (decL decZnode (encL (encZnode 1) 1 b)))))
   (decL decZnode
   (encL (encZnode 1) 1
   (ro31o (decL decZnode (encL (encZnode 1) 1 a)))))))) :
   Int) +
   (3 : Int) *
   (↑(List.length
   (WatchResult.events
   (ro44o
   (decL decWatch
   (encL (encWatch 1) 1
   (ro13o (decL decWatch (encL (encWatch 1) 1 l)))))
   (decL decZnode
   (encL (encZnode 1) 1
   (ro31o (decL decZnode (encL (encZnode 1) 1 b)))))
   (decL decZnode
   (encL (encZnode 1) 1
   (ro31o (decL decZnode (encL (encZnode 1) 1 a)))))))) :
   Int)) =
   true) →
   (VLe (V.bool false) (V.bool true))) ∧
   (((heldR
   (decWatchResult
   (V.agg
   [V.int IntKind.i64
   (WatchResult.code
   (ro44o
   (decL decWatch
   (encL (encWatch 1) 1
   (ro13o (decL decWatch (encL (encWatch 1) 1 l)))))
   (decL decZnode
   (encL (encZnode 1) 1
   (ro31o (decL decZnode (encL (encZnode 1) 1 b)))))
   (decL decZnode
   (encL (encZnode 1) 1
   (ro31o (decL decZnode (encL (encZnode 1) 1 a))))))),
   V.sl
   (List.length
   (WatchResult.watches
   (ro44o
   (decL decWatch
   (encL (encWatch 1) 1
   (ro13o (decL decWatch (encL (encWatch 1) 1 l)))))
   (decL decZnode
   (encL (encZnode 1) 1
   (ro31o (decL decZnode (encL (encZnode 1) 1 b)))))
   (decL decZnode
   (encL (encZnode 1) 1
   (ro31o (decL decZnode (encL (encZnode 1) 1 a))))))))
   (gL (encWatch 1)
   (markW (1 : Int)
   (List.length
   (WatchResult.watches
   (ro44o
   (decL decWatch
   (encL (encWatch 1) 1
   (ro13o (decL decWatch (encL (encWatch 1) 1 l)))))
   (decL decZnode
   (encL (encZnode 1) 1
   (ro31o (decL decZnode (encL (encZnode 1) 1 b)))))
   (decL decZnode
   (encL (encZnode 1) 1
   (ro31o (decL decZnode (encL (encZnode 1) 1 a))))))))))
   1,
   V.sl
   (List.length
   (WatchResult.events
   (ro44o
   (decL decWatch
   (encL (encWatch 1) 1
   (ro13o (decL decWatch (encL (encWatch 1) 1 l)))))
   (decL decZnode
   (encL (encZnode 1) 1
   (ro31o (decL decZnode (encL (encZnode 1) 1 b)))))
   (decL decZnode
   (encL (encZnode 1) 1
   (ro31o (decL decZnode (encL (encZnode 1) 1 a))))))))
   (gL (encTEvent 1)
   (markE
   ((1 : Int) +
   (2 : Int) *
   (↑(List.length
   (WatchResult.watches
   (ro44o
   (decL decWatch
   (encL (encWatch 1) 1
   (ro13o (decL decWatch (encL (encWatch 1) 1 l)))))
   (decL decZnode
   (encL (encZnode 1) 1
   (ro31o (decL decZnode (encL (encZnode 1) 1 b)))))
   (decL decZnode
   (encL (encZnode 1) 1
   (ro31o (decL decZnode (encL (encZnode 1) 1 a)))))))) :
   Int))
   (List.length
   (WatchResult.events
   (ro44o
   (decL decWatch
   (encL (encWatch 1) 1
   (ro13o (decL decWatch (encL (encWatch 1) 1 l)))))
   (decL decZnode
   (encL (encZnode 1) 1
   (ro31o (decL decZnode (encL (encZnode 1) 1 b)))))
   (decL decZnode
   (encL (encZnode 1) 1
   (ro31o (decL decZnode (encL (encZnode 1) 1 a))))))))))
   1]))
   (1 : Int) !=
   (1 : Int) +
   (2 : Int) *
   (↑(List.length
   (WatchResult.watches
   (ro44o
   (decL decWatch
   (encL (encWatch 1) 1
   (ro13o (decL decWatch (encL (encWatch 1) 1 l)))))
   (decL decZnode
   (encL (encZnode 1) 1
   (ro31o (decL decZnode (encL (encZnode 1) 1 b)))))
   (decL decZnode
   (encL (encZnode 1) 1
   (ro31o (decL decZnode (encL (encZnode 1) 1 a)))))))) :
   Int) +
   (3 : Int) *
   (↑(List.length
   (WatchResult.events
   (ro44o
   (decL decWatch
   (encL (encWatch 1) 1
   (ro13o (decL decWatch (encL (encWatch 1) 1 l)))))
   (decL decZnode
   (encL (encZnode 1) 1
   (ro31o (decL decZnode (encL (encZnode 1) 1 b)))))
   (decL decZnode
   (encL (encZnode 1) 1
   (ro31o (decL decZnode (encL (encZnode 1) 1 a)))))))) :
   Int)) =
   false) →
   (((VLe (encL (encWatch 1) 1 l)
   (encL (encWatch 1) 1 (decL decWatch (encL (encWatch 1) 1 l)))) ∧
   (pr13o (decL decWatch (encL (encWatch 1) 1 l)))) ∧
   (((VLe (encL (encZnode 1) 1 b)
   (encL (encZnode 1) 1 (decL decZnode (encL (encZnode 1) 1 b)))) ∧
   (pr31o (decL decZnode (encL (encZnode 1) 1 b)))) ∧
   (((VLe (encL (encZnode 1) 1 a)
   (encL (encZnode 1) 1 (decL decZnode (encL (encZnode 1) 1 a)))) ∧
   (pr31o (decL decZnode (encL (encZnode 1) 1 a)))) ∧
   (((VLe (encL (encWatch 1) 1 (ro13o (decL decWatch (encL (encWatch 1) 1 l))))
   (encL (encWatch 1) 1
   (decL decWatch
   (encL (encWatch 1) 1 (ro13o (decL decWatch (encL (encWatch 1) 1 l))))))) ∧
   ((VLe (encL (encZnode 1) 1 (ro31o (decL decZnode (encL (encZnode 1) 1 b))))
   (encL (encZnode 1) 1
   (decL decZnode
   (encL (encZnode 1) 1 (ro31o (decL decZnode (encL (encZnode 1) 1 b))))))) ∧
   ((VLe (encL (encZnode 1) 1 (ro31o (decL decZnode (encL (encZnode 1) 1 a))))
   (encL (encZnode 1) 1
   (decL decZnode
   (encL (encZnode 1) 1 (ro31o (decL decZnode (encL (encZnode 1) 1 a))))))) ∧
   (pr44o
   (decL decWatch (encL (encWatch 1) 1 (ro13o (decL decWatch (encL (encWatch 1) 1 l)))))
   (decL decZnode (encL (encZnode 1) 1 (ro31o (decL decZnode (encL (encZnode 1) 1 b)))))
   (decL decZnode (encL (encZnode 1) 1 (ro31o (decL decZnode (encL (encZnode 1) 1 a))))))))) ∧
   (((VLe
   (encWatchResult 1
   (ro44o
   (decL decWatch
   (encL (encWatch 1) 1 (ro13o (decL decWatch (encL (encWatch 1) 1 l)))))
   (decL decZnode
   (encL (encZnode 1) 1 (ro31o (decL decZnode (encL (encZnode 1) 1 b)))))
   (decL decZnode
   (encL (encZnode 1) 1 (ro31o (decL decZnode (encL (encZnode 1) 1 a)))))))
   (encWatchResult 1
   (decWatchResult
   (encWatchResult 1
   (ro44o
   (decL decWatch
   (encL (encWatch 1) 1 (ro13o (decL decWatch (encL (encWatch 1) 1 l)))))
   (decL decZnode
   (encL (encZnode 1) 1 (ro31o (decL decZnode (encL (encZnode 1) 1 b)))))
   (decL decZnode
   (encL (encZnode 1) 1 (ro31o (decL decZnode (encL (encZnode 1) 1 a)))))))))) ∧
   ((VLe
   (encWatchResult 1
   (ro43o
   (decL decWatch
   (encL (encWatch 1) 1 (ro13o (decL decWatch (encL (encWatch 1) 1 l)))))
   (decL decZnode
   (encL (encZnode 1) 1 (ro31o (decL decZnode (encL (encZnode 1) 1 b)))))
   (decL decZnode
   (encL (encZnode 1) 1 (ro31o (decL decZnode (encL (encZnode 1) 1 a)))))))
   (encWatchResult 1
   (decWatchResult
   (encWatchResult 1
   (ro43o
   (decL decWatch
   (encL (encWatch 1) 1 (ro13o (decL decWatch (encL (encWatch 1) 1 l)))))
   (decL decZnode
   (encL (encZnode 1) 1 (ro31o (decL decZnode (encL (encZnode 1) 1 b)))))
   (decL decZnode
   (encL (encZnode 1) 1 (ro31o (decL decZnode (encL (encZnode 1) 1 a)))))))))) ∧
   (pr25
   (decWatchResult
   (encWatchResult 1
   (ro44o
   (decL decWatch
   (encL (encWatch 1) 1 (ro13o (decL decWatch (encL (encWatch 1) 1 l)))))
   (decL decZnode
   (encL (encZnode 1) 1 (ro31o (decL decZnode (encL (encZnode 1) 1 b)))))
   (decL decZnode
   (encL (encZnode 1) 1 (ro31o (decL decZnode (encL (encZnode 1) 1 a))))))))
   (decWatchResult
   (encWatchResult 1
   (ro43o
   (decL decWatch
   (encL (encWatch 1) 1 (ro13o (decL decWatch (encL (encWatch 1) 1 l)))))
   (decL decZnode
   (encL (encZnode 1) 1 (ro31o (decL decZnode (encL (encZnode 1) 1 b)))))
   (decL decZnode
   (encL (encZnode 1) 1 (ro31o (decL decZnode (encL (encZnode 1) 1 a))))))))))) ∧
   ((((!decide
   (decWatchResult
   (encWatchResult 1
   (ro44o
   (decL decWatch
   (encL (encWatch 1) 1 (ro13o (decL decWatch (encL (encWatch 1) 1 l)))))
   (decL decZnode
   (encL (encZnode 1) 1 (ro31o (decL decZnode (encL (encZnode 1) 1 b)))))
   (decL decZnode
   (encL (encZnode 1) 1
   (ro31o (decL decZnode (encL (encZnode 1) 1 a))))))) =
   decWatchResult
   (encWatchResult 1
   (ro43o
   (decL decWatch
   (encL (encWatch 1) 1 (ro13o (decL decWatch (encL (encWatch 1) 1 l)))))
   (decL decZnode
   (encL (encZnode 1) 1 (ro31o (decL decZnode (encL (encZnode 1) 1 b)))))
   (decL decZnode
   (encL (encZnode 1) 1
   (ro31o (decL decZnode (encL (encZnode 1) 1 a))))))))) =
   true) →
   (VLe (V.bool false) (V.bool true))) ∧
   (((!decide
   (decWatchResult
   (encWatchResult 1
   (ro44o
   (decL decWatch
   (encL (encWatch 1) 1 (ro13o (decL decWatch (encL (encWatch 1) 1 l)))))
   (decL decZnode
   (encL (encZnode 1) 1 (ro31o (decL decZnode (encL (encZnode 1) 1 b)))))
   (decL decZnode
   (encL (encZnode 1) 1
   (ro31o (decL decZnode (encL (encZnode 1) 1 a))))))) =
   decWatchResult
   (encWatchResult 1
   (ro43o
   (decL decWatch
   (encL (encWatch 1) 1 (ro13o (decL decWatch (encL (encWatch 1) 1 l)))))
   (decL decZnode
   (encL (encZnode 1) 1 (ro31o (decL decZnode (encL (encZnode 1) 1 b)))))
   (decL decZnode
   (encL (encZnode 1) 1
   (ro31o (decL decZnode (encL (encZnode 1) 1 a))))))))) =
   false) →
   (((VLe
   (V.agg
   [V.int IntKind.i64
   (WatchResult.code
   (ro44o
   (decL decWatch
   (encL (encWatch 1) 1 (ro13o (decL decWatch (encL (encWatch 1) 1 l)))))
   (decL decZnode
   (encL (encZnode 1) 1 (ro31o (decL decZnode (encL (encZnode 1) 1 b)))))
   (decL decZnode
   (encL (encZnode 1) 1 (ro31o (decL decZnode (encL (encZnode 1) 1 a))))))),
   V.sl
   (List.length
   (WatchResult.watches
   (ro44o
   (decL decWatch
   (encL (encWatch 1) 1 (ro13o (decL decWatch (encL (encWatch 1) 1 l)))))
   (decL decZnode
   (encL (encZnode 1) 1 (ro31o (decL decZnode (encL (encZnode 1) 1 b)))))
   (decL decZnode
   (encL (encZnode 1) 1
   (ro31o (decL decZnode (encL (encZnode 1) 1 a))))))))
   (gL (encWatch 1)
   (markW (1 : Int)
   (List.length
   (WatchResult.watches
   (ro44o
   (decL decWatch
   (encL (encWatch 1) 1
   (ro13o (decL decWatch (encL (encWatch 1) 1 l)))))
   (decL decZnode
   (encL (encZnode 1) 1
   (ro31o (decL decZnode (encL (encZnode 1) 1 b)))))
   (decL decZnode
   (encL (encZnode 1) 1
   (ro31o (decL decZnode (encL (encZnode 1) 1 a))))))))))
   1,
   V.sl
   (List.length
   (WatchResult.events
   (ro44o
   (decL decWatch
   (encL (encWatch 1) 1 (ro13o (decL decWatch (encL (encWatch 1) 1 l)))))
   (decL decZnode
   (encL (encZnode 1) 1 (ro31o (decL decZnode (encL (encZnode 1) 1 b)))))
   (decL decZnode
   (encL (encZnode 1) 1
   (ro31o (decL decZnode (encL (encZnode 1) 1 a))))))))
   (gL (encTEvent 1)
   (markE
   ((1 : Int) +
   (2 : Int) *
   (↑(List.length
   (WatchResult.watches
   (ro44o
   (decL decWatch
   (encL (encWatch 1) 1
   (ro13o (decL decWatch (encL (encWatch 1) 1 l)))))
   (decL decZnode
   (encL (encZnode 1) 1
   (ro31o (decL decZnode (encL (encZnode 1) 1 b)))))
   (decL decZnode
   (encL (encZnode 1) 1
   (ro31o (decL decZnode (encL (encZnode 1) 1 a)))))))) :
   Int))
   (List.length
   (WatchResult.events
   (ro44o
   (decL decWatch
   (encL (encWatch 1) 1
   (ro13o (decL decWatch (encL (encWatch 1) 1 l)))))
   (decL decZnode
   (encL (encZnode 1) 1
   (ro31o (decL decZnode (encL (encZnode 1) 1 b)))))
   (decL decZnode
   (encL (encZnode 1) 1
   (ro31o (decL decZnode (encL (encZnode 1) 1 a))))))))))
   1])
   (encWatchResult 1
   (decWatchResult
   (V.agg
   [V.int IntKind.i64
   (WatchResult.code
   (ro44o
   (decL decWatch
   (encL (encWatch 1) 1 (ro13o (decL decWatch (encL (encWatch 1) 1 l)))))
   (decL decZnode
   (encL (encZnode 1) 1 (ro31o (decL decZnode (encL (encZnode 1) 1 b)))))
   (decL decZnode
   (encL (encZnode 1) 1
   (ro31o (decL decZnode (encL (encZnode 1) 1 a))))))),
   V.sl
   (List.length
   (WatchResult.watches
   (ro44o
   (decL decWatch
   (encL (encWatch 1) 1
   (ro13o (decL decWatch (encL (encWatch 1) 1 l)))))
   (decL decZnode
   (encL (encZnode 1) 1
   (ro31o (decL decZnode (encL (encZnode 1) 1 b)))))
   (decL decZnode
   (encL (encZnode 1) 1
   (ro31o (decL decZnode (encL (encZnode 1) 1 a))))))))
   (gL (encWatch 1)
   (markW (1 : Int)
   (List.length
   (WatchResult.watches
   (ro44o
   (decL decWatch
   (encL (encWatch 1) 1
   (ro13o (decL decWatch (encL (encWatch 1) 1 l)))))
   (decL decZnode
   (encL (encZnode 1) 1
   (ro31o (decL decZnode (encL (encZnode 1) 1 b)))))
   (decL decZnode
   (encL (encZnode 1) 1
   (ro31o (decL decZnode (encL (encZnode 1) 1 a))))))))))
   1,
   V.sl
   (List.length
   (WatchResult.events
   (ro44o
   (decL decWatch
   (encL (encWatch 1) 1
   (ro13o (decL decWatch (encL (encWatch 1) 1 l)))))
   (decL decZnode
   (encL (encZnode 1) 1
   (ro31o (decL decZnode (encL (encZnode 1) 1 b)))))
   (decL decZnode
   (encL (encZnode 1) 1
   (ro31o (decL decZnode (encL (encZnode 1) 1 a))))))))
   (gL (encTEvent 1)
   (markE
   ((1 : Int) +
   (2 : Int) *
   (↑(List.length
   (WatchResult.watches
   (ro44o
   (decL decWatch
   (encL (encWatch 1) 1
   (ro13o (decL decWatch (encL (encWatch 1) 1 l)))))
   (decL decZnode
   (encL (encZnode 1) 1
   (ro31o (decL decZnode (encL (encZnode 1) 1 b)))))
   (decL decZnode
   (encL (encZnode 1) 1
   (ro31o (decL decZnode (encL (encZnode 1) 1 a)))))))) :
   Int))
   (List.length
   (WatchResult.events
   (ro44o
   (decL decWatch
   (encL (encWatch 1) 1
   (ro13o (decL decWatch (encL (encWatch 1) 1 l)))))
   (decL decZnode
   (encL (encZnode 1) 1
   (ro31o (decL decZnode (encL (encZnode 1) 1 b)))))
   (decL decZnode
   (encL (encZnode 1) 1
   (ro31o (decL decZnode (encL (encZnode 1) 1 a))))))))))
   1])))) ∧
   (pr28
   (decWatchResult
   (V.agg
   [V.int IntKind.i64
   (WatchResult.code
   (ro44o
   (decL decWatch
   (encL (encWatch 1) 1 (ro13o (decL decWatch (encL (encWatch 1) 1 l)))))
   (decL decZnode
   (encL (encZnode 1) 1 (ro31o (decL decZnode (encL (encZnode 1) 1 b)))))
   (decL decZnode
   (encL (encZnode 1) 1
   (ro31o (decL decZnode (encL (encZnode 1) 1 a))))))),
   V.sl
   (List.length
   (WatchResult.watches
   (ro44o
   (decL decWatch
   (encL (encWatch 1) 1 (ro13o (decL decWatch (encL (encWatch 1) 1 l)))))
   (decL decZnode
   (encL (encZnode 1) 1 (ro31o (decL decZnode (encL (encZnode 1) 1 b)))))
   (decL decZnode
   (encL (encZnode 1) 1
   (ro31o (decL decZnode (encL (encZnode 1) 1 a))))))))
   (gL (encWatch 1)
   (markW (1 : Int)
   (List.length
   (WatchResult.watches
   (ro44o
   (decL decWatch
   (encL (encWatch 1) 1
   (ro13o (decL decWatch (encL (encWatch 1) 1 l)))))
   (decL decZnode
   (encL (encZnode 1) 1
   (ro31o (decL decZnode (encL (encZnode 1) 1 b)))))
   (decL decZnode
   (encL (encZnode 1) 1
   (ro31o (decL decZnode (encL (encZnode 1) 1 a))))))))))
   1,
   V.sl
   (List.length
   (WatchResult.events
   (ro44o
   (decL decWatch
   (encL (encWatch 1) 1 (ro13o (decL decWatch (encL (encWatch 1) 1 l)))))
   (decL decZnode
   (encL (encZnode 1) 1 (ro31o (decL decZnode (encL (encZnode 1) 1 b)))))
   (decL decZnode
   (encL (encZnode 1) 1
   (ro31o (decL decZnode (encL (encZnode 1) 1 a))))))))
   (gL (encTEvent 1)
   (markE
   ((1 : Int) +
   (2 : Int) *
   (↑(List.length
   (WatchResult.watches
   (ro44o
   (decL decWatch
   (encL (encWatch 1) 1
   (ro13o (decL decWatch (encL (encWatch 1) 1 l)))))
   (decL decZnode
   (encL (encZnode 1) 1
   (ro31o (decL decZnode (encL (encZnode 1) 1 b)))))
   (decL decZnode
   (encL (encZnode 1) 1
   (ro31o (decL decZnode (encL (encZnode 1) 1 a)))))))) :
   Int))
   (List.length
   (WatchResult.events
   (ro44o
   (decL decWatch
   (encL (encWatch 1) 1
   (ro13o (decL decWatch (encL (encWatch 1) 1 l)))))
   (decL decZnode
   (encL (encZnode 1) 1
   (ro31o (decL decZnode (encL (encZnode 1) 1 b)))))
   (decL decZnode
   (encL (encZnode 1) 1
   (ro31o (decL decZnode (encL (encZnode 1) 1 a))))))))))
   1]))
   (1 : Int))) ∧
   (((decide
   (heldR
   (decWatchResult
   (V.agg
   [V.int IntKind.i64
   (WatchResult.code
   (ro44o
   (decL decWatch
   (encL (encWatch 1) 1
   (ro13o (decL decWatch (encL (encWatch 1) 1 l)))))
   (decL decZnode
   (encL (encZnode 1) 1
   (ro31o (decL decZnode (encL (encZnode 1) 1 b)))))
   (decL decZnode
   (encL (encZnode 1) 1
   (ro31o (decL decZnode (encL (encZnode 1) 1 a))))))),
   V.sl
   (List.length
   (WatchResult.watches
   (ro44o
   (decL decWatch
   (encL (encWatch 1) 1
   (ro13o (decL decWatch (encL (encWatch 1) 1 l)))))
   (decL decZnode
   (encL (encZnode 1) 1
   (ro31o (decL decZnode (encL (encZnode 1) 1 b)))))
   (decL decZnode
   (encL (encZnode 1) 1
   (ro31o (decL decZnode (encL (encZnode 1) 1 a))))))))
   (gL (encWatch 1)
   (markW (1 : Int)
   (List.length
   (WatchResult.watches
   (ro44o
   (decL decWatch
   (encL (encWatch 1) 1
   (ro13o (decL decWatch (encL (encWatch 1) 1 l)))))
   (decL decZnode
   (encL (encZnode 1) 1
   (ro31o (decL decZnode (encL (encZnode 1) 1 b)))))
   (decL decZnode
   (encL (encZnode 1) 1
   (ro31o (decL decZnode (encL (encZnode 1) 1 a))))))))))
   1,
   V.sl
   (List.length
   (WatchResult.events
   (ro44o
   (decL decWatch
   (encL (encWatch 1) 1
   (ro13o (decL decWatch (encL (encWatch 1) 1 l)))))
   (decL decZnode
   (encL (encZnode 1) 1
   (ro31o (decL decZnode (encL (encZnode 1) 1 b)))))
   (decL decZnode
   (encL (encZnode 1) 1
   (ro31o (decL decZnode (encL (encZnode 1) 1 a))))))))
   (gL (encTEvent 1)
   (markE
   ((1 : Int) +
   (2 : Int) *
   (↑(List.length
   (WatchResult.watches
   (ro44o
   (decL decWatch
   (encL (encWatch 1) 1
   (ro13o (decL decWatch (encL (encWatch 1) 1 l)))))
   (decL decZnode
   (encL (encZnode 1) 1
   (ro31o (decL decZnode (encL (encZnode 1) 1 b)))))
   (decL decZnode
   (encL (encZnode 1) 1
   (ro31o (decL decZnode (encL (encZnode 1) 1 a)))))))) :
   Int))
   (List.length
   (WatchResult.events
   (ro44o
   (decL decWatch
   (encL (encWatch 1) 1
   (ro13o (decL decWatch (encL (encWatch 1) 1 l)))))
   (decL decZnode
   (encL (encZnode 1) 1
   (ro31o (decL decZnode (encL (encZnode 1) 1 b)))))
   (decL decZnode
   (encL (encZnode 1) 1
   (ro31o (decL decZnode (encL (encZnode 1) 1 a))))))))))
   1]))
   (1 : Int) <
   (0 : Int)) =
   true) →
   (VLe (V.bool false) (V.bool true))) ∧
   ((decide
   (heldR
   (decWatchResult
   (V.agg
   [V.int IntKind.i64
   (WatchResult.code
   (ro44o
   (decL decWatch
   (encL (encWatch 1) 1
   (ro13o (decL decWatch (encL (encWatch 1) 1 l)))))
   (decL decZnode
   (encL (encZnode 1) 1
   (ro31o (decL decZnode (encL (encZnode 1) 1 b)))))
   (decL decZnode
   (encL (encZnode 1) 1
   (ro31o (decL decZnode (encL (encZnode 1) 1 a))))))),
   V.sl
   (List.length
   (WatchResult.watches
   (ro44o
   (decL decWatch
   (encL (encWatch 1) 1
   (ro13o (decL decWatch (encL (encWatch 1) 1 l)))))
   (decL decZnode
   (encL (encZnode 1) 1
   (ro31o (decL decZnode (encL (encZnode 1) 1 b)))))
   (decL decZnode
   (encL (encZnode 1) 1
   (ro31o (decL decZnode (encL (encZnode 1) 1 a))))))))
   (gL (encWatch 1)
   (markW (1 : Int)
   (List.length
   (WatchResult.watches
   (ro44o
   (decL decWatch
   (encL (encWatch 1) 1
   (ro13o (decL decWatch (encL (encWatch 1) 1 l)))))
   (decL decZnode
   (encL (encZnode 1) 1
   (ro31o (decL decZnode (encL (encZnode 1) 1 b)))))
   (decL decZnode
   (encL (encZnode 1) 1
   (ro31o (decL decZnode (encL (encZnode 1) 1 a))))))))))
   1,
   V.sl
   (List.length
   (WatchResult.events
   (ro44o
   (decL decWatch
   (encL (encWatch 1) 1
   (ro13o (decL decWatch (encL (encWatch 1) 1 l)))))
   (decL decZnode
   (encL (encZnode 1) 1
   (ro31o (decL decZnode (encL (encZnode 1) 1 b)))))
   (decL decZnode
   (encL (encZnode 1) 1
   (ro31o (decL decZnode (encL (encZnode 1) 1 a))))))))
   (gL (encTEvent 1)
   (markE
   ((1 : Int) +
   (2 : Int) *
   (↑(List.length
   (WatchResult.watches
   (ro44o
   (decL decWatch
   (encL (encWatch 1) 1
   (ro13o (decL decWatch (encL (encWatch 1) 1 l)))))
   (decL decZnode
   (encL (encZnode 1) 1
   (ro31o (decL decZnode (encL (encZnode 1) 1 b)))))
   (decL decZnode
   (encL (encZnode 1) 1
   (ro31o (decL decZnode (encL (encZnode 1) 1 a)))))))) :
   Int))
   (List.length
   (WatchResult.events
   (ro44o
   (decL decWatch
   (encL (encWatch 1) 1
   (ro13o (decL decWatch (encL (encWatch 1) 1 l)))))
   (decL decZnode
   (encL (encZnode 1) 1
   (ro31o (decL decZnode (encL (encZnode 1) 1 b)))))
   (decL decZnode
   (encL (encZnode 1) 1
   (ro31o (decL decZnode (encL (encZnode 1) 1 a))))))))))
   1]))
   (1 : Int) <
   (0 : Int)) =
   false) →
   ((((heldR
   (decWatchResult
   (V.agg
   [V.int IntKind.i64
   (WatchResult.code
   (ro44o
   (decL decWatch
   (encL (encWatch 1) 1
   (ro13o (decL decWatch (encL (encWatch 1) 1 l)))))
   (decL decZnode
   (encL (encZnode 1) 1
   (ro31o (decL decZnode (encL (encZnode 1) 1 b)))))
   (decL decZnode
   (encL (encZnode 1) 1
   (ro31o (decL decZnode (encL (encZnode 1) 1 a))))))),
   V.sl
   (List.length
   (WatchResult.watches
   (ro44o
   (decL decWatch
   (encL (encWatch 1) 1
   (ro13o (decL decWatch (encL (encWatch 1) 1 l)))))
   (decL decZnode
   (encL (encZnode 1) 1
   (ro31o (decL decZnode (encL (encZnode 1) 1 b)))))
   (decL decZnode
   (encL (encZnode 1) 1
   (ro31o (decL decZnode (encL (encZnode 1) 1 a))))))))
   (gL (encWatch 1)
   (markW (1 : Int)
   (List.length
   (WatchResult.watches
   (ro44o
   (decL decWatch
   (encL (encWatch 1) 1
   (ro13o (decL decWatch (encL (encWatch 1) 1 l)))))
   (decL decZnode
   (encL (encZnode 1) 1
   (ro31o (decL decZnode (encL (encZnode 1) 1 b)))))
   (decL decZnode
   (encL (encZnode 1) 1
   (ro31o (decL decZnode (encL (encZnode 1) 1 a))))))))))
   1,
   V.sl
   (List.length
   (WatchResult.events
   (ro44o
   (decL decWatch
   (encL (encWatch 1) 1
   (ro13o (decL decWatch (encL (encWatch 1) 1 l)))))
   (decL decZnode
   (encL (encZnode 1) 1
   (ro31o (decL decZnode (encL (encZnode 1) 1 b)))))
   (decL decZnode
   (encL (encZnode 1) 1
   (ro31o (decL decZnode (encL (encZnode 1) 1 a))))))))
   (gL (encTEvent 1)
   (markE
   ((1 : Int) +
   (2 : Int) *
   (↑(List.length
   (WatchResult.watches
   (ro44o
   (decL decWatch
   (encL (encWatch 1) 1
   (ro13o (decL decWatch (encL (encWatch 1) 1 l)))))
   (decL decZnode
   (encL (encZnode 1) 1
   (ro31o (decL decZnode (encL (encZnode 1) 1 b)))))
   (decL decZnode
   (encL (encZnode 1) 1
   (ro31o (decL decZnode (encL (encZnode 1) 1 a)))))))) :
   Int))
   (List.length
   (WatchResult.events
   (ro44o
   (decL decWatch
   (encL (encWatch 1) 1
   (ro13o (decL decWatch (encL (encWatch 1) 1 l)))))
   (decL decZnode
   (encL (encZnode 1) 1
   (ro31o (decL decZnode (encL (encZnode 1) 1 b)))))
   (decL decZnode
   (encL (encZnode 1) 1
   (ro31o (decL decZnode (encL (encZnode 1) 1 a))))))))))
   1]))
   (1 : Int) !=
   (1 : Int) +
   (2 : Int) *
   (↑(List.length
   (WatchResult.watches
   (ro44o
   (decL decWatch
   (encL (encWatch 1) 1
   (ro13o (decL decWatch (encL (encWatch 1) 1 l)))))
   (decL decZnode
   (encL (encZnode 1) 1
   (ro31o (decL decZnode (encL (encZnode 1) 1 b)))))
   (decL decZnode
   (encL (encZnode 1) 1
   (ro31o (decL decZnode (encL (encZnode 1) 1 a)))))))) :
   Int) +
   (3 : Int) *
   (↑(List.length
   (WatchResult.events
   (ro44o
   (decL decWatch
   (encL (encWatch 1) 1
   (ro13o (decL decWatch (encL (encWatch 1) 1 l)))))
   (decL decZnode
   (encL (encZnode 1) 1
   (ro31o (decL decZnode (encL (encZnode 1) 1 b)))))
   (decL decZnode
   (encL (encZnode 1) 1
   (ro31o (decL decZnode (encL (encZnode 1) 1 a)))))))) :
   Int)) =
   true) →
   (VLe (V.bool false) (V.bool true))) ∧
   (((heldR
   (decWatchResult
   (V.agg
   [V.int IntKind.i64
   (WatchResult.code
   (ro44o
   (decL decWatch
   (encL (encWatch 1) 1
   (ro13o (decL decWatch (encL (encWatch 1) 1 l)))))
   (decL decZnode
   (encL (encZnode 1) 1
   (ro31o (decL decZnode (encL (encZnode 1) 1 b)))))
   (decL decZnode
   (encL (encZnode 1) 1
   (ro31o (decL decZnode (encL (encZnode 1) 1 a))))))),
   V.sl
   (List.length
   (WatchResult.watches
   (ro44o
   (decL decWatch
   (encL (encWatch 1) 1
   (ro13o (decL decWatch (encL (encWatch 1) 1 l)))))
   (decL decZnode
   (encL (encZnode 1) 1
   (ro31o (decL decZnode (encL (encZnode 1) 1 b)))))
   (decL decZnode
   (encL (encZnode 1) 1
   (ro31o (decL decZnode (encL (encZnode 1) 1 a))))))))
   (gL (encWatch 1)
   (markW (1 : Int)
   (List.length
   (WatchResult.watches
   (ro44o
   (decL decWatch
   (encL (encWatch 1) 1
   (ro13o (decL decWatch (encL (encWatch 1) 1 l)))))
   (decL decZnode
   (encL (encZnode 1) 1
   (ro31o (decL decZnode (encL (encZnode 1) 1 b)))))
   (decL decZnode
   (encL (encZnode 1) 1
   (ro31o (decL decZnode (encL (encZnode 1) 1 a))))))))))
   1,
   V.sl
   (List.length
   (WatchResult.events
   (ro44o
   (decL decWatch
   (encL (encWatch 1) 1
   (ro13o (decL decWatch (encL (encWatch 1) 1 l)))))
   (decL decZnode
   (encL (encZnode 1) 1
   (ro31o (decL decZnode (encL (encZnode 1) 1 b)))))
   (decL decZnode
   (encL (encZnode 1) 1
   (ro31o (decL decZnode (encL (encZnode 1) 1 a))))))))
   (gL (encTEvent 1)
   (markE
   ((1 : Int) +
   (2 : Int) *
   (↑(List.length
   (WatchResult.watches
   (ro44o
   (decL decWatch
   (encL (encWatch 1) 1
   (ro13o (decL decWatch (encL (encWatch 1) 1 l)))))
   (decL decZnode
   (encL (encZnode 1) 1
   (ro31o (decL decZnode (encL (encZnode 1) 1 b)))))
   (decL decZnode
   (encL (encZnode 1) 1
   (ro31o (decL decZnode (encL (encZnode 1) 1 a)))))))) :
   Int))
   (List.length
   (WatchResult.events
   (ro44o
   (decL decWatch
   (encL (encWatch 1) 1
   (ro13o (decL decWatch (encL (encWatch 1) 1 l)))))
   (decL decZnode
   (encL (encZnode 1) 1
   (ro31o (decL decZnode (encL (encZnode 1) 1 b)))))
   (decL decZnode
   (encL (encZnode 1) 1
   (ro31o (decL decZnode (encL (encZnode 1) 1 a))))))))))
   1]))
   (1 : Int) !=
   (1 : Int) +
   (2 : Int) *
   (↑(List.length
   (WatchResult.watches
   (ro44o
   (decL decWatch
   (encL (encWatch 1) 1
   (ro13o (decL decWatch (encL (encWatch 1) 1 l)))))
   (decL decZnode
   (encL (encZnode 1) 1
   (ro31o (decL decZnode (encL (encZnode 1) 1 b)))))
   (decL decZnode
   (encL (encZnode 1) 1
   (ro31o (decL decZnode (encL (encZnode 1) 1 a)))))))) :
   Int) +
   (3 : Int) *
   (↑(List.length
   (WatchResult.events
   (ro44o
   (decL decWatch
   (encL (encWatch 1) 1
   (ro13o (decL decWatch (encL (encWatch 1) 1 l)))))
   (decL decZnode
   (encL (encZnode 1) 1
   (ro31o (decL decZnode (encL (encZnode 1) 1 b)))))
   (decL decZnode
   (encL (encZnode 1) 1
   (ro31o (decL decZnode (encL (encZnode 1) 1 a)))))))) :
   Int)) =
   false) →
   (VLe (V.bool true) (V.bool true)))))))))))))))))))))))))))))))))))))))))))))))))))))))))))))))))) := by
    obtain ⟨⟨hl, hlb⟩, ⟨hb, hbb⟩, ha, hab⟩ := hpre
    have hl' := hl
    have hb' := hb
    have ha' := ha
    unfold maxLen at hl' hb' ha'
    have f1 := @szS_bd _ szWatch l 1048576
    have f2 := szS_top' szWatch_le l 1048576
    have hv : ∀ v, VLe v v := VLe.refl
    simp only [decL_Watch, decL_Znode]
    refine ⟨⟨VLe.refl _, by omega, by unfold most; omega, hl, hlb⟩, fun h => VLe.refl _, fun h => ?_⟩
    have g1 := of_decide_eq_false h
    have g2 := f1 g1
    generalize szS szWatch l 1048576 = n1 at *
    have f3 := @szS_bd _ szZnode b n1
    have f4 := szS_top' szZnode_le b n1
    refine ⟨⟨VLe.refl _, by omega, by unfold most; omega, hb, hbb⟩, fun h => VLe.refl _, fun h => ?_⟩
    have g3 := of_decide_eq_false h
    have g4 := f3 g3
    generalize szS szZnode b n1 = n2 at *
    have f5 := @szS_bd _ szZnode a n2
    refine ⟨⟨VLe.refl _, by omega, by unfold most; omega, ha, hab⟩, fun h => VLe.refl _, fun h => ?_⟩
    have g5 := of_decide_eq_false h
    have g6 := f5 g5
    have hn := fireWF_len l b a
    have p1 : pr13o l := ⟨by unfold most; omega, fun x hx => trivial⟩
    have p2 : pr15 l l := ⟨hl, fun x hx y => trivial⟩
    have b1 : pr31o b := ⟨by unfold most; omega, fun x hx => trivial⟩
    have b2 : pr34 b b := ⟨hb, fun x hx y => trivial⟩
    have a1 : pr31o a := ⟨by unfold most; omega, fun x hx => trivial⟩
    have a2 : pr34 a a := ⟨ha, fun x hx y => trivial⟩
    have p3 : mp26 l 1 := ⟨by omega, by omega⟩
    have b3 : mp45 b (1 + 2 * (l.length : Int)) := ⟨by omega, by omega⟩
    have a3 : mp45 a (1 + 2 * (l.length : Int) + 5 * (b.length : Int)) := ⟨by omega, by omega⟩
    have p7 : pr44o l b a := ⟨by omega, by omega, by omega⟩
    have p8 : pr43o l b a := ⟨by omega, by omega, by omega⟩
    have q1 : decide (1 + 2 * (l.length : Int) + 5 * (b.length : Int) + 5 * (a.length : Int) < 0) = false := by simp; omega
    clear f1 f2 f3 f4 f5 h
    simp only [decL_Watch, decL_Znode, dec_encWatchResult, ro13o, ro31o, ro43o, ro44o, dec_markR, heldR_mark, markW_len, markE_len, q1]
    generalize fireWF l b a = W at *
    have p4 : pr25 W W := ⟨by unfold maxLen; omega, by unfold maxLen; omega⟩
    have p5 : pr27 W.watches.length W.events.length 1 := ⟨by omega, by omega⟩
    have p6 : pr28 ⟨W.code, markW 1 W.watches.length, markE (1 + 2 * W.watches.length) W.events.length⟩ 1 := ⟨by omega, by simp; omega⟩
    have q2 : decide (1 + 2 * (W.watches.length : Int) + 3 * W.events.length < 0) = false := by simp; omega
    simp [hv, p1, p2, p3, p4, p5, p6, p7, p8, b1, b2, b3, a1, a2, a3, q2]
    exact ⟨q1, fun _ => ⟨⟨⟨W.watches, rfl, fun _ _ => ELe.refl _⟩, ⟨W.events, rfl, fun _ _ => ELe.refl _⟩⟩, vle_markR _ _ _ _ _⟩⟩
  exact Eq.mp (by kernel_rfl) key
theorem so9 : Sound Tryd.prog 9 (lawD Q9) := by
  refine sound_of_body hmix (pol := 0) Tryd.func9 rfl (by kernel_rfl) fun args bin ob r bout hDe hob => ?_
  unfold lawD at hDe
  split at hDe
  · cases hDe
    obtain ⟨l, b, a, hle, hpre⟩ := hob
    have hlen : args.length = 3 := hle.1.symm
    exact ⟨rfl, rfl, by rw [hlen]; exact Nat.le_of_ble_eq_true (by kernel_rfl), cx9 l b a, Eq.mp (by kernel_rfl) htt, Eq.mp (by kernel_rfl) da9, Eq.mp (by kernel_rfl) (soundAllM_cons sm26 (soundAllM_cons sm45 (soundAllM_nil (P := Tryd.prog)))), by kernel_rfl, _, hle, Eq.mp (by kernel_rfl) (bd9 l b a hpre)⟩
  · cases hDe

end Go.Av
