/- What is wrong with a path; its last mark. -/
import Derived.Test.YtgefdljcommhhaaGreatDoorS1
namespace Go.Av
open Go.Proofs
set_option maxRecDepth 100000
set_option linter.unusedVariables false
set_option linter.unusedSimpArgs false


theorem drop1 {xs : List ByteArray} {k : Nat} (h : k < xs.tail.length) : dropg (gL encS xs) 1 k = encS xs.tail[k] := by
  have h2 : 1 + k < xs.length := by rw [List.length_tail] at h; omega
  have h3 : k + 1 < xs.length := by omega
  simp [dropg, gL, h3, List.getElem_tail, Nat.add_comm]

/-! ### impl.PathFault -/
def pr19 (s : ByteArray) : Prop := True
noncomputable def rs19 (s : ByteArray) : V := .int .i64 (pathF s)
noncomputable def sp19 : FSpec := fun args bin => match args, bin with
  | [.str a0], [] => some (pr19 a0, rs19 a0, [])
  | _, _ => none
noncomputable def in19_9 (s : ByteArray) : LoopInv :=
  ⟨Nat, fun i => ⟨[(28, encL encS 217 (cutB s).tail), (29, .int .i64 (cutB s).tail.length), (30, .int .i64 i)], []⟩,
    fun i => i ≤ (cutB s).tail.length ∧ ∀ j, j < i → isNm ((cutB s).tail.getD j default), fun i => (cutB s).tail.length - i⟩
noncomputable def iv19 (s : ByteArray) : Nat → Option LoopInv := fun rg_ => match rg_ with
  | 9 => some (in19_9 s)
  | _ => none
noncomputable def D19 : Nat → Option (Bool × FSpec) := lk [(47, (false, sp47)), (48, (false, sp48)), (49, (false, sp49))]
theorem da19 : SoundAll Tryz.prog D19 := soundAll_cons so47 (soundAll_cons so48 (soundAll_cons so49 (soundAll_nil)))
noncomputable def cx19 (s : ByteArray) : Cx := ⟨tt, D19, Tryz.f19.ntmps, [0, 2, 3, 5, 13, 15, 26, 28, 29, 30, 31, 36], [(9, ⟨[(28, none), (29, none), (30, none)], []⟩)], [], iv19 s, [], noM, []⟩
theorem bd19 (s : ByteArray) (hpre : pr19 s) : bodyP (cx19 s) Tryz.f19 0 [.str (s)] (fun rr => VLe rr (rs19 s)) := by
  have key : ((tq (!decide ((↑(ByteArray.size s) : Int) > (24 : Int)))) ∧ ((((!decide ((↑(ByteArray.size s) : Int) > (24 : Int))) = true) → (pr47 s (ByteArray.mk #[(47 : UInt8)]))) ∧ ((tq (!decide ((↑(ByteArray.size s) : Int) > (24 : Int)))) ∧ (((true = true) → ((decide ((↑(ByteArray.size s) : Int) > (24 : Int)) = false) → ((!decide ((↑(ByteArray.size s) : Int) > (24 : Int))) = true))) ∧ (∀ b : Bool, ((b = bif decide ((↑(ByteArray.size s) : Int) > (24 : Int)) then true else decide ((↑(cnt s) : Int) > (4 : Int))) → (((b = true) → (VLe (vi (2 : Int)) (vi (pathF s)))) ∧ ((b = false) → (((strEq s (ByteArray.mk #[(47 : UInt8)]) = true) → (VLe (vi (0 : Int)) (vi (pathF s)))) ∧ ((strEq s (ByteArray.mk #[(47 : UInt8)]) = false) → ((pr48 s (ByteArray.mk #[(47 : UInt8)])) ∧ ((tq (!decide ((↑(List.length (cutB s)) : Int) < (2 : Int)))) ∧ ((((!decide ((↑(List.length (cutB s)) : Int) < (2 : Int))) = true) → (((0 : Int) ≤ (0 : Int)) ∧ ((0 : Int) < (↑(List.length (cutB s)) : Int)))) ∧ ((tq (!decide ((↑(List.length (cutB s)) : Int) < (2 : Int)))) ∧ ((tq (!decide ((↑(List.length (cutB s)) : Int) < (2 : Int)))) ∧ (((true = true) → ((decide ((↑(List.length (cutB s)) : Int) < (2 : Int)) = false) → ((!decide ((↑(List.length (cutB s)) : Int) < (2 : Int))) = true))) ∧ (∀ b_1 : Bool, ((b_1 = bif decide ((↑(List.length (cutB s)) : Int) < (2 : Int)) then true else !strEq (List.getD (cutB s) 0 default) (ByteArray.mk #[])) → (((b_1 = true) → (VLe (vi (5 : Int)) (vi (pathF s)))) ∧ ((b_1 = false) → ((((0 : Int) ≤ Option.getD (some (1 : Int)) (0 : Int)) ∧ ((Option.getD (some (1 : Int)) (0 : Int) ≤ Option.getD none (↑(List.length (cutB s)) : Int)) ∧ (Option.getD none (↑(List.length (cutB s)) : Int) ≤ (↑(List.length (cutB s)) : Int)))) ∧ ((sizedL 1 (List.length (cutB s)) (gL encS (cutB s))) ∧ ((∃ x : Nat, ((SLe (AS.mk [(28, V.sl (Int.toNat (Option.getD none (↑(List.length (cutB s)) : Int)) - 1) (match (motive := Option Int → Nat → V) some (1 : Int) with | none => gL encS (cutB s) | some val => dropg (gL encS (cutB s)) 1) 217), (29, vi (↑(Int.toNat (Option.getD none (↑(List.length (cutB s)) : Int)) - 1) : Int)), (30, vi (0 : Int))] []) (AS.mk [(28, encL encS 217 (List.tail (cutB s))), (29, vi (↑(List.length (List.tail (cutB s))) : Int)), (30, vi (↑x : Int))] [])) ∧ ((x ≤ List.length (List.tail (cutB s))) ∧ (∀ j : Nat, ((j < x) → (isNm (List.getD (List.tail (cutB s)) j default))))))) ∧ (∀ x : Nat, (((x ≤ List.length (List.tail (cutB s))) ∧ (∀ j : Nat, ((j < x) → (isNm (List.getD (List.tail (cutB s)) j default))))) → (((decide ((↑x : Int) < (↑(List.length (List.tail (cutB s))) : Int)) = true) → ((((0 : Int) ≤ (↑x : Int)) ∧ ((↑x : Int) < (↑(List.length (List.tail (cutB s))) : Int))) ∧ ((pr49 (List.getD (List.tail (cutB s)) (Int.toNat (↑x : Int)) default)) ∧ ((((!decide (isNm (List.getD (List.tail (cutB s)) (Int.toNat (↑x : Int)) default))) = true) → (VLe (vi (5 : Int)) (vi (pathF s)))) ∧ (((!decide (isNm (List.getD (List.tail (cutB s)) (Int.toNat (↑x : Int)) default))) = false) → ((inK IntKind.i64 ((↑x : Int) + (1 : Int))) ∧ (∃ y : Nat, ((SLe (AS.mk [(28, encL encS 217 (List.tail (cutB s))), (29, vi (↑(List.length (List.tail (cutB s))) : Int)), (30, vi ((↑x : Int) + (1 : Int)))] []) (AS.mk [(28, encL encS 217 (List.tail (cutB s))), (29, vi (↑(List.length (List.tail (cutB s))) : Int)), (30, vi (↑y : Int))] [])) ∧ (((y ≤ List.length (List.tail (cutB s))) ∧ (∀ j : Nat, ((j < y) → (isNm (List.getD (List.tail (cutB s)) j default))))) ∧ (List.length (List.tail (cutB s)) - y < List.length (List.tail (cutB s)) - x)))))))))) ∧ ((decide ((↑x : Int) < (↑(List.length (List.tail (cutB s))) : Int)) = false) → (VLe (vi (0 : Int)) (vi (pathF s)))))))))))))))))))))))))))))) := by
    delta vi
    repeat (first | (refine And.intro (fun h _ => h) ?_) | (refine And.intro (fun _ h => h) ?_) | (refine And.intro ?aa ?_; case aa => (exact (fun h => ⟨rfl, by simp at h; omega⟩))) | (refine And.intro ?aa ?_; case aa => (intros; simp_all [pr47, pr48, pr49]; done)) | (refine And.intro ?aa ?_; case aa => (intros; exact inK64 (by omega))) | (refine And.intro ?aa ?_; case aa => (intros; simp only [decide_eq_true_eq] at *; omega)) | (intro q hq))
    have e0 : q = decide (24 < s.size ∨ 4 < cnt s) := by
      subst_vars
      rw [Bool.eq_iff_iff, decide_eq_true_eq]
      by_cases a1 : (s.size : Int) > 24 <;> by_cases a2 : (cnt s : Int) > 4 <;> simp [a1, a2] <;> omega
    clear hq
    simp only [strEq_dec] at *
    refine ⟨fun h => ?_, fun h => ⟨fun h2 => ?_, fun h2 => ?_⟩⟩
    · rw [e0] at h; exact vle_int (by unfold pathF; rw [if_pos (of_decide_eq_true h)])
    · rw [e0] at h
      exact vle_int (by unfold pathF; rw [if_neg (of_decide_eq_false h), if_pos (Or.inl (of_decide_eq_true h2))])
    rw [e0] at h
    have h1 := of_decide_eq_false h
    have e1 : pathF s = if s = top ∨ pathOk s then 0 else 5 := if_neg h1
    clear e0 h
    have hne := of_decide_eq_false h2
    have hsz : s.size ≤ 24 := by omega
    have hlen : (cutB s).length ≤ 5 := by rw [cutB_len]; omega
    refine ⟨⟨rfl, by omega⟩, ?_⟩
    repeat (first | (refine And.intro (fun h _ => h) ?_) | (refine And.intro (fun _ h => h) ?_) | (refine And.intro ?aa ?_; case aa => (exact (fun h => ⟨by omega, by simp at h; omega⟩))) | (refine And.intro ?aa ?_; case aa => (intros; simp_all [pr47, pr48, pr49]; done)) | (refine And.intro ?aa ?_; case aa => (intros; exact inK64 (by omega))) | (refine And.intro ?aa ?_; case aa => (intros; simp only [decide_eq_true_eq] at *; omega)) | (intro q hq))
    have e2 : q = decide (¬ (2 ≤ (cutB s).length ∧ (cutB s).getD 0 default = nilB)) := by
      subst_vars
      rw [Bool.eq_iff_iff, decide_eq_true_eq]
      by_cases a1 : ((cutB s).length : Int) < 2
      · simp only [a1, decide_true, cond_true, true_iff]; omega
      · by_cases a2 : (cutB s).getD 0 default = nilB
        · simp only [a1, a2, decide_false, cond_false, decide_true, Bool.not_true, Bool.false_eq_true, false_iff, and_true]; omega
        · simp only [a1, a2, decide_false, cond_false, Bool.not_false, and_false, not_false_eq_true]
    clear hq
    refine ⟨fun h3 => ?_, fun h3 => ?_⟩
    · rw [e2] at h3
      exact vle_int (by rw [e1, if_neg fun g => g.elim hne fun g => of_decide_eq_true h3 ⟨g.1, g.2.1⟩])
    rw [e2] at h3
    have h4 := Classical.not_not.1 (of_decide_eq_false h3)
    have hl := h4.1
    have ht : (cutB s).tail.length = (cutB s).length - 1 := List.length_tail
    refine ⟨⟨by simp, by simp; omega, by simp⟩, fun i hi => ⟨rfl, rfl⟩, ⟨0, ?_, by omega, fun j hj => by omega⟩, ?_⟩
    · exact sle_of ⟨rfl, vle_encL_eq (by simp) (fun k hk => drop1 hk) (Or.inl rfl), rfl, vle_int (by simp), rfl, VLe.refl _, trivial⟩ trivial
    rintro i ⟨hi, hj⟩
    refine ⟨fun h => ?_, fun h => ?_⟩
    · have hlt : i < (cutB s).tail.length := by simp only [decide_eq_true_eq] at h; omega
      have hin : (cutB s).tail.getD i default ∈ (cutB s).tail := by
        rw [List.getD_eq_getElem?_getD, List.getElem?_eq_getElem hlt]
        exact List.getElem_mem hlt
      rw [Int.toNat_natCast]
      refine ⟨⟨by omega, by omega⟩, ?_, fun h5 => ?_, fun h5 => ⟨inK64 (by omega), i + 1, SLe.refl _, ⟨by omega, fun j h6 => ?_⟩, by omega⟩⟩
      · have := cutB_le (List.mem_of_mem_tail hin)
        show ByteArray.size _ ≤ 1000
        omega
      · refine vle_int ?_
        rw [e1, if_neg]
        rintro (g | g)
        · exact hne g
        · have := g.2.2 _ hin
          rw [decide_eq_true this] at h5
          cases h5
      · rcases Nat.lt_or_ge j i with h7 | h7
        · exact hj j h7
        · have : j = i := by omega
          subst this
          exact Classical.byContradiction fun g => by
            rw [decide_eq_false g] at h5
            cases h5
    · have hge : i = (cutB s).tail.length := by simp only [decide_eq_false_iff_not] at h; omega
      refine vle_int ?_
      rw [e1, if_pos]
      refine Or.inr ⟨h4.1, h4.2, fun p hp => ?_⟩
      obtain ⟨j, hj2, rfl⟩ := List.getElem_of_mem hp
      have := hj j (by omega)
      rwa [List.getD_eq_getElem?_getD, List.getElem?_eq_getElem hj2] at this
  exact Eq.mp (by kernel_rfl) key
theorem so19 : Sound Tryz.prog 19 sp19 := by
  refine sound_of_body hmix (pol := 0) Tryz.func19 rfl (by kernel_rfl) fun args bin ob r bout hDe hob => ?_
  unfold sp19 at hDe
  split at hDe
  · rename_i a0
    cases hDe
    exact ⟨rfl, rfl, Nat.le_of_ble_eq_true (by kernel_rfl), cx19 a0, Eq.mp (by kernel_rfl) htt, Eq.mp (by kernel_rfl) da19, Eq.mp (by kernel_rfl) (noM_sound (P := Tryz.prog)), by kernel_rfl, [.str (a0)], args_of_vles (⟨VLe.refl _, trivial⟩), Eq.mp (by kernel_rfl) (bd19 a0 (hob))⟩
  · cases hDe

/-! ### spec.l1Names -/
def pr66 (s : ByteArray) : Prop := s.size ≤ 24
noncomputable def rs66 (s : ByteArray) : V := .tup [encL encS 2 (namesF s), .bool (decide (s = top ∨ pathOk s))]
noncomputable def sp66 : FSpec := fun args bin => match args, bin with
  | [.str a0], [] => some (pr66 a0, rs66 a0, [])
  | _, _ => none
noncomputable def in66_7 (s : ByteArray) : LoopInv :=
  ⟨Nat, fun i => ⟨[(0, .str s), (4, encL encS 210 (cutB s)), (5, .int .i64 (i + 1))], []⟩,
    fun i => i + 1 ≤ (cutB s).length ∧ ∀ j, j < i → isNm ((cutB s).tail.getD j default), fun i => (cutB s).tail.length - i⟩
noncomputable def iv66 (s : ByteArray) : Nat → Option LoopInv := fun rg_ => match rg_ with
  | 7 => some (in66_7 s)
  | _ => none
noncomputable def D66 : Nat → Option (Bool × FSpec) := lk [(65, (false, sp65)), (58, (false, sp58))]
theorem da66 : SoundAll Tryz.prog D66 := soundAll_cons so65 (soundAll_cons so58 (soundAll_nil))
noncomputable def cx66 (s : ByteArray) : Cx := ⟨tt, D66, Tryz.f66.ntmps, [0, 2, 3, 4, 5, 7, 19, 23, 31], [(7, ⟨[(0, none), (4, none), (5, none)], []⟩)], [], iv66 s, [], noM, []⟩
noncomputable def k66_0 (s : ByteArray) : V := (V.tup [encL encS 2 (namesF s), V.bool (decide (s = top ∨ pathOk s))])
theorem bd66 (s : ByteArray) (hpre : pr66 s) : bodyP (cx66 s) Tryz.f66 1 [.str (s)] (fun rr => VLe rr (rs66 s)) := by
  have key : (((strEq s (ByteArray.mk #[(47 : UInt8)]) = true) → (VLe (V.tup [V.sl 0 (rowg []) 2, V.bool true]) (k66_0 s))) ∧ ((strEq s (ByteArray.mk #[(47 : UInt8)]) = false) → ((pr65 s (47 : Int)) ∧ ((tq (!decide ((↑(List.length (cutB s)) : Int) < (2 : Int)))) ∧ ((((!decide ((↑(List.length (cutB s)) : Int) < (2 : Int))) = true) → (((0 : Int) ≤ (0 : Int)) ∧ ((0 : Int) < (↑(List.length (cutB s)) : Int)))) ∧ ((tq (!decide ((↑(List.length (cutB s)) : Int) < (2 : Int)))) ∧ ((tq (!decide ((↑(List.length (cutB s)) : Int) < (2 : Int)))) ∧ (((true = true) → ((decide ((↑(List.length (cutB s)) : Int) < (2 : Int)) = false) → ((!decide ((↑(List.length (cutB s)) : Int) < (2 : Int))) = true))) ∧ (∀ b : Bool, ((b = bif decide ((↑(List.length (cutB s)) : Int) < (2 : Int)) then true else !strEq (List.getD (cutB s) 0 default) (ByteArray.mk #[])) → (((b = true) → (VLe (V.tup [V.nil, V.bool false]) (k66_0 s))) ∧ ((b = false) → ((∃ x : Nat, ((SLe (AS.mk [(0, V.str s), (4, encL encS 210 (cutB s)), (5, vi (1 : Int))] []) (AS.mk [(0, V.str s), (4, encL encS 210 (cutB s)), (5, vi ((↑x : Int) + (1 : Int)))] [])) ∧ ((x + 1 ≤ List.length (cutB s)) ∧ (∀ j : Nat, ((j < x) → (isNm (List.getD (List.tail (cutB s)) j default))))))) ∧ (∀ x : Nat, (((x + 1 ≤ List.length (cutB s)) ∧ (∀ j : Nat, ((j < x) → (isNm (List.getD (List.tail (cutB s)) j default))))) → (((decide ((↑x : Int) + (1 : Int) < (↑(List.length (cutB s)) : Int)) = true) → ((((0 : Int) ≤ (↑x : Int) + (1 : Int)) ∧ ((↑x : Int) + (1 : Int) < (↑(List.length (cutB s)) : Int))) ∧ ((pr58 (List.getD (cutB s) (Int.toNat ((↑x : Int) + (1 : Int))) default)) ∧ ((((!decide (isNm (List.getD (cutB s) (Int.toNat ((↑x : Int) + (1 : Int))) default))) = true) → (VLe (V.tup [V.nil, V.bool false]) (k66_0 s))) ∧ (((!decide (isNm (List.getD (cutB s) (Int.toNat ((↑x : Int) + (1 : Int))) default))) = false) → ((inK IntKind.i64 ((↑x : Int) + (1 : Int) + (1 : Int))) ∧ (∃ y : Nat, ((SLe (AS.mk [(0, V.str s), (4, encL encS 210 (cutB s)), (5, vi ((↑x : Int) + (1 : Int) + (1 : Int)))] []) (AS.mk [(0, V.str s), (4, encL encS 210 (cutB s)), (5, vi ((↑y : Int) + (1 : Int)))] [])) ∧ (((y + 1 ≤ List.length (cutB s)) ∧ (∀ j : Nat, ((j < y) → (isNm (List.getD (List.tail (cutB s)) j default))))) ∧ (List.length (List.tail (cutB s)) - y < List.length (List.tail (cutB s)) - x)))))))))) ∧ ((decide ((↑x : Int) + (1 : Int) < (↑(List.length (cutB s)) : Int)) = false) → ((((0 : Int) ≤ Option.getD (some (1 : Int)) (0 : Int)) ∧ ((Option.getD (some (1 : Int)) (0 : Int) ≤ Option.getD none (↑(List.length (cutB s)) : Int)) ∧ (Option.getD none (↑(List.length (cutB s)) : Int) ≤ (↑(List.length (cutB s)) : Int)))) ∧ ((sizedL 1 (List.length (cutB s)) (gL encS (cutB s))) ∧ (VLe (V.tup [V.sl (Int.toNat (Option.getD none (↑(List.length (cutB s)) : Int)) - 1) (match (motive := Option Int → Nat → V) some (1 : Int) with | none => gL encS (cutB s) | some val => dropg (gL encS (cutB s)) 1) 2, V.bool true]) (k66_0 s))))))))))))))))))))) := by
    delta k66_0; delta vi
    have hs : s.size ≤ 24 := hpre
    simp only [strEq_dec]
    have dn : ∀ {a b : Bool}, a = b → VLe (.bool a) (.bool b) := vle_bool
    refine ⟨fun h => ?_, fun h => ?_⟩
    · have h1 := of_decide_eq_true h
      have e1 : namesF s = [] := if_pos (Or.inl h1)
      rw [e1]
      exact vle_tup ⟨vle_encL_eq rfl (fun k hk => absurd hk (Nat.not_lt_zero k)) (Or.inl rfl), vle_bool (decide_eq_true (Or.inl h1)).symm, trivial⟩
    have hne := of_decide_eq_false h
    have bad : ¬ pathOk s → VLe (.tup [.nil, .bool false]) (.tup [encL encS 2 (namesF s), .bool (decide (s = top ∨ pathOk s))]) := fun g => by
      have e1 : namesF s = [] := if_pos (Or.inr g)
      rw [e1]
      exact vle_tup ⟨vle_nilL _ _, vle_bool (decide_eq_false fun k => k.elim hne g).symm, trivial⟩
    refine ⟨⟨rfl, by omega⟩, ?_⟩
    have hlen : (cutB s).length ≤ 25 := by
      rw [cutB_len]
      have : cnt s ≤ s.size := by unfold cnt; rw [size_len]; exact List.count_le_length
      omega
    repeat (first | (refine And.intro (fun h _ => h) ?_) | (refine And.intro (fun _ h => h) ?_) | (refine And.intro ?aa ?_; case aa => (exact (fun h => ⟨by omega, by simp at h; omega⟩))) | (refine And.intro ?aa ?_; case aa => (intros; simp_all [pr65, pr58]; done)) | (refine And.intro ?aa ?_; case aa => (intros; exact inK64 (by omega))) | (refine And.intro ?aa ?_; case aa => (intros; simp only [decide_eq_true_eq] at *; omega)) | (intro q hq))
    have e2 : q = decide (¬ (2 ≤ (cutB s).length ∧ (cutB s).getD 0 default = nilB)) := by
      subst_vars
      rw [Bool.eq_iff_iff, decide_eq_true_eq]
      by_cases a1 : ((cutB s).length : Int) < 2
      · simp only [a1, decide_true, cond_true, true_iff]; omega
      · by_cases a2 : (cutB s).getD 0 default = nilB
        · simp only [a1, a2, decide_false, cond_false, decide_true, Bool.not_true, Bool.false_eq_true, false_iff, and_true]; omega
        · simp only [a1, a2, decide_false, cond_false, Bool.not_false, and_false, not_false_eq_true]
    clear hq
    refine ⟨fun h3 => ?_, fun h3 => ?_⟩
    · rw [e2] at h3
      exact bad fun g => of_decide_eq_true h3 ⟨g.1, g.2.1⟩
    rw [e2] at h3
    have h4 := Classical.not_not.1 (of_decide_eq_false h3)
    have hl := h4.1
    have ht : (cutB s).tail.length = (cutB s).length - 1 := List.length_tail
    refine ⟨⟨0, sle_of ⟨rfl, VLe.refl _, rfl, VLe.refl _, rfl, vle_int (by simp), trivial⟩ trivial, by omega, fun j hj => by omega⟩, ?_⟩
    rintro i ⟨hi, hj⟩
    have et : (cutB s).getD (i + 1) default = (cutB s).tail.getD i default := by
      rw [List.getD_eq_getElem?_getD, List.getD_eq_getElem?_getD, List.getElem?_tail]
    refine ⟨fun h5 => ?_, fun h5 => ?_⟩
    · have hlt : i < (cutB s).tail.length := by simp only [decide_eq_true_eq] at h5; omega
      have hin : (cutB s).tail.getD i default ∈ (cutB s).tail := by
        rw [List.getD_eq_getElem?_getD, List.getElem?_eq_getElem hlt]
        exact List.getElem_mem hlt
      have n1 : ((i : Int) + 1).toNat = i + 1 := by omega
      rw [n1, et]
      refine ⟨⟨by omega, by omega⟩, ?_, fun h5 => ?_, fun h5 => ⟨inK64 (by omega), i + 1, sle_of ⟨rfl, VLe.refl _, rfl, VLe.refl _, rfl, vle_int (by omega), trivial⟩ trivial, ⟨by omega, fun j h6 => ?_⟩, by omega⟩⟩
      · have := cutB_le (List.mem_of_mem_tail hin)
        show ByteArray.size _ ≤ 1000
        omega
      · refine bad fun g => ?_
        have := g.2.2 _ hin
        rw [decide_eq_true this] at h5
        cases h5
      · rcases Nat.lt_or_ge j i with h7 | h7
        · exact hj j h7
        · have : j = i := by omega
          subst this
          exact Classical.byContradiction fun g => by
            rw [decide_eq_false g] at h5
            cases h5
    · have hge : i = (cutB s).tail.length := by simp only [decide_eq_false_iff_not] at h5; omega
      have hok : pathOk s := by
        refine ⟨h4.1, h4.2, fun p hp => ?_⟩
        obtain ⟨j, hj2, rfl⟩ := List.getElem_of_mem hp
        have := hj j (by omega)
        rwa [List.getD_eq_getElem?_getD, List.getElem?_eq_getElem hj2] at this
      have e1 : namesF s = (cutB s).tail := if_neg fun g => g.elim hne fun g => g hok
      rw [e1]
      refine ⟨⟨by simp, by simp; omega, by simp⟩, fun i hi => ⟨rfl, rfl⟩, vle_tup ⟨vle_encL_eq (by simp) (fun k hk => drop1 hk) (Or.inl rfl), vle_bool (decide_eq_true (Or.inr hok)).symm, trivial⟩⟩
  exact Eq.mp (by kernel_rfl) key
theorem so66 : Sound Tryz.prog 66 sp66 := by
  refine sound_of_body hmix (pol := 1) Tryz.func66 rfl (by kernel_rfl) fun args bin ob r bout hDe hob => ?_
  unfold sp66 at hDe
  split at hDe
  · rename_i a0
    cases hDe
    exact ⟨rfl, rfl, Nat.le_of_ble_eq_true (by kernel_rfl), cx66 a0, Eq.mp (by kernel_rfl) htt, Eq.mp (by kernel_rfl) da66, Eq.mp (by kernel_rfl) (noM_sound (P := Tryz.prog)), by kernel_rfl, [.str (a0)], args_of_vles (⟨VLe.refl _, trivial⟩), Eq.mp (by kernel_rfl) (bd66 a0 (hob))⟩
  · cases hDe

/-! ### spec.l1Fault -/
def pr40 (s : ByteArray) : Prop := True
noncomputable def rs40 (s : ByteArray) : V := .int .i64 (pathF s)
noncomputable def sp40 : FSpec := fun args bin => match args, bin with
  | [.str a0], [] => some (pr40 a0, rs40 a0, [])
  | _, _ => none
noncomputable def D40 : Nat → Option (Bool × FSpec) := lk [(65, (false, sp65)), (66, (false, sp66))]
theorem da40 : SoundAll Tryz.prog D40 := soundAll_cons so65 (soundAll_cons so66 (soundAll_nil))
noncomputable def cx40 (s : ByteArray) : Cx := ⟨tt, D40, Tryz.f40.ntmps, [0, 2, 4, 17, 24], [], [], fun _ => none, [], noM, []⟩
theorem bd40 (s : ByteArray) (hpre : pr40 s) : bodyP (cx40 s) Tryz.f40 0 [.str (s)] (fun rr => VLe rr (rs40 s)) := by
  have key : ((tq (!decide ((↑(ByteArray.size s) : Int) > (24 : Int)))) ∧ ((tq (!decide ((↑(ByteArray.size s) : Int) > (24 : Int)))) ∧ ((tq (!decide ((↑(ByteArray.size s) : Int) > (24 : Int)) && !strEq s (ByteArray.mk #[(47 : UInt8)]))) ∧ ((((!decide ((↑(ByteArray.size s) : Int) > (24 : Int)) && !strEq s (ByteArray.mk #[(47 : UInt8)])) = true) → (pr65 s (47 : Int))) ∧ ((tq (!decide ((↑(ByteArray.size s) : Int) > (24 : Int)) && !strEq s (ByteArray.mk #[(47 : UInt8)]))) ∧ ((tq (!decide ((↑(ByteArray.size s) : Int) > (24 : Int)) && !strEq s (ByteArray.mk #[(47 : UInt8)]))) ∧ ((tq (!decide ((↑(ByteArray.size s) : Int) > (24 : Int)))) ∧ ((((!decide ((↑(ByteArray.size s) : Int) > (24 : Int))) = true) → (((!decide ((↑(ByteArray.size s) : Int) > (24 : Int))) = true) → (((!strEq s (ByteArray.mk #[(47 : UInt8)])) = true) → ((!decide ((↑(ByteArray.size s) : Int) > (24 : Int)) && !strEq s (ByteArray.mk #[(47 : UInt8)])) = true)))) ∧ (∀ b : Bool, ((b = bif !strEq s (ByteArray.mk #[(47 : UInt8)]) then decide ((↑(List.length (cutB s)) : Int) > (5 : Int)) else false) → (((true = true) → ((decide ((↑(ByteArray.size s) : Int) > (24 : Int)) = false) → ((!decide ((↑(ByteArray.size s) : Int) > (24 : Int))) = true))) ∧ (∀ b_1 : Bool, ((b_1 = bif decide ((↑(ByteArray.size s) : Int) > (24 : Int)) then true else b) → (((b_1 = true) → (VLe (vi (2 : Int)) (vi (pathF s)))) ∧ ((b_1 = false) → ((pr66 s) ∧ ((((!decide (s = top ∨ pathOk s)) = true) → (VLe (vi (5 : Int)) (vi (pathF s)))) ∧ (((!decide (s = top ∨ pathOk s)) = false) → (VLe (vi (0 : Int)) (vi (pathF s))))))))))))))))))))) := by
    delta vi
    repeat (first | (refine And.intro (fun h _ => h) ?_) | (refine And.intro (fun _ h => h) ?_) | (refine And.intro ?aa ?_; case aa => (exact (fun h => ⟨rfl, by simp at h; omega⟩))) | (refine And.intro ?aa ?_; case aa => (intros; simp_all [pr65, pr66]; done)) | (refine And.intro ?aa ?_; case aa => (intros; exact inK64 (by omega))) | (refine And.intro ?aa ?_; case aa => (intros; simp only [decide_eq_true_eq] at *; omega)) | (intro q hq))
    have hc := cutB_len s
    have e0 : q = decide (24 < s.size ∨ s ≠ top ∧ 4 < cnt s) := by
      subst_vars
      simp only [strEq_dec]
      rw [Bool.eq_iff_iff, decide_eq_true_eq]
      by_cases a1 : (s.size : Int) > 24
      · simp [a1]; omega
      · by_cases a2 : s = top
        · simp [a1, a2]
          omega
        · by_cases a3 : ((cutB s).length : Int) > 5 <;> simp [a1, a2, a3] <;> omega
    clear hq
    have htop : s = top → cnt s = 1 := fun e => by rw [e]; rfl
    have e3 : q = decide (24 < s.size ∨ 4 < cnt s) := by
      rw [e0, decide_eq_decide]
      by_cases a2 : s = top
      · have := htop a2
        simp [a2, this]
        rw [a2] at this
        omega
      · simp [a2]
    refine ⟨fun h => ?_, fun h => ?_⟩
    · rw [e3] at h
      exact vle_int (by unfold pathF; rw [if_pos (of_decide_eq_true h)])
    rw [e3] at h
    have h1 := of_decide_eq_false h
    have e1 : pathF s = if s = top ∨ pathOk s then 0 else 5 := if_neg h1
    refine ⟨by show s.size ≤ 24; omega, fun h2 => ?_, fun h2 => ?_⟩
    · have h3 : ¬ (s = top ∨ pathOk s) := by simpa using h2
      exact vle_int (by rw [e1, if_neg h3])
    · have h3 : s = top ∨ pathOk s := Classical.byContradiction fun g => by
        rw [decide_eq_false g] at h2
        cases h2
      exact vle_int (by rw [e1, if_pos h3])
  exact Eq.mp (by kernel_rfl) key
theorem so40 : Sound Tryz.prog 40 sp40 := by
  refine sound_of_body hmix (pol := 0) Tryz.func40 rfl (by kernel_rfl) fun args bin ob r bout hDe hob => ?_
  unfold sp40 at hDe
  split at hDe
  · rename_i a0
    cases hDe
    exact ⟨rfl, rfl, Nat.le_of_ble_eq_true (by kernel_rfl), cx40 a0, Eq.mp (by kernel_rfl) htt, Eq.mp (by kernel_rfl) da40, Eq.mp (by kernel_rfl) (noM_sound (P := Tryz.prog)), by kernel_rfl, [.str (a0)], args_of_vles (⟨VLe.refl _, trivial⟩), Eq.mp (by kernel_rfl) (bd40 a0 (hob))⟩
  · cases hDe

/-! ### internal/bytealg.LastIndexByteString -/
def pr85 (s : ByteArray) (c : Int) : Prop := c = 47 ∧ s.size ≤ 1000 ∧ headed s
noncomputable def rs85 (s : ByteArray) (c : Int) : V := .int .i64 (lastF s)
noncomputable def sp85 : FSpec := fun args bin => match args, bin with
  | [.str a0, .int .u8 a1], [] => some (pr85 a0 a1, rs85 a0 a1, [])
  | _, _ => none
noncomputable def in85_2 (s : ByteArray) (c : Int) : LoopInv :=
  ⟨Nat, fun k => ⟨[(0, .str s), (1, .int .u8 47), (5, .int .i64 ((k : Int) - 1))], []⟩,
    fun k => 1 ≤ k ∧ k ≤ s.size ∧ lastTo s k = lastF s, fun k => k⟩
noncomputable def iv85 (s : ByteArray) (c : Int) : Nat → Option LoopInv := fun rg_ => match rg_ with
  | 2 => some (in85_2 s c)
  | _ => none
noncomputable def D85 : Nat → Option (Bool × FSpec) := lk []
theorem da85 : SoundAll Tryz.prog D85 := soundAll_nil
noncomputable def cx85 (s : ByteArray) (c : Int) : Cx := ⟨tt, D85, Tryz.f85.ntmps, [0, 1, 4, 5, 10, 17], [(2, ⟨[(0, none), (1, none), (5, none)], []⟩)], [], iv85 s c, [], noM, []⟩
theorem bd85 (s : ByteArray) (c : Int) (hpre : pr85 s c) : bodyP (cx85 s c) Tryz.f85 0 [.str (s), .int .u8 (c)] (fun rr => VLe rr (rs85 s c)) := by
  have key : ((inK IntKind.i64 ((↑(ByteArray.size s) : Int) - (1 : Int))) ∧ ((∃ x : Nat, ((SLe (AS.mk [(0, V.str s), (1, V.int IntKind.u8 c), (5, vi ((↑(ByteArray.size s) : Int) - (1 : Int)))] []) (AS.mk [(0, V.str s), (1, V.int IntKind.u8 (47 : Int)), (5, vi ((↑x : Int) - (1 : Int)))] [])) ∧ ((1 ≤ x) ∧ ((x ≤ ByteArray.size s) ∧ (lastTo s x = lastF s))))) ∧ (∀ x : Nat, (((1 ≤ x) ∧ ((x ≤ ByteArray.size s) ∧ (lastTo s x = lastF s))) → (((decide ((↑x : Int) - (1 : Int) ≥ (0 : Int)) = true) → ((((0 : Int) ≤ (↑x : Int) - (1 : Int)) ∧ ((↑x : Int) - (1 : Int) < (↑(ByteArray.size s) : Int))) ∧ ((((byteAt s ((↑x : Int) - (1 : Int)) == (47 : Int)) = true) → (VLe (vi ((↑x : Int) - (1 : Int))) (vi (↑(lastF s) : Int)))) ∧ (((byteAt s ((↑x : Int) - (1 : Int)) == (47 : Int)) = false) → ((inK IntKind.i64 ((↑x : Int) - (1 : Int) - (1 : Int))) ∧ (∃ y : Nat, ((SLe (AS.mk [(0, V.str s), (1, V.int IntKind.u8 (47 : Int)), (5, vi ((↑x : Int) - (1 : Int) - (1 : Int)))] []) (AS.mk [(0, V.str s), (1, V.int IntKind.u8 (47 : Int)), (5, vi ((↑y : Int) - (1 : Int)))] [])) ∧ (((1 ≤ y) ∧ ((y ≤ ByteArray.size s) ∧ (lastTo s y = lastF s))) ∧ (y < x))))))))) ∧ ((decide ((↑x : Int) - (1 : Int) ≥ (0 : Int)) = false) → (VLe (vi (-1 : Int)) (vi (↑(lastF s) : Int))))))))) := by
    delta vi
    obtain ⟨rfl, hs, hh⟩ := hpre
    obtain ⟨h0, hb⟩ := headed_pos hh
    refine ⟨inK64 (by omega), ⟨s.size, SLe.refl _, by omega, Nat.le_refl _, rfl⟩, ?_⟩
    rintro k ⟨h1, h2, h3⟩
    obtain ⟨k, rfl⟩ : ∃ j, k = j + 1 := ⟨k - 1, by omega⟩
    have n1 : ((k + 1 : Nat) : Int) - 1 = k := by omega
    simp only [n1]
    have e : lastTo s (k + 1) = if byteAt s k = 47 then k else lastTo s k := rfl
    refine ⟨fun _ => ⟨⟨by omega, by omega⟩, fun h => ?_, fun h => ?_⟩, fun h => ?_⟩
    · have := eq_of_beq h
      rw [if_pos this] at e
      exact vle_int (by rw [← h3, e])
    · have hne : ¬ byteAt s k = 47 := by simpa using h
      rw [if_neg hne] at e
      have hk : k ≠ 0 := fun g => by subst g; exact hne hb
      exact ⟨inK64 (by omega), k, SLe.refl _, ⟨by omega, by omega, by rw [← e, h3]⟩, by omega⟩
    · have := of_decide_eq_false h
      omega
  exact Eq.mp (by kernel_rfl) key
theorem so85 : Sound Tryz.prog 85 sp85 := by
  refine sound_of_body hmix (pol := 0) Tryz.func85 rfl (by kernel_rfl) fun args bin ob r bout hDe hob => ?_
  unfold sp85 at hDe
  split at hDe
  · rename_i a0 a1
    cases hDe
    exact ⟨rfl, rfl, Nat.le_of_ble_eq_true (by kernel_rfl), cx85 a0 a1, Eq.mp (by kernel_rfl) htt, Eq.mp (by kernel_rfl) da85, Eq.mp (by kernel_rfl) (noM_sound (P := Tryz.prog)), by kernel_rfl, [.str (a0), .int .u8 (a1)], args_of_vles (⟨VLe.refl _, VLe.refl _, trivial⟩), Eq.mp (by kernel_rfl) (bd85 a0 a1 (hob))⟩
  · cases hDe

/-! ### strings.LastIndex -/
def pr77 (s : ByteArray) (sub : ByteArray) : Prop := sub = top ∧ s.size ≤ 1000 ∧ headed s
noncomputable def rs77 (s : ByteArray) (sub : ByteArray) : V := .int .i64 (lastF s)
noncomputable def sp77 : FSpec := fun args bin => match args, bin with
  | [.str a0, .str a1], [] => some (pr77 a0 a1, rs77 a0 a1, [])
  | _, _ => none
noncomputable def D77 : Nat → Option (Bool × FSpec) := lk [(85, (false, sp85))]
theorem da77 : SoundAll Tryz.prog D77 := soundAll_cons so85 (soundAll_nil)
noncomputable def cx77 (s : ByteArray) (sub : ByteArray) : Cx := ⟨tt, D77, Tryz.f77.ntmps, [0, 1, 4, 5, 8, 13, 20, 27, 28], [], [3, 6], fun _ => none, [], noM, []⟩
theorem bd77 (s : ByteArray) (sub : ByteArray) (hpre : pr77 s sub) : bodyP (cx77 s sub) Tryz.f77 0 [.str (s), .str (sub)] (fun rr => VLe rr (rs77 s sub)) := by
  have key : (((((↑(ByteArray.size sub) : Int) == (0 : Int)) = true) → (False)) ∧ ((((↑(ByteArray.size sub) : Int) == (0 : Int)) = false) → (((((↑(ByteArray.size sub) : Int) == (1 : Int)) = true) → ((((0 : Int) ≤ (0 : Int)) ∧ ((0 : Int) < (↑(ByteArray.size sub) : Int))) ∧ ((pr85 s (byteAt sub (0 : Int))) ∧ (VLe (vi (↑(lastF s) : Int)) (vi (↑(lastF s) : Int)))))) ∧ ((((↑(ByteArray.size sub) : Int) == (1 : Int)) = false) → (False))))) := by
    delta vi
    obtain ⟨rfl, hs, hh⟩ := hpre
    simp only [top_size, top_at]
    exact ⟨fun h => by simp at h, fun h => ⟨fun h => ⟨by simp, ⟨rfl, hs, hh⟩, VLe.refl _⟩, fun h => by simp at h⟩⟩
  exact Eq.mp (by kernel_rfl) key
theorem so77 : Sound Tryz.prog 77 sp77 := by
  refine sound_of_body hmix (pol := 0) Tryz.func77 rfl (by kernel_rfl) fun args bin ob r bout hDe hob => ?_
  unfold sp77 at hDe
  split at hDe
  · rename_i a0 a1
    cases hDe
    exact ⟨rfl, rfl, Nat.le_of_ble_eq_true (by kernel_rfl), cx77 a0 a1, Eq.mp (by kernel_rfl) htt, Eq.mp (by kernel_rfl) da77, Eq.mp (by kernel_rfl) (noM_sound (P := Tryz.prog)), by kernel_rfl, [.str (a0), .str (a1)], args_of_vles (⟨VLe.refl _, VLe.refl _, trivial⟩), Eq.mp (by kernel_rfl) (bd77 a0 a1 (hob))⟩
  · cases hDe

/-! ### impl.parted -/
def pr63 (s : ByteArray) : Prop := s.size ≤ 1000 ∧ headed s
noncomputable def rs63 (s : ByteArray) : V := .tup [.str (upF s), .str (nameF s)]
noncomputable def sp63 : FSpec := fun args bin => match args, bin with
  | [.str a0], [] => some (pr63 a0, rs63 a0, [])
  | _, _ => none
noncomputable def D63 : Nat → Option (Bool × FSpec) := lk [(77, (false, sp77))]
theorem da63 : SoundAll Tryz.prog D63 := soundAll_cons so77 (soundAll_nil)
noncomputable def cx63 (s : ByteArray) : Cx := ⟨tt, D63, Tryz.f63.ntmps, [0, 2, 3, 4], [], [], fun _ => none, [], noM, []⟩
theorem bd63 (s : ByteArray) (hpre : pr63 s) : bodyP (cx63 s) Tryz.f63 0 [.str (s)] (fun rr => VLe rr (rs63 s)) := by
  have key : ((pr77 s (ByteArray.mk #[(47 : UInt8)])) ∧ ((((0 : Int) ≤ Option.getD none (0 : Int)) ∧ ((Option.getD none (0 : Int) ≤ Option.getD (some (if (1 : Int) > (↑(lastF s) : Int) then (1 : Int) else (↑(lastF s) : Int))) (↑(ByteArray.size s) : Int)) ∧ (Option.getD (some (if (1 : Int) > (↑(lastF s) : Int) then (1 : Int) else (↑(lastF s) : Int))) (↑(ByteArray.size s) : Int) ≤ (↑(ByteArray.size s) : Int)))) ∧ ((inK IntKind.i64 ((↑(lastF s) : Int) + (1 : Int))) ∧ ((((0 : Int) ≤ Option.getD (some ((↑(lastF s) : Int) + (1 : Int))) (0 : Int)) ∧ ((Option.getD (some ((↑(lastF s) : Int) + (1 : Int))) (0 : Int) ≤ Option.getD none (↑(ByteArray.size s) : Int)) ∧ (Option.getD none (↑(ByteArray.size s) : Int) ≤ (↑(ByteArray.size s) : Int)))) ∧ (VLe (V.tup [V.str (ByteArray.extract s 0 (Int.toNat (Option.getD (some (if (1 : Int) > (↑(lastF s) : Int) then (1 : Int) else (↑(lastF s) : Int))) (↑(ByteArray.size s) : Int)))), V.str (ByteArray.extract s (Int.toNat (Option.getD (some ((↑(lastF s) : Int) + (1 : Int))) (0 : Int))) (Int.toNat (Option.getD none (↑(ByteArray.size s) : Int))))]) (V.tup [V.str (upF s), V.str (nameF s)])))))) := by
    obtain ⟨hs, hh⟩ := hpre
    obtain ⟨h0, hb⟩ := headed_pos hh
    have hl : lastF s < s.size := lastTo_lt _ h0
    have n1 : (if (1 : Int) > (lastF s : Int) then 1 else (lastF s : Int)) = ((max (lastF s) 1 : Nat) : Int) := by
      split <;> omega
    have n2 : ((lastF s : Int) + 1).toNat = lastF s + 1 := by omega
    simp only [n1, n2, Option.getD_some, Option.getD_none, Int.toNat_natCast]
    refine ⟨⟨rfl, hs, hh⟩, ⟨by omega, by omega, by omega⟩, inK64 (by omega), ⟨by omega, by omega, by omega⟩, vle_tup ⟨vle_str (up_eq hh), VLe.refl _, trivial⟩⟩
  exact Eq.mp (by kernel_rfl) key
theorem so63 : Sound Tryz.prog 63 sp63 := by
  refine sound_of_body hmix (pol := 0) Tryz.func63 rfl (by kernel_rfl) fun args bin ob r bout hDe hob => ?_
  unfold sp63 at hDe
  split at hDe
  · rename_i a0
    cases hDe
    exact ⟨rfl, rfl, Nat.le_of_ble_eq_true (by kernel_rfl), cx63 a0, Eq.mp (by kernel_rfl) htt, Eq.mp (by kernel_rfl) da63, Eq.mp (by kernel_rfl) (noM_sound (P := Tryz.prog)), by kernel_rfl, [.str (a0)], args_of_vles (⟨VLe.refl _, trivial⟩), Eq.mp (by kernel_rfl) (bd63 a0 (hob))⟩
  · cases hDe

/-! ### spec.l1Last -/
def pr57 (s : ByteArray) : Prop := s.size ≤ 1000
noncomputable def rs57 (s : ByteArray) : V := .int .i64 (lastF s)
noncomputable def sp57 : FSpec := fun args bin => match args, bin with
  | [.str a0], [] => some (pr57 a0, rs57 a0, [])
  | _, _ => none
noncomputable def in57_3 (s : ByteArray) : LoopInv :=
  ⟨Nat, fun i => ⟨[(0, .str s), (3, .int .i64 (lastTo s i)), (4, .int .i64 i)], []⟩,
    fun i => i ≤ s.size, fun i => s.size - i⟩
noncomputable def iv57 (s : ByteArray) : Nat → Option LoopInv := fun rg_ => match rg_ with
  | 3 => some (in57_3 s)
  | _ => none
noncomputable def D57 : Nat → Option (Bool × FSpec) := lk []
theorem da57 : SoundAll Tryz.prog D57 := soundAll_nil
noncomputable def cx57 (s : ByteArray) : Cx := ⟨tt, D57, Tryz.f57.ntmps, [0, 2, 3, 4, 8, 14], [(3, ⟨[(0, none), (3, none), (4, none)], []⟩)], [], iv57 s, [], noM, []⟩
theorem bd57 (s : ByteArray) (hpre : pr57 s) : bodyP (cx57 s) Tryz.f57 0 [.str (s)] (fun rr => VLe rr (rs57 s)) := by
  have key : ((∃ x : Nat, ((SLe (AS.mk [(0, V.str s), (3, vi (0 : Int)), (4, vi (0 : Int))] []) (AS.mk [(0, V.str s), (3, vi (↑(lastTo s x) : Int)), (4, vi (↑x : Int))] [])) ∧ (x ≤ ByteArray.size s))) ∧ (∀ x : Nat, ((x ≤ ByteArray.size s) → (((decide ((↑x : Int) < (↑(ByteArray.size s) : Int)) = true) → ((((0 : Int) ≤ (↑x : Int)) ∧ ((↑x : Int) < (↑(ByteArray.size s) : Int))) ∧ ((((byteAt s (↑x : Int) == (47 : Int)) = true) → ((inK IntKind.i64 ((↑x : Int) + (1 : Int))) ∧ (∃ y : Nat, ((SLe (AS.mk [(0, V.str s), (3, vi (↑x : Int)), (4, vi ((↑x : Int) + (1 : Int)))] []) (AS.mk [(0, V.str s), (3, vi (↑(lastTo s y) : Int)), (4, vi (↑y : Int))] [])) ∧ ((y ≤ ByteArray.size s) ∧ (ByteArray.size s - y < ByteArray.size s - x)))))) ∧ (((byteAt s (↑x : Int) == (47 : Int)) = false) → ((inK IntKind.i64 ((↑x : Int) + (1 : Int))) ∧ (∃ y : Nat, ((SLe (AS.mk [(0, V.str s), (3, vi (↑(lastTo s x) : Int)), (4, vi ((↑x : Int) + (1 : Int)))] []) (AS.mk [(0, V.str s), (3, vi (↑(lastTo s y) : Int)), (4, vi (↑y : Int))] [])) ∧ ((y ≤ ByteArray.size s) ∧ (ByteArray.size s - y < ByteArray.size s - x))))))))) ∧ ((decide ((↑x : Int) < (↑(ByteArray.size s) : Int)) = false) → (VLe (vi (↑(lastTo s x) : Int)) (vi (↑(lastF s) : Int)))))))) := by
    delta vi
    have hs : s.size ≤ 1000 := hpre
    refine ⟨⟨0, SLe.refl _, by omega⟩, ?_⟩
    intro i hi
    have e : lastTo s (i + 1) = if byteAt s i = 47 then i else lastTo s i := rfl
    refine ⟨fun h => ?_, fun h => ?_⟩
    · have hlt : i < s.size := by simpa using h
      refine ⟨⟨by omega, by omega⟩, fun h => ⟨inK64 (by omega), i + 1, ?_, by omega, by omega⟩, fun h => ⟨inK64 (by omega), i + 1, ?_, by omega, by omega⟩⟩
      · rw [e, if_pos (eq_of_beq h)]
        exact SLe.refl _
      · rw [e, if_neg (by simpa using h)]
        exact SLe.refl _
    · have : i = s.size := by simp at h; omega
      subst this
      exact VLe.refl _
  exact Eq.mp (by kernel_rfl) key
theorem so57 : Sound Tryz.prog 57 sp57 := by
  refine sound_of_body hmix (pol := 0) Tryz.func57 rfl (by kernel_rfl) fun args bin ob r bout hDe hob => ?_
  unfold sp57 at hDe
  split at hDe
  · rename_i a0
    cases hDe
    exact ⟨rfl, rfl, Nat.le_of_ble_eq_true (by kernel_rfl), cx57 a0, Eq.mp (by kernel_rfl) htt, Eq.mp (by kernel_rfl) da57, Eq.mp (by kernel_rfl) (noM_sound (P := Tryz.prog)), by kernel_rfl, [.str (a0)], args_of_vles (⟨VLe.refl _, trivial⟩), Eq.mp (by kernel_rfl) (bd57 a0 (hob))⟩
  · cases hDe

/-! ### spec.l1Parent -/
def pr45 (s : ByteArray) : Prop := s.size ≤ 1000
noncomputable def rs45 (s : ByteArray) : V := .str (upF s)
noncomputable def sp45 : FSpec := fun args bin => match args, bin with
  | [.str a0], [] => some (pr45 a0, rs45 a0, [])
  | _, _ => none
noncomputable def D45 : Nat → Option (Bool × FSpec) := lk [(57, (false, sp57))]
theorem da45 : SoundAll Tryz.prog D45 := soundAll_cons so57 (soundAll_nil)
noncomputable def cx45 (s : ByteArray) : Cx := ⟨tt, D45, Tryz.f45.ntmps, [0, 2, 3, 7], [], [], fun _ => none, [], noM, []⟩
theorem bd45 (s : ByteArray) (hpre : pr45 s) : bodyP (cx45 s) Tryz.f45 0 [.str (s)] (fun rr => VLe rr (rs45 s)) := by
  have key : ((pr57 s) ∧ (((((↑(lastF s) : Int) == (0 : Int)) = true) → (VLe (V.str (ByteArray.mk #[(47 : UInt8)])) (V.str (upF s)))) ∧ ((((↑(lastF s) : Int) == (0 : Int)) = false) → ((((0 : Int) ≤ Option.getD none (0 : Int)) ∧ ((Option.getD none (0 : Int) ≤ Option.getD (some (↑(lastF s) : Int)) (↑(ByteArray.size s) : Int)) ∧ (Option.getD (some (↑(lastF s) : Int)) (↑(ByteArray.size s) : Int) ≤ (↑(ByteArray.size s) : Int)))) ∧ (VLe (V.str (ByteArray.extract s 0 (Int.toNat (Option.getD (some (↑(lastF s) : Int)) (↑(ByteArray.size s) : Int))))) (V.str (upF s))))))) := by
    have hs : s.size ≤ 1000 := hpre
    have hl : lastF s ≤ s.size := lastTo_le _ _
    refine ⟨hs, fun h => ?_, fun h => ?_⟩
    · have : lastF s = 0 := by simpa using h
      exact vle_str (by unfold upF; rw [if_pos this])
    · have : ¬ lastF s = 0 := by simpa using h
      simp only [Option.getD_some, Option.getD_none, Int.toNat_natCast]
      exact ⟨⟨by omega, by omega, by omega⟩, vle_str (by unfold upF; rw [if_neg this])⟩
  exact Eq.mp (by kernel_rfl) key
theorem so45 : Sound Tryz.prog 45 sp45 := by
  refine sound_of_body hmix (pol := 0) Tryz.func45 rfl (by kernel_rfl) fun args bin ob r bout hDe hob => ?_
  unfold sp45 at hDe
  split at hDe
  · rename_i a0
    cases hDe
    exact ⟨rfl, rfl, Nat.le_of_ble_eq_true (by kernel_rfl), cx45 a0, Eq.mp (by kernel_rfl) htt, Eq.mp (by kernel_rfl) da45, Eq.mp (by kernel_rfl) (noM_sound (P := Tryz.prog)), by kernel_rfl, [.str (a0)], args_of_vles (⟨VLe.refl _, trivial⟩), Eq.mp (by kernel_rfl) (bd45 a0 (hob))⟩
  · cases hDe

end Go.Av
