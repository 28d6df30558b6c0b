/- What is wrong with a path; its last mark. -/
import Derived.Test.YtendmninanhmiaaDoorS1
namespace Go.Av
open Go.Proofs
set_option maxRecDepth 100000
set_option linter.unusedVariables false
set_option linter.unusedSimpArgs false


theorem drop1 {xs : List ByteArray} {k : Nat} (h : k < xs.tail.length) : dropg (gL encS xs) 1 k = encS xs.tail[k] := by
  have h2 : 1 + k < xs.length := by rw [List.length_tail] at h; omega
  have h3 : k + 1 < xs.length := by omega
  simp [dropg, gL, h3, List.getElem_tail, Nat.add_comm]

/-! ### impl.PathFault -/
def pr72 (s : ByteArray) : Prop := True
noncomputable def rs72 (s : ByteArray) : V := .int .i64 (pathF s)
noncomputable def sp72 : FSpec := fun args bin => match args, bin with
  | [.str a0], [] => some (pr72 a0, rs72 a0, [])
  | _, _ => none
noncomputable def in72_9 (s : ByteArray) : LoopInv :=
  ⟨Nat, fun i => ⟨[(28, encL encS 217 (cutB s).tail), (29, .int .i64 (cutB s).tail.length), (30, .int .i64 i)], []⟩,
    fun i => i ≤ (cutB s).tail.length ∧ ∀ j, j < i → isNm ((cutB s).tail.getD j default), fun i => (cutB s).tail.length - i⟩
noncomputable def iv72 (s : ByteArray) : Nat → Option LoopInv := fun rg_ => match rg_ with
  | 9 => some (in72_9 s)
  | _ => none
noncomputable def D72 : Nat → Option (Bool × FSpec) := lk [(103, (false, sp103)), (104, (false, sp104)), (105, (false, sp105))]
theorem da72 : SoundAll Tryd.prog D72 := soundAll_cons so103 (soundAll_cons so104 (soundAll_cons so105 (soundAll_nil)))
noncomputable def cx72 (s : ByteArray) : Cx := ⟨tt, D72, Tryd.f72.ntmps, [0, 2, 3, 5, 13, 15, 26, 28, 29, 30, 31, 36], [(9, ⟨[(28, none), (29, none), (30, none)], []⟩)], [], iv72 s, [], noM, []⟩
theorem bd72 (s : ByteArray) (hpre : pr72 s) : bodyP (cx72 s) Tryd.f72 0 [.str (s)] (fun rr => VLe rr (rs72 s)) := by
  have key :
      ((tq (!decide ((↑(ByteArray.size s) : Int) > (24 : Int)))) ∧
   ((((!decide ((↑(ByteArray.size s) : Int) > (24 : Int))) = true) →
   (pr103 s (ByteArray.mk #[(47 : UInt8)]))) ∧
   ((tq (!decide ((↑(ByteArray.size s) : Int) > (24 : Int)))) ∧
   (((true = true) →
   ((decide ((↑(ByteArray.size s) : Int) > (24 : Int)) = false) →
   ((!decide ((↑(ByteArray.size s) : Int) > (24 : Int))) = true))) ∧
   (∀ b : Bool,
   ((b = bif decide ((↑(ByteArray.size s) : Int) > (24 : Int)) then true else decide ((↑(cnt s) : Int) > (4 : Int))) →
   (((b = true) →
   (VLe (V.int IntKind.i64 (2 : Int)) (V.int IntKind.i64 (pathF s)))) ∧
   ((b = false) →
   (((strEq s (ByteArray.mk #[(47 : UInt8)]) = true) →
   (VLe (V.int IntKind.i64 (0 : Int)) (V.int IntKind.i64 (pathF s)))) ∧
   ((strEq s (ByteArray.mk #[(47 : UInt8)]) = false) →
   ((pr104 s (ByteArray.mk #[(47 : UInt8)])) ∧
   ((tq (!decide ((↑(List.length (cutB s)) : Int) < (2 : Int)))) ∧
   ((((!decide ((↑(List.length (cutB s)) : Int) < (2 : Int))) = true) →
   (((0 : Int) ≤ (0 : Int)) ∧
   ((0 : Int) < (↑(List.length (cutB s)) : Int)))) ∧
   ((tq (!decide ((↑(List.length (cutB s)) : Int) < (2 : Int)))) ∧
   ((tq (!decide ((↑(List.length (cutB s)) : Int) < (2 : Int)))) ∧
   (((true = true) →
   ((decide ((↑(List.length (cutB s)) : Int) < (2 : Int)) = false) →
   ((!decide ((↑(List.length (cutB s)) : Int) < (2 : Int))) = true))) ∧
   (∀ b_1 : Bool,
   ((b_1 =
   bif decide ((↑(List.length (cutB s)) : Int) < (2 : Int)) then true
   else !strEq (List.getD (cutB s) 0 default) (ByteArray.mk #[])) →
   (((b_1 = true) →
   (VLe (V.int IntKind.i64 (5 : Int)) (V.int IntKind.i64 (pathF s)))) ∧
   ((b_1 = false) →
   ((((0 : Int) ≤ Option.getD (some (1 : Int)) (0 : Int)) ∧
   ((Option.getD (some (1 : Int)) (0 : Int) ≤ Option.getD none (↑(List.length (cutB s)) : Int)) ∧
   (Option.getD none (↑(List.length (cutB s)) : Int) ≤ (↑(List.length (cutB s)) : Int)))) ∧
   ((sizedL 1 (List.length (cutB s)) (gL encS (cutB s))) ∧
   ((∃ x : Nat, ((SLe
   (AS.mk
   [(28,
   V.sl (Int.toNat (Option.getD none (↑(List.length (cutB s)) : Int)) - 1)
   (match (motive := Option Int → Nat → V) some (1 : Int) with
   | none => gL encS (cutB s)
   | some val => dropg (gL encS (cutB s)) 1)
   217),
   (29,
   V.int IntKind.i64 (↑(Int.toNat (Option.getD none (↑(List.length (cutB s)) : Int)) - 1) : Int)),
   (30, V.int IntKind.i64 (0 : Int))]
   [])
   (AS.mk
   [(28, encL encS 217 (List.tail (cutB s))),
   (29, V.int IntKind.i64 (↑(List.length (List.tail (cutB s))) : Int)),
   (30, V.int IntKind.i64 (↑x : Int))]
   [])) ∧
   ((x ≤ List.length (List.tail (cutB s))) ∧
   (∀ j : Nat,
   ((j < x) →
   (isNm (List.getD (List.tail (cutB s)) j default))))))) ∧
   (∀ x : Nat,
   (((x ≤ List.length (List.tail (cutB s))) ∧
   (∀ j : Nat,
   ((j < x) →
   (isNm (List.getD (List.tail (cutB s)) j default))))) →
   (((decide ((↑x : Int) < (↑(List.length (List.tail (cutB s))) : Int)) = true) →
   ((((0 : Int) ≤ (↑x : Int)) ∧
   ((↑x : Int) < (↑(List.length (List.tail (cutB s))) : Int))) ∧
   ((pr105 (List.getD (List.tail (cutB s)) (Int.toNat (↑x : Int)) default)) ∧
   ((((!decide (isNm (List.getD (List.tail (cutB s)) (Int.toNat (↑x : Int)) default))) = true) →
   (VLe (V.int IntKind.i64 (5 : Int)) (V.int IntKind.i64 (pathF s)))) ∧
   (((!decide (isNm (List.getD (List.tail (cutB s)) (Int.toNat (↑x : Int)) default))) = false) →
   ((inK IntKind.i64 ((↑x : Int) + (1 : Int))) ∧
   (∃ y : Nat, ((SLe
   (AS.mk
   [(28, encL encS 217 (List.tail (cutB s))),
   (29, V.int IntKind.i64 (↑(List.length (List.tail (cutB s))) : Int)),
   (30, V.int IntKind.i64 ((↑x : Int) + (1 : Int)))]
   [])
   (AS.mk
   [(28, encL encS 217 (List.tail (cutB s))),
   (29, V.int IntKind.i64 (↑(List.length (List.tail (cutB s))) : Int)),
   (30, V.int IntKind.i64 (↑y : Int))]
   [])) ∧
   (((y ≤ List.length (List.tail (cutB s))) ∧
   (∀ j : Nat,
   ((j < y) →
   (isNm (List.getD (List.tail (cutB s)) j default))))) ∧
   (List.length (List.tail (cutB s)) - y < List.length (List.tail (cutB s)) - x)))))))))) ∧
   ((decide ((↑x : Int) < (↑(List.length (List.tail (cutB s))) : Int)) = false) →
   (VLe (V.int IntKind.i64 (0 : Int)) (V.int IntKind.i64 (pathF s)))))))))))))))))))))))))))))) := by
    repeat (first | (refine And.intro (fun h _ => h) ?_) | (refine And.intro (fun _ h => h) ?_) | (refine And.intro ?aa ?_; case aa => (exact (fun h => ⟨rfl, by simp at h; omega⟩))) | (refine And.intro ?aa ?_; case aa => (intros; simp_all [pr103, pr104, pr105]; done)) | (refine And.intro ?aa ?_; case aa => (intros; exact inK64 (by omega))) | (refine And.intro ?aa ?_; case aa => (intros; simp only [decide_eq_true_eq] at *; omega)) | (intro q hq))
    have e0 : q = decide (24 < s.size ∨ 4 < cnt s) := by
      subst_vars
      rw [Bool.eq_iff_iff, decide_eq_true_eq]
      by_cases a1 : (s.size : Int) > 24 <;> by_cases a2 : (cnt s : Int) > 4 <;> simp [a1, a2] <;> omega
    clear hq
    simp only [strEq_dec] at *
    refine ⟨fun h => ?_, fun h => ⟨fun h2 => ?_, fun h2 => ?_⟩⟩
    · rw [e0] at h; exact vle_int (by unfold pathF; rw [if_pos (of_decide_eq_true h)])
    · rw [e0] at h
      exact vle_int (by unfold pathF; rw [if_neg (of_decide_eq_false h), if_pos (Or.inl (of_decide_eq_true h2))])
    rw [e0] at h
    have h1 := of_decide_eq_false h
    have e1 : pathF s = if s = top ∨ pathOk s then 0 else 5 := if_neg h1
    clear e0 h
    have hne := of_decide_eq_false h2
    have hsz : s.size ≤ 24 := by omega
    have hlen : (cutB s).length ≤ 5 := by rw [cutB_len]; omega
    refine ⟨⟨rfl, by omega⟩, ?_⟩
    repeat (first | (refine And.intro (fun h _ => h) ?_) | (refine And.intro (fun _ h => h) ?_) | (refine And.intro ?aa ?_; case aa => (exact (fun h => ⟨by omega, by simp at h; omega⟩))) | (refine And.intro ?aa ?_; case aa => (intros; simp_all [pr103, pr104, pr105]; done)) | (refine And.intro ?aa ?_; case aa => (intros; exact inK64 (by omega))) | (refine And.intro ?aa ?_; case aa => (intros; simp only [decide_eq_true_eq] at *; omega)) | (intro q hq))
    have e2 : q = decide (¬ (2 ≤ (cutB s).length ∧ (cutB s).getD 0 default = nilB)) := by
      subst_vars
      rw [Bool.eq_iff_iff, decide_eq_true_eq]
      by_cases a1 : ((cutB s).length : Int) < 2
      · simp only [a1, decide_true, cond_true, true_iff]; omega
      · by_cases a2 : (cutB s).getD 0 default = nilB
        · simp only [a1, a2, decide_false, cond_false, decide_true, Bool.not_true, Bool.false_eq_true, false_iff, and_true]; omega
        · simp only [a1, a2, decide_false, cond_false, Bool.not_false, and_false, not_false_eq_true]
    clear hq
    refine ⟨fun h3 => ?_, fun h3 => ?_⟩
    · rw [e2] at h3
      exact vle_int (by rw [e1, if_neg fun g => g.elim hne fun g => of_decide_eq_true h3 ⟨g.1, g.2.1⟩])
    rw [e2] at h3
    have h4 := Classical.not_not.1 (of_decide_eq_false h3)
    have hl := h4.1
    have ht : (cutB s).tail.length = (cutB s).length - 1 := List.length_tail
    refine ⟨⟨by simp, by simp; omega, by simp⟩, fun i hi => ⟨rfl, rfl⟩, ⟨0, ?_, by omega, fun j hj => by omega⟩, ?_⟩
    · exact sle_of ⟨rfl, vle_encL_eq (by simp) (fun k hk => drop1 hk) (Or.inl rfl), rfl, vle_int (by simp), rfl, VLe.refl _, trivial⟩ trivial
    rintro i ⟨hi, hj⟩
    refine ⟨fun h => ?_, fun h => ?_⟩
    · have hlt : i < (cutB s).tail.length := by simp only [decide_eq_true_eq] at h; omega
      have hin : (cutB s).tail.getD i default ∈ (cutB s).tail := by
        rw [List.getD_eq_getElem?_getD, List.getElem?_eq_getElem hlt]
        exact List.getElem_mem hlt
      rw [Int.toNat_natCast]
      refine ⟨⟨by omega, by omega⟩, ?_, fun h5 => ?_, fun h5 => ⟨inK64 (by omega), i + 1, SLe.refl _, ⟨by omega, fun j h6 => ?_⟩, by omega⟩⟩
      · have := cutB_le (List.mem_of_mem_tail hin)
        show ByteArray.size _ ≤ 1000
        omega
      · refine vle_int ?_
        rw [e1, if_neg]
        rintro (g | g)
        · exact hne g
        · have := g.2.2 _ hin
          rw [decide_eq_true this] at h5
          cases h5
      · rcases Nat.lt_or_ge j i with h7 | h7
        · exact hj j h7
        · have : j = i := by omega
          subst this
          exact Classical.byContradiction fun g => by
            rw [decide_eq_false g] at h5
            cases h5
    · have hge : i = (cutB s).tail.length := by simp only [decide_eq_false_iff_not] at h; omega
      refine vle_int ?_
      rw [e1, if_pos]
      refine Or.inr ⟨h4.1, h4.2, fun p hp => ?_⟩
      obtain ⟨j, hj2, rfl⟩ := List.getElem_of_mem hp
      have := hj j (by omega)
      rwa [List.getD_eq_getElem?_getD, List.getElem?_eq_getElem hj2] at this
  exact Eq.mp (by kernel_rfl) key
theorem so72 : Sound Tryd.prog 72 sp72 := by
  refine sound_of_body hmix (pol := 0) Tryd.func72 rfl (by kernel_rfl) fun args bin ob r bout hDe hob => ?_
  unfold sp72 at hDe
  split at hDe
  · rename_i a0
    cases hDe
    exact ⟨rfl, rfl, Nat.le_of_ble_eq_true (by kernel_rfl), cx72 a0, Eq.mp (by kernel_rfl) htt, Eq.mp (by kernel_rfl) da72, Eq.mp (by kernel_rfl) (noM_sound (P := Tryd.prog)), by kernel_rfl, [.str (a0)], args_of_vles (⟨VLe.refl _, trivial⟩), Eq.mp (by kernel_rfl) (bd72 a0 (hob))⟩
  · cases hDe

/-! ### spec.l1Names -/
def pr96 (s : ByteArray) : Prop := s.size ≤ 24
noncomputable def rs96 (s : ByteArray) : V := .tup [encL encS 2 (namesF s), .bool (decide (s = top ∨ pathOk s))]
noncomputable def sp96 : FSpec := fun args bin => match args, bin with
  | [.str a0], [] => some (pr96 a0, rs96 a0, [])
  | _, _ => none
noncomputable def in96_7 (s : ByteArray) : LoopInv :=
  ⟨Nat, fun i => ⟨[(0, .str s), (4, encL encS 210 (cutB s)), (5, .int .i64 (i + 1))], []⟩,
    fun i => i + 1 ≤ (cutB s).length ∧ ∀ j, j < i → isNm ((cutB s).tail.getD j default), fun i => (cutB s).tail.length - i⟩
noncomputable def iv96 (s : ByteArray) : Nat → Option LoopInv := fun rg_ => match rg_ with
  | 7 => some (in96_7 s)
  | _ => none
noncomputable def D96 : Nat → Option (Bool × FSpec) := lk [(95, (false, sp95)), (122, (false, sp122))]
theorem da96 : SoundAll Tryd.prog D96 := soundAll_cons so95 (soundAll_cons so122 (soundAll_nil))
noncomputable def cx96 (s : ByteArray) : Cx := ⟨tt, D96, Tryd.f96.ntmps, [0, 2, 3, 4, 5, 7, 19, 23, 31], [(7, ⟨[(0, none), (4, none), (5, none)], []⟩)], [], iv96 s, [], noM, []⟩
theorem bd96 (s : ByteArray) (hpre : pr96 s) : bodyP (cx96 s) Tryd.f96 1 [.str (s)] (fun rr => VLe rr (rs96 s)) := by
  have key :
      (((strEq s (ByteArray.mk #[(47 : UInt8)]) = true) →
   (VLe (V.tup [V.sl 0 (rowg []) 2, V.bool true])
   (V.tup [encL encS 2 (namesF s), V.bool (decide (s = top ∨ pathOk s))]))) ∧
   ((strEq s (ByteArray.mk #[(47 : UInt8)]) = false) →
   ((pr95 s (47 : Int)) ∧
   ((tq (!decide ((↑(List.length (cutB s)) : Int) < (2 : Int)))) ∧
   ((((!decide ((↑(List.length (cutB s)) : Int) < (2 : Int))) = true) →
   (((0 : Int) ≤ (0 : Int)) ∧
   ((0 : Int) < (↑(List.length (cutB s)) : Int)))) ∧
   ((tq (!decide ((↑(List.length (cutB s)) : Int) < (2 : Int)))) ∧
   ((tq (!decide ((↑(List.length (cutB s)) : Int) < (2 : Int)))) ∧
   (((true = true) →
   ((decide ((↑(List.length (cutB s)) : Int) < (2 : Int)) = false) →
   ((!decide ((↑(List.length (cutB s)) : Int) < (2 : Int))) = true))) ∧
   (∀ b : Bool,
   ((b =
   bif decide ((↑(List.length (cutB s)) : Int) < (2 : Int)) then true
   else !strEq (List.getD (cutB s) 0 default) (ByteArray.mk #[])) →
   (((b = true) →
   (VLe (V.tup [V.nil, V.bool false]) (V.tup [encL encS 2 (namesF s), V.bool (decide (s = top ∨ pathOk s))]))) ∧
   ((b = false) →
   ((∃ x : Nat, ((SLe
   (AS.mk [(0, V.str s), (4, encL encS 210 (cutB s)), (5, V.int IntKind.i64 (1 : Int))]
   [])
   (AS.mk
   [(0, V.str s), (4, encL encS 210 (cutB s)),
   (5, V.int IntKind.i64 ((↑x : Int) + (1 : Int)))]
   [])) ∧
   ((x + 1 ≤ List.length (cutB s)) ∧
   (∀ j : Nat,
   ((j < x) →
   (isNm (List.getD (List.tail (cutB s)) j default))))))) ∧
   (∀ x : Nat,
   (((x + 1 ≤ List.length (cutB s)) ∧
   (∀ j : Nat,
   ((j < x) →
   (isNm (List.getD (List.tail (cutB s)) j default))))) →
   (((decide ((↑x : Int) + (1 : Int) < (↑(List.length (cutB s)) : Int)) = true) →
   ((((0 : Int) ≤ (↑x : Int) + (1 : Int)) ∧
   ((↑x : Int) + (1 : Int) < (↑(List.length (cutB s)) : Int))) ∧
   ((pr122 (List.getD (cutB s) (Int.toNat ((↑x : Int) + (1 : Int))) default)) ∧
   ((((!decide (isNm (List.getD (cutB s) (Int.toNat ((↑x : Int) + (1 : Int))) default))) = true) →
   (VLe (V.tup [V.nil, V.bool false]) (V.tup [encL encS 2 (namesF s), V.bool (decide (s = top ∨ pathOk s))]))) ∧
   (((!decide (isNm (List.getD (cutB s) (Int.toNat ((↑x : Int) + (1 : Int))) default))) = false) →
   ((inK IntKind.i64 ((↑x : Int) + (1 : Int) + (1 : Int))) ∧
   (∃ y : Nat, ((SLe
   (AS.mk
   [(0, V.str s), (4, encL encS 210 (cutB s)),
   (5, V.int IntKind.i64 ((↑x : Int) + (1 : Int) + (1 : Int)))]
   [])
   (AS.mk
   [(0, V.str s), (4, encL encS 210 (cutB s)),
   (5, V.int IntKind.i64 ((↑y : Int) + (1 : Int)))]
   [])) ∧
   (((y + 1 ≤ List.length (cutB s)) ∧
   (∀ j : Nat,
   ((j < y) →
   (isNm (List.getD (List.tail (cutB s)) j default))))) ∧
   (List.length (List.tail (cutB s)) - y < List.length (List.tail (cutB s)) - x)))))))))) ∧
   ((decide ((↑x : Int) + (1 : Int) < (↑(List.length (cutB s)) : Int)) = false) →
   ((((0 : Int) ≤ Option.getD (some (1 : Int)) (0 : Int)) ∧
   ((Option.getD (some (1 : Int)) (0 : Int) ≤ Option.getD none (↑(List.length (cutB s)) : Int)) ∧
   (Option.getD none (↑(List.length (cutB s)) : Int) ≤ (↑(List.length (cutB s)) : Int)))) ∧
   ((sizedL 1 (List.length (cutB s)) (gL encS (cutB s))) ∧
   (VLe
   (V.tup
   [V.sl (Int.toNat (Option.getD none (↑(List.length (cutB s)) : Int)) - 1)
   (match (motive := Option Int → Nat → V) some (1 : Int) with
   | none => gL encS (cutB s)
   | some val => dropg (gL encS (cutB s)) 1)
   2,
   V.bool true])
   (V.tup [encL encS 2 (namesF s), V.bool (decide (s = top ∨ pathOk s))]))))))))))))))))))))) := by
    have hs : s.size ≤ 24 := hpre
    simp only [strEq_dec]
    have dn : ∀ {a b : Bool}, a = b → VLe (.bool a) (.bool b) := vle_bool
    refine ⟨fun h => ?_, fun h => ?_⟩
    · have h1 := of_decide_eq_true h
      have e1 : namesF s = [] := if_pos (Or.inl h1)
      rw [e1]
      exact vle_tup ⟨vle_encL_eq rfl (fun k hk => absurd hk (Nat.not_lt_zero k)) (Or.inl rfl), vle_bool (decide_eq_true (Or.inl h1)).symm, trivial⟩
    have hne := of_decide_eq_false h
    have bad : ¬ pathOk s → VLe (.tup [.nil, .bool false]) (.tup [encL encS 2 (namesF s), .bool (decide (s = top ∨ pathOk s))]) := fun g => by
      have e1 : namesF s = [] := if_pos (Or.inr g)
      rw [e1]
      exact vle_tup ⟨vle_nilL _ _, vle_bool (decide_eq_false fun k => k.elim hne g).symm, trivial⟩
    refine ⟨⟨rfl, by omega⟩, ?_⟩
    have hlen : (cutB s).length ≤ 25 := by
      rw [cutB_len]
      have : cnt s ≤ s.size := by unfold cnt; rw [size_len]; exact List.count_le_length
      omega
    repeat (first | (refine And.intro (fun h _ => h) ?_) | (refine And.intro (fun _ h => h) ?_) | (refine And.intro ?aa ?_; case aa => (exact (fun h => ⟨by omega, by simp at h; omega⟩))) | (refine And.intro ?aa ?_; case aa => (intros; simp_all [pr95, pr122]; done)) | (refine And.intro ?aa ?_; case aa => (intros; exact inK64 (by omega))) | (refine And.intro ?aa ?_; case aa => (intros; simp only [decide_eq_true_eq] at *; omega)) | (intro q hq))
    have e2 : q = decide (¬ (2 ≤ (cutB s).length ∧ (cutB s).getD 0 default = nilB)) := by
      subst_vars
      rw [Bool.eq_iff_iff, decide_eq_true_eq]
      by_cases a1 : ((cutB s).length : Int) < 2
      · simp only [a1, decide_true, cond_true, true_iff]; omega
      · by_cases a2 : (cutB s).getD 0 default = nilB
        · simp only [a1, a2, decide_false, cond_false, decide_true, Bool.not_true, Bool.false_eq_true, false_iff, and_true]; omega
        · simp only [a1, a2, decide_false, cond_false, Bool.not_false, and_false, not_false_eq_true]
    clear hq
    refine ⟨fun h3 => ?_, fun h3 => ?_⟩
    · rw [e2] at h3
      exact bad fun g => of_decide_eq_true h3 ⟨g.1, g.2.1⟩
    rw [e2] at h3
    have h4 := Classical.not_not.1 (of_decide_eq_false h3)
    have hl := h4.1
    have ht : (cutB s).tail.length = (cutB s).length - 1 := List.length_tail
    refine ⟨⟨0, sle_of ⟨rfl, VLe.refl _, rfl, VLe.refl _, rfl, vle_int (by simp), trivial⟩ trivial, by omega, fun j hj => by omega⟩, ?_⟩
    rintro i ⟨hi, hj⟩
    have et : (cutB s).getD (i + 1) default = (cutB s).tail.getD i default := by
      rw [List.getD_eq_getElem?_getD, List.getD_eq_getElem?_getD, List.getElem?_tail]
    refine ⟨fun h5 => ?_, fun h5 => ?_⟩
    · have hlt : i < (cutB s).tail.length := by simp only [decide_eq_true_eq] at h5; omega
      have hin : (cutB s).tail.getD i default ∈ (cutB s).tail := by
        rw [List.getD_eq_getElem?_getD, List.getElem?_eq_getElem hlt]
        exact List.getElem_mem hlt
      have n1 : ((i : Int) + 1).toNat = i + 1 := by omega
      rw [n1, et]
      refine ⟨⟨by omega, by omega⟩, ?_, fun h5 => ?_, fun h5 => ⟨inK64 (by omega), i + 1, sle_of ⟨rfl, VLe.refl _, rfl, VLe.refl _, rfl, vle_int (by omega), trivial⟩ trivial, ⟨by omega, fun j h6 => ?_⟩, by omega⟩⟩
      · have := cutB_le (List.mem_of_mem_tail hin)
        show ByteArray.size _ ≤ 1000
        omega
      · refine bad fun g => ?_
        have := g.2.2 _ hin
        rw [decide_eq_true this] at h5
        cases h5
      · rcases Nat.lt_or_ge j i with h7 | h7
        · exact hj j h7
        · have : j = i := by omega
          subst this
          exact Classical.byContradiction fun g => by
            rw [decide_eq_false g] at h5
            cases h5
    · have hge : i = (cutB s).tail.length := by simp only [decide_eq_false_iff_not] at h5; omega
      have hok : pathOk s := by
        refine ⟨h4.1, h4.2, fun p hp => ?_⟩
        obtain ⟨j, hj2, rfl⟩ := List.getElem_of_mem hp
        have := hj j (by omega)
        rwa [List.getD_eq_getElem?_getD, List.getElem?_eq_getElem hj2] at this
      have e1 : namesF s = (cutB s).tail := if_neg fun g => g.elim hne fun g => g hok
      rw [e1]
      refine ⟨⟨by simp, by simp; omega, by simp⟩, fun i hi => ⟨rfl, rfl⟩, vle_tup ⟨vle_encL_eq (by simp) (fun k hk => drop1 hk) (Or.inl rfl), vle_bool (decide_eq_true (Or.inr hok)).symm, trivial⟩⟩
  exact Eq.mp (by kernel_rfl) key
theorem so96 : Sound Tryd.prog 96 sp96 := by
  refine sound_of_body hmix (pol := 1) Tryd.func96 rfl (by kernel_rfl) fun args bin ob r bout hDe hob => ?_
  unfold sp96 at hDe
  split at hDe
  · rename_i a0
    cases hDe
    exact ⟨rfl, rfl, Nat.le_of_ble_eq_true (by kernel_rfl), cx96 a0, Eq.mp (by kernel_rfl) htt, Eq.mp (by kernel_rfl) da96, Eq.mp (by kernel_rfl) (noM_sound (P := Tryd.prog)), by kernel_rfl, [.str (a0)], args_of_vles (⟨VLe.refl _, trivial⟩), Eq.mp (by kernel_rfl) (bd96 a0 (hob))⟩
  · cases hDe

/-! ### spec.l1Fault -/
def pr53 (s : ByteArray) : Prop := True
noncomputable def rs53 (s : ByteArray) : V := .int .i64 (pathF s)
noncomputable def sp53 : FSpec := fun args bin => match args, bin with
  | [.str a0], [] => some (pr53 a0, rs53 a0, [])
  | _, _ => none
noncomputable def D53 : Nat → Option (Bool × FSpec) := lk [(95, (false, sp95)), (96, (false, sp96))]
theorem da53 : SoundAll Tryd.prog D53 := soundAll_cons so95 (soundAll_cons so96 (soundAll_nil))
noncomputable def cx53 (s : ByteArray) : Cx := ⟨tt, D53, Tryd.f53.ntmps, [0, 2, 4, 17, 24], [], [], fun _ => none, [], noM, []⟩
theorem bd53 (s : ByteArray) (hpre : pr53 s) : bodyP (cx53 s) Tryd.f53 0 [.str (s)] (fun rr => VLe rr (rs53 s)) := by
  have key :
      ((tq (!decide ((↑(ByteArray.size s) : Int) > (24 : Int)))) ∧
   ((tq (!decide ((↑(ByteArray.size s) : Int) > (24 : Int)))) ∧
   ((tq (!decide ((↑(ByteArray.size s) : Int) > (24 : Int)) && !strEq s (ByteArray.mk #[(47 : UInt8)]))) ∧
   ((((!decide ((↑(ByteArray.size s) : Int) > (24 : Int)) && !strEq s (ByteArray.mk #[(47 : UInt8)])) = true) →
   (pr95 s (47 : Int))) ∧
   ((tq (!decide ((↑(ByteArray.size s) : Int) > (24 : Int)) && !strEq s (ByteArray.mk #[(47 : UInt8)]))) ∧
   ((tq (!decide ((↑(ByteArray.size s) : Int) > (24 : Int)) && !strEq s (ByteArray.mk #[(47 : UInt8)]))) ∧
   ((tq (!decide ((↑(ByteArray.size s) : Int) > (24 : Int)))) ∧
   ((((!decide ((↑(ByteArray.size s) : Int) > (24 : Int))) = true) →
   (((!decide ((↑(ByteArray.size s) : Int) > (24 : Int))) = true) →
   (((!strEq s (ByteArray.mk #[(47 : UInt8)])) = true) →
   ((!decide ((↑(ByteArray.size s) : Int) > (24 : Int)) && !strEq s (ByteArray.mk #[(47 : UInt8)])) = true)))) ∧
   (∀ b : Bool,
   ((b = bif !strEq s (ByteArray.mk #[(47 : UInt8)]) then decide ((↑(List.length (cutB s)) : Int) > (5 : Int)) else false) →
   (((true = true) →
   ((decide ((↑(ByteArray.size s) : Int) > (24 : Int)) = false) →
   ((!decide ((↑(ByteArray.size s) : Int) > (24 : Int))) = true))) ∧
   (∀ b_1 : Bool,
   ((b_1 = bif decide ((↑(ByteArray.size s) : Int) > (24 : Int)) then true else b) →
   (((b_1 = true) →
   (VLe (V.int IntKind.i64 (2 : Int)) (V.int IntKind.i64 (pathF s)))) ∧
   ((b_1 = false) →
   ((pr96 s) ∧
   ((((!decide (s = top ∨ pathOk s)) = true) →
   (VLe (V.int IntKind.i64 (5 : Int)) (V.int IntKind.i64 (pathF s)))) ∧
   (((!decide (s = top ∨ pathOk s)) = false) →
   (VLe (V.int IntKind.i64 (0 : Int)) (V.int IntKind.i64 (pathF s))))))))))))))))))))) := by
    repeat (first | (refine And.intro (fun h _ => h) ?_) | (refine And.intro (fun _ h => h) ?_) | (refine And.intro ?aa ?_; case aa => (exact (fun h => ⟨rfl, by simp at h; omega⟩))) | (refine And.intro ?aa ?_; case aa => (intros; simp_all [pr95, pr96]; done)) | (refine And.intro ?aa ?_; case aa => (intros; exact inK64 (by omega))) | (refine And.intro ?aa ?_; case aa => (intros; simp only [decide_eq_true_eq] at *; omega)) | (intro q hq))
    have hc := cutB_len s
    have e0 : q = decide (24 < s.size ∨ s ≠ top ∧ 4 < cnt s) := by
      subst_vars
      simp only [strEq_dec]
      rw [Bool.eq_iff_iff, decide_eq_true_eq]
      by_cases a1 : (s.size : Int) > 24
      · simp [a1]; omega
      · by_cases a2 : s = top
        · simp [a1, a2]
          omega
        · by_cases a3 : ((cutB s).length : Int) > 5 <;> simp [a1, a2, a3] <;> omega
    clear hq
    have htop : s = top → cnt s = 1 := fun e => by rw [e]; rfl
    have e3 : q = decide (24 < s.size ∨ 4 < cnt s) := by
      rw [e0, decide_eq_decide]
      by_cases a2 : s = top
      · have := htop a2
        simp [a2, this]
        rw [a2] at this
        omega
      · simp [a2]
    refine ⟨fun h => ?_, fun h => ?_⟩
    · rw [e3] at h
      exact vle_int (by unfold pathF; rw [if_pos (of_decide_eq_true h)])
    rw [e3] at h
    have h1 := of_decide_eq_false h
    have e1 : pathF s = if s = top ∨ pathOk s then 0 else 5 := if_neg h1
    refine ⟨by show s.size ≤ 24; omega, fun h2 => ?_, fun h2 => ?_⟩
    · have h3 : ¬ (s = top ∨ pathOk s) := by simpa using h2
      exact vle_int (by rw [e1, if_neg h3])
    · have h3 : s = top ∨ pathOk s := Classical.byContradiction fun g => by
        rw [decide_eq_false g] at h2
        cases h2
      exact vle_int (by rw [e1, if_pos h3])
  exact Eq.mp (by kernel_rfl) key
theorem so53 : Sound Tryd.prog 53 sp53 := by
  refine sound_of_body hmix (pol := 0) Tryd.func53 rfl (by kernel_rfl) fun args bin ob r bout hDe hob => ?_
  unfold sp53 at hDe
  split at hDe
  · rename_i a0
    cases hDe
    exact ⟨rfl, rfl, Nat.le_of_ble_eq_true (by kernel_rfl), cx53 a0, Eq.mp (by kernel_rfl) htt, Eq.mp (by kernel_rfl) da53, Eq.mp (by kernel_rfl) (noM_sound (P := Tryd.prog)), by kernel_rfl, [.str (a0)], args_of_vles (⟨VLe.refl _, trivial⟩), Eq.mp (by kernel_rfl) (bd53 a0 (hob))⟩
  · cases hDe

/-! ### internal/bytealg.LastIndexByteString -/
def pr148 (s : ByteArray) (c : Int) : Prop := c = 47 ∧ s.size ≤ 1000 ∧ headed s
noncomputable def rs148 (s : ByteArray) (c : Int) : V := .int .i64 (lastF s)
noncomputable def sp148 : FSpec := fun args bin => match args, bin with
  | [.str a0, .int .u8 a1], [] => some (pr148 a0 a1, rs148 a0 a1, [])
  | _, _ => none
noncomputable def in148_2 (s : ByteArray) (c : Int) : LoopInv :=
  ⟨Nat, fun k => ⟨[(0, .str s), (1, .int .u8 47), (5, .int .i64 ((k : Int) - 1))], []⟩,
    fun k => 1 ≤ k ∧ k ≤ s.size ∧ lastTo s k = lastF s, fun k => k⟩
noncomputable def iv148 (s : ByteArray) (c : Int) : Nat → Option LoopInv := fun rg_ => match rg_ with
  | 2 => some (in148_2 s c)
  | _ => none
noncomputable def D148 : Nat → Option (Bool × FSpec) := lk []
theorem da148 : SoundAll Tryd.prog D148 := soundAll_nil
noncomputable def cx148 (s : ByteArray) (c : Int) : Cx := ⟨tt, D148, Tryd.f148.ntmps, [0, 1, 4, 5, 10, 17], [(2, ⟨[(0, none), (1, none), (5, none)], []⟩)], [], iv148 s c, [], noM, []⟩
theorem bd148 (s : ByteArray) (c : Int) (hpre : pr148 s c) : bodyP (cx148 s c) Tryd.f148 0 [.str (s), .int .u8 (c)] (fun rr => VLe rr (rs148 s c)) := by
  have key :
      ((inK IntKind.i64 ((↑(ByteArray.size s) : Int) - (1 : Int))) ∧
   ((∃ x : Nat, ((SLe
   (AS.mk
   [(0, V.str s), (1, V.int IntKind.u8 c),
   (5, V.int IntKind.i64 ((↑(ByteArray.size s) : Int) - (1 : Int)))]
   [])
   (AS.mk
   [(0, V.str s), (1, V.int IntKind.u8 (47 : Int)),
   (5, V.int IntKind.i64 ((↑x : Int) - (1 : Int)))]
   [])) ∧
   ((1 ≤ x) ∧
   ((x ≤ ByteArray.size s) ∧
   (lastTo s x = lastF s))))) ∧
   (∀ x : Nat,
   (((1 ≤ x) ∧
   ((x ≤ ByteArray.size s) ∧
   (lastTo s x = lastF s))) →
   (((decide ((↑x : Int) - (1 : Int) ≥ (0 : Int)) = true) →
   ((((0 : Int) ≤ (↑x : Int) - (1 : Int)) ∧
   ((↑x : Int) - (1 : Int) < (↑(ByteArray.size s) : Int))) ∧
   ((((byteAt s ((↑x : Int) - (1 : Int)) == (47 : Int)) = true) →
   (VLe (V.int IntKind.i64 ((↑x : Int) - (1 : Int))) (V.int IntKind.i64 (↑(lastF s) : Int)))) ∧
   (((byteAt s ((↑x : Int) - (1 : Int)) == (47 : Int)) = false) →
   ((inK IntKind.i64 ((↑x : Int) - (1 : Int) - (1 : Int))) ∧
   (∃ y : Nat, ((SLe
   (AS.mk
   [(0, V.str s), (1, V.int IntKind.u8 (47 : Int)),
   (5, V.int IntKind.i64 ((↑x : Int) - (1 : Int) - (1 : Int)))]
   [])
   (AS.mk
   [(0, V.str s), (1, V.int IntKind.u8 (47 : Int)),
   (5, V.int IntKind.i64 ((↑y : Int) - (1 : Int)))]
   [])) ∧
   (((1 ≤ y) ∧
   ((y ≤ ByteArray.size s) ∧
   (lastTo s y = lastF s))) ∧
   (y < x))))))))) ∧
   ((decide ((↑x : Int) - (1 : Int) ≥ (0 : Int)) = false) →
   (VLe (V.int IntKind.i64 (-1 : Int)) (V.int IntKind.i64 (↑(lastF s) : Int))))))))) := by
    obtain ⟨rfl, hs, hh⟩ := hpre
    obtain ⟨h0, hb⟩ := headed_pos hh
    refine ⟨inK64 (by omega), ⟨s.size, SLe.refl _, by omega, Nat.le_refl _, rfl⟩, ?_⟩
    rintro k ⟨h1, h2, h3⟩
    obtain ⟨k, rfl⟩ : ∃ j, k = j + 1 := ⟨k - 1, by omega⟩
    have n1 : ((k + 1 : Nat) : Int) - 1 = k := by omega
    simp only [n1]
    have e : lastTo s (k + 1) = if byteAt s k = 47 then k else lastTo s k := rfl
    refine ⟨fun _ => ⟨⟨by omega, by omega⟩, fun h => ?_, fun h => ?_⟩, fun h => ?_⟩
    · have := eq_of_beq h
      rw [if_pos this] at e
      exact vle_int (by rw [← h3, e])
    · have hne : ¬ byteAt s k = 47 := by simpa using h
      rw [if_neg hne] at e
      have hk : k ≠ 0 := fun g => by subst g; exact hne hb
      exact ⟨inK64 (by omega), k, SLe.refl _, ⟨by omega, by omega, by rw [← e, h3]⟩, by omega⟩
    · have := of_decide_eq_false h
      omega
  exact Eq.mp (by kernel_rfl) key
theorem so148 : Sound Tryd.prog 148 sp148 := by
  refine sound_of_body hmix (pol := 0) Tryd.func148 rfl (by kernel_rfl) fun args bin ob r bout hDe hob => ?_
  unfold sp148 at hDe
  split at hDe
  · rename_i a0 a1
    cases hDe
    exact ⟨rfl, rfl, Nat.le_of_ble_eq_true (by kernel_rfl), cx148 a0 a1, Eq.mp (by kernel_rfl) htt, Eq.mp (by kernel_rfl) da148, Eq.mp (by kernel_rfl) (noM_sound (P := Tryd.prog)), by kernel_rfl, [.str (a0), .int .u8 (a1)], args_of_vles (⟨VLe.refl _, VLe.refl _, trivial⟩), Eq.mp (by kernel_rfl) (bd148 a0 a1 (hob))⟩
  · cases hDe

/-! ### strings.LastIndex -/
def pr135 (s : ByteArray) (sub : ByteArray) : Prop := sub = top ∧ s.size ≤ 1000 ∧ headed s
noncomputable def rs135 (s : ByteArray) (sub : ByteArray) : V := .int .i64 (lastF s)
noncomputable def sp135 : FSpec := fun args bin => match args, bin with
  | [.str a0, .str a1], [] => some (pr135 a0 a1, rs135 a0 a1, [])
  | _, _ => none
noncomputable def D135 : Nat → Option (Bool × FSpec) := lk [(148, (false, sp148))]
theorem da135 : SoundAll Tryd.prog D135 := soundAll_cons so148 (soundAll_nil)
noncomputable def cx135 (s : ByteArray) (sub : ByteArray) : Cx := ⟨tt, D135, Tryd.f135.ntmps, [0, 1, 4, 5, 8, 13, 20, 27, 28], [], [3, 6], fun _ => none, [], noM, []⟩
theorem bd135 (s : ByteArray) (sub : ByteArray) (hpre : pr135 s sub) : bodyP (cx135 s sub) Tryd.f135 0 [.str (s), .str (sub)] (fun rr => VLe rr (rs135 s sub)) := by
  have key :
      (((((↑(ByteArray.size sub) : Int) == (0 : Int)) = true) →
   (False)) ∧
   ((((↑(ByteArray.size sub) : Int) == (0 : Int)) = false) →
   (((((↑(ByteArray.size sub) : Int) == (1 : Int)) = true) →
   ((((0 : Int) ≤ (0 : Int)) ∧
   ((0 : Int) < (↑(ByteArray.size sub) : Int))) ∧
   ((pr148 s (byteAt sub (0 : Int))) ∧
   (VLe (V.int IntKind.i64 (↑(lastF s) : Int)) (V.int IntKind.i64 (↑(lastF s) : Int)))))) ∧
   ((((↑(ByteArray.size sub) : Int) == (1 : Int)) = false) →
   (False))))) := by
    obtain ⟨rfl, hs, hh⟩ := hpre
    simp only [top_size, top_at]
    exact ⟨fun h => by simp at h, fun h => ⟨fun h => ⟨by simp, ⟨rfl, hs, hh⟩, VLe.refl _⟩, fun h => by simp at h⟩⟩
  exact Eq.mp (by kernel_rfl) key
theorem so135 : Sound Tryd.prog 135 sp135 := by
  refine sound_of_body hmix (pol := 0) Tryd.func135 rfl (by kernel_rfl) fun args bin ob r bout hDe hob => ?_
  unfold sp135 at hDe
  split at hDe
  · rename_i a0 a1
    cases hDe
    exact ⟨rfl, rfl, Nat.le_of_ble_eq_true (by kernel_rfl), cx135 a0 a1, Eq.mp (by kernel_rfl) htt, Eq.mp (by kernel_rfl) da135, Eq.mp (by kernel_rfl) (noM_sound (P := Tryd.prog)), by kernel_rfl, [.str (a0), .str (a1)], args_of_vles (⟨VLe.refl _, VLe.refl _, trivial⟩), Eq.mp (by kernel_rfl) (bd135 a0 a1 (hob))⟩
  · cases hDe

/-! ### impl.parted -/
def pr114 (s : ByteArray) : Prop := s.size ≤ 1000 ∧ headed s
noncomputable def rs114 (s : ByteArray) : V := .tup [.str (upF s), .str (nameF s)]
noncomputable def sp114 : FSpec := fun args bin => match args, bin with
  | [.str a0], [] => some (pr114 a0, rs114 a0, [])
  | _, _ => none
noncomputable def D114 : Nat → Option (Bool × FSpec) := lk [(135, (false, sp135))]
theorem da114 : SoundAll Tryd.prog D114 := soundAll_cons so135 (soundAll_nil)
noncomputable def cx114 (s : ByteArray) : Cx := ⟨tt, D114, Tryd.f114.ntmps, [0, 2, 3, 4], [], [], fun _ => none, [], noM, []⟩
theorem bd114 (s : ByteArray) (hpre : pr114 s) : bodyP (cx114 s) Tryd.f114 0 [.str (s)] (fun rr => VLe rr (rs114 s)) := by
  have key :
      ((pr135 s (ByteArray.mk #[(47 : UInt8)])) ∧
   ((((0 : Int) ≤ Option.getD none (0 : Int)) ∧
   ((Option.getD none (0 : Int) ≤
   Option.getD (some (if (1 : Int) > (↑(lastF s) : Int) then (1 : Int) else (↑(lastF s) : Int)))
   (↑(ByteArray.size s) : Int)) ∧
   (Option.getD (some (if (1 : Int) > (↑(lastF s) : Int) then (1 : Int) else (↑(lastF s) : Int)))
   (↑(ByteArray.size s) : Int) ≤
   (↑(ByteArray.size s) : Int)))) ∧
   ((inK IntKind.i64 ((↑(lastF s) : Int) + (1 : Int))) ∧
   ((((0 : Int) ≤ Option.getD (some ((↑(lastF s) : Int) + (1 : Int))) (0 : Int)) ∧
   ((Option.getD (some ((↑(lastF s) : Int) + (1 : Int))) (0 : Int) ≤ Option.getD none (↑(ByteArray.size s) : Int)) ∧
   (Option.getD none (↑(ByteArray.size s) : Int) ≤ (↑(ByteArray.size s) : Int)))) ∧
   (VLe
   (V.tup
   [V.str
   (ByteArray.extract s 0
   (Int.toNat
   (Option.getD (some (if (1 : Int) > (↑(lastF s) : Int) then (1 : Int) else (↑(lastF s) : Int)))
   (↑(ByteArray.size s) : Int)))),
   V.str
   (ByteArray.extract s (Int.toNat (Option.getD (some ((↑(lastF s) : Int) + (1 : Int))) (0 : Int)))
   (Int.toNat (Option.getD none (↑(ByteArray.size s) : Int))))])
   (V.tup [V.str (upF s), V.str (nameF s)])))))) := by
    obtain ⟨hs, hh⟩ := hpre
    obtain ⟨h0, hb⟩ := headed_pos hh
    have hl : lastF s < s.size := lastTo_lt _ h0
    have n1 : (if (1 : Int) > (lastF s : Int) then 1 else (lastF s : Int)) = ((max (lastF s) 1 : Nat) : Int) := by
      split <;> omega
    have n2 : ((lastF s : Int) + 1).toNat = lastF s + 1 := by omega
    simp only [n1, n2, Option.getD_some, Option.getD_none, Int.toNat_natCast]
    refine ⟨⟨rfl, hs, hh⟩, ⟨by omega, by omega, by omega⟩, inK64 (by omega), ⟨by omega, by omega, by omega⟩, vle_tup ⟨vle_str (up_eq hh), VLe.refl _, trivial⟩⟩
  exact Eq.mp (by kernel_rfl) key
theorem so114 : Sound Tryd.prog 114 sp114 := by
  refine sound_of_body hmix (pol := 0) Tryd.func114 rfl (by kernel_rfl) fun args bin ob r bout hDe hob => ?_
  unfold sp114 at hDe
  split at hDe
  · rename_i a0
    cases hDe
    exact ⟨rfl, rfl, Nat.le_of_ble_eq_true (by kernel_rfl), cx114 a0, Eq.mp (by kernel_rfl) htt, Eq.mp (by kernel_rfl) da114, Eq.mp (by kernel_rfl) (noM_sound (P := Tryd.prog)), by kernel_rfl, [.str (a0)], args_of_vles (⟨VLe.refl _, trivial⟩), Eq.mp (by kernel_rfl) (bd114 a0 (hob))⟩
  · cases hDe

/-! ### spec.l1Last -/
def pr124 (s : ByteArray) : Prop := s.size ≤ 1000
noncomputable def rs124 (s : ByteArray) : V := .int .i64 (lastF s)
noncomputable def sp124 : FSpec := fun args bin => match args, bin with
  | [.str a0], [] => some (pr124 a0, rs124 a0, [])
  | _, _ => none
noncomputable def in124_3 (s : ByteArray) : LoopInv :=
  ⟨Nat, fun i => ⟨[(0, .str s), (3, .int .i64 (lastTo s i)), (4, .int .i64 i)], []⟩,
    fun i => i ≤ s.size, fun i => s.size - i⟩
noncomputable def iv124 (s : ByteArray) : Nat → Option LoopInv := fun rg_ => match rg_ with
  | 3 => some (in124_3 s)
  | _ => none
noncomputable def D124 : Nat → Option (Bool × FSpec) := lk []
theorem da124 : SoundAll Tryd.prog D124 := soundAll_nil
noncomputable def cx124 (s : ByteArray) : Cx := ⟨tt, D124, Tryd.f124.ntmps, [0, 2, 3, 4, 8, 14], [(3, ⟨[(0, none), (3, none), (4, none)], []⟩)], [], iv124 s, [], noM, []⟩
theorem bd124 (s : ByteArray) (hpre : pr124 s) : bodyP (cx124 s) Tryd.f124 0 [.str (s)] (fun rr => VLe rr (rs124 s)) := by
  have key :
      ((∃ x : Nat, ((SLe
   (AS.mk [(0, V.str s), (3, V.int IntKind.i64 (0 : Int)), (4, V.int IntKind.i64 (0 : Int))] [])
   (AS.mk
   [(0, V.str s), (3, V.int IntKind.i64 (↑(lastTo s x) : Int)),
   (4, V.int IntKind.i64 (↑x : Int))]
   [])) ∧
   (x ≤ ByteArray.size s))) ∧
   (∀ x : Nat,
   ((x ≤ ByteArray.size s) →
   (((decide ((↑x : Int) < (↑(ByteArray.size s) : Int)) = true) →
   ((((0 : Int) ≤ (↑x : Int)) ∧
   ((↑x : Int) < (↑(ByteArray.size s) : Int))) ∧
   ((((byteAt s (↑x : Int) == (47 : Int)) = true) →
   ((inK IntKind.i64 ((↑x : Int) + (1 : Int))) ∧
   (∃ y : Nat, ((SLe
   (AS.mk
   [(0, V.str s), (3, V.int IntKind.i64 (↑x : Int)),
   (4, V.int IntKind.i64 ((↑x : Int) + (1 : Int)))]
   [])
   (AS.mk
   [(0, V.str s), (3, V.int IntKind.i64 (↑(lastTo s y) : Int)),
   (4, V.int IntKind.i64 (↑y : Int))]
   [])) ∧
   ((y ≤ ByteArray.size s) ∧
   (ByteArray.size s - y < ByteArray.size s - x)))))) ∧
   (((byteAt s (↑x : Int) == (47 : Int)) = false) →
   ((inK IntKind.i64 ((↑x : Int) + (1 : Int))) ∧
   (∃ y : Nat, ((SLe
   (AS.mk
   [(0, V.str s), (3, V.int IntKind.i64 (↑(lastTo s x) : Int)),
   (4, V.int IntKind.i64 ((↑x : Int) + (1 : Int)))]
   [])
   (AS.mk
   [(0, V.str s), (3, V.int IntKind.i64 (↑(lastTo s y) : Int)),
   (4, V.int IntKind.i64 (↑y : Int))]
   [])) ∧
   ((y ≤ ByteArray.size s) ∧
   (ByteArray.size s - y < ByteArray.size s - x))))))))) ∧
   ((decide ((↑x : Int) < (↑(ByteArray.size s) : Int)) = false) →
   (VLe (V.int IntKind.i64 (↑(lastTo s x) : Int)) (V.int IntKind.i64 (↑(lastF s) : Int)))))))) := by
    have hs : s.size ≤ 1000 := hpre
    refine ⟨⟨0, SLe.refl _, by omega⟩, ?_⟩
    intro i hi
    have e : lastTo s (i + 1) = if byteAt s i = 47 then i else lastTo s i := rfl
    refine ⟨fun h => ?_, fun h => ?_⟩
    · have hlt : i < s.size := by simpa using h
      refine ⟨⟨by omega, by omega⟩, fun h => ⟨inK64 (by omega), i + 1, ?_, by omega, by omega⟩, fun h => ⟨inK64 (by omega), i + 1, ?_, by omega, by omega⟩⟩
      · rw [e, if_pos (eq_of_beq h)]
        exact SLe.refl _
      · rw [e, if_neg (by simpa using h)]
        exact SLe.refl _
    · have : i = s.size := by simp at h; omega
      subst this
      exact VLe.refl _
  exact Eq.mp (by kernel_rfl) key
theorem so124 : Sound Tryd.prog 124 sp124 := by
  refine sound_of_body hmix (pol := 0) Tryd.func124 rfl (by kernel_rfl) fun args bin ob r bout hDe hob => ?_
  unfold sp124 at hDe
  split at hDe
  · rename_i a0
    cases hDe
    exact ⟨rfl, rfl, Nat.le_of_ble_eq_true (by kernel_rfl), cx124 a0, Eq.mp (by kernel_rfl) htt, Eq.mp (by kernel_rfl) da124, Eq.mp (by kernel_rfl) (noM_sound (P := Tryd.prog)), by kernel_rfl, [.str (a0)], args_of_vles (⟨VLe.refl _, trivial⟩), Eq.mp (by kernel_rfl) (bd124 a0 (hob))⟩
  · cases hDe

/-! ### spec.l1Parent -/
def pr102 (s : ByteArray) : Prop := s.size ≤ 1000
noncomputable def rs102 (s : ByteArray) : V := .str (upF s)
noncomputable def sp102 : FSpec := fun args bin => match args, bin with
  | [.str a0], [] => some (pr102 a0, rs102 a0, [])
  | _, _ => none
noncomputable def D102 : Nat → Option (Bool × FSpec) := lk [(124, (false, sp124))]
theorem da102 : SoundAll Tryd.prog D102 := soundAll_cons so124 (soundAll_nil)
noncomputable def cx102 (s : ByteArray) : Cx := ⟨tt, D102, Tryd.f102.ntmps, [0, 2, 3, 7], [], [], fun _ => none, [], noM, []⟩
theorem bd102 (s : ByteArray) (hpre : pr102 s) : bodyP (cx102 s) Tryd.f102 0 [.str (s)] (fun rr => VLe rr (rs102 s)) := by
  have key :
      ((pr124 s) ∧
   (((((↑(lastF s) : Int) == (0 : Int)) = true) →
   (VLe (V.str (ByteArray.mk #[(47 : UInt8)])) (V.str (upF s)))) ∧
   ((((↑(lastF s) : Int) == (0 : Int)) = false) →
   ((((0 : Int) ≤ Option.getD none (0 : Int)) ∧
   ((Option.getD none (0 : Int) ≤ Option.getD (some (↑(lastF s) : Int)) (↑(ByteArray.size s) : Int)) ∧
   (Option.getD (some (↑(lastF s) : Int)) (↑(ByteArray.size s) : Int) ≤ (↑(ByteArray.size s) : Int)))) ∧
   (VLe
   (V.str
   (ByteArray.extract s 0 (Int.toNat (Option.getD (some (↑(lastF s) : Int)) (↑(ByteArray.size s) : Int)))))
   (V.str (upF s))))))) := by
    have hs : s.size ≤ 1000 := hpre
    have hl : lastF s ≤ s.size := lastTo_le _ _
    refine ⟨hs, fun h => ?_, fun h => ?_⟩
    · have : lastF s = 0 := by simpa using h
      exact vle_str (by unfold upF; rw [if_pos this])
    · have : ¬ lastF s = 0 := by simpa using h
      simp only [Option.getD_some, Option.getD_none, Int.toNat_natCast]
      exact ⟨⟨by omega, by omega, by omega⟩, vle_str (by unfold upF; rw [if_neg this])⟩
  exact Eq.mp (by kernel_rfl) key
theorem so102 : Sound Tryd.prog 102 sp102 := by
  refine sound_of_body hmix (pol := 0) Tryd.func102 rfl (by kernel_rfl) fun args bin ob r bout hDe hob => ?_
  unfold sp102 at hDe
  split at hDe
  · rename_i a0
    cases hDe
    exact ⟨rfl, rfl, Nat.le_of_ble_eq_true (by kernel_rfl), cx102 a0, Eq.mp (by kernel_rfl) htt, Eq.mp (by kernel_rfl) da102, Eq.mp (by kernel_rfl) (noM_sound (P := Tryd.prog)), by kernel_rfl, [.str (a0)], args_of_vles (⟨VLe.refl _, trivial⟩), Eq.mp (by kernel_rfl) (bd102 a0 (hob))⟩
  · cases hDe

end Go.Av
