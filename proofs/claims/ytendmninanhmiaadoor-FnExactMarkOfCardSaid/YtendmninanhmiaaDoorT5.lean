/- The reply of a request that was done. -/
import Derived.Test.YtendmninanhmiaaDoorT3
namespace Go.Av
open Go.Proofs
set_option maxRecDepth 100000
set_option maxHeartbeats 2000000
set_option linter.unusedVariables false
set_option linter.unusedSimpArgs false

noncomputable def markOfF (s : TState) (c n : Int) : ReplyResult :=
  if stateF s ≠ 0 then ⟨stateF s, default⟩ else if mkAt s.marks c n < 0 then ⟨4, default⟩ else ⟨0, (atMk s.marks (mkAt s.marks c n).toNat).reply⟩
theorem agR {c v : Int} {t : ByteArray} {w : Int} {x : ReplyResult} (h : x = ⟨c, ⟨v, w, t⟩⟩) : VLe (.agg [.int .i64 c, .int .i64 v, .int .i64 w, .str t]) (encReplyResult 1 x) := by
  subst h
  exact VLe.refl _

/-! ### laws.eqReplyResult -/
def pr42 (x : ReplyResult) (y : ReplyResult) : Prop := True
noncomputable def rs42 (x : ReplyResult) (y : ReplyResult) : V := .bool (decide (x = y))
noncomputable def sp42 : FSpec := fun args bin => match args, bin with
  | [a0, a1], [] => some (VLe a0 (encReplyResult 1 ((decReplyResult a0))) ∧ VLe a1 (encReplyResult 1 ((decReplyResult a1))) ∧ pr42 (decReplyResult a0) (decReplyResult a1), rs42 (decReplyResult a0) (decReplyResult a1), [])
  | _, _ => none
noncomputable def D42 : Nat → Option (Bool × FSpec) := lk [(89, (false, sp89))]
theorem da42 : SoundAll Tryd.prog D42 := soundAll_cons so89 (soundAll_nil)
noncomputable def cx42 (x : ReplyResult) (y : ReplyResult) : Cx := ⟨tt, D42, Tryd.f42.ntmps, [0, 1, 2, 3, 4, 9, 15], [], [], fun _ => none, [], noM, []⟩
theorem bd42 (x : ReplyResult) (y : ReplyResult) (hpre : pr42 x y) : bodyP (cx42 x y) Tryd.f42 0 [encReplyResult 1 (x), encReplyResult 1 (y)] (fun rr => VLe rr (rs42 x y)) := by
  have key :
      ((((ReplyResult.code x != ReplyResult.code y) = true) →
   (VLe (V.bool false) (V.bool (decide (x = y))))) ∧
   (((ReplyResult.code x != ReplyResult.code y) = false) →
   (((VLe (encReply 1 (ReplyResult.reply x))
   (encReply 1 (decReply (encReply 1 (ReplyResult.reply x))))) ∧
   ((VLe (encReply 1 (ReplyResult.reply y))
   (encReply 1 (decReply (encReply 1 (ReplyResult.reply y))))) ∧
   (pr89 (decReply (encReply 1 (ReplyResult.reply x))) (decReply (encReply 1 (ReplyResult.reply y)))))) ∧
   ((((!decide (decReply (encReply 1 (ReplyResult.reply x)) = decReply (encReply 1 (ReplyResult.reply y)))) =
   true) →
   (VLe (V.bool false) (V.bool (decide (x = y))))) ∧
   (((!decide (decReply (encReply 1 (ReplyResult.reply x)) = decReply (encReply 1 (ReplyResult.reply y)))) =
   false) →
   (VLe (V.bool true) (V.bool (decide (x = y))))))))) := by
    simp only [dec_encReply]
    refine ⟨fun h => vle_bool ?_, fun h => ⟨⟨VLe.refl _, VLe.refl _, trivial⟩, fun h3 => vle_bool ?_, fun h3 => vle_bool ?_⟩⟩
    all_goals simp_all [eq_ReplyResult]
  exact Eq.mp (by kernel_rfl) key
theorem so42 : Sound Tryd.prog 42 sp42 := by
  refine sound_of_body hmix (pol := 0) Tryd.func42 rfl (by kernel_rfl) fun args bin ob r bout hDe hob => ?_
  unfold sp42 at hDe
  split at hDe
  · rename_i a0 a1
    cases hDe
    exact ⟨rfl, rfl, Nat.le_of_ble_eq_true (by kernel_rfl), cx42 (decReplyResult a0) (decReplyResult a1), Eq.mp (by kernel_rfl) htt, Eq.mp (by kernel_rfl) da42, Eq.mp (by kernel_rfl) (noM_sound (P := Tryd.prog)), by kernel_rfl, [encReplyResult 1 ((decReplyResult a0)), encReplyResult 1 ((decReplyResult a1))], args_of_vles (⟨hob.1, hob.2.1, trivial⟩), Eq.mp (by kernel_rfl) (bd42 (decReplyResult a0) (decReplyResult a1) (hob.2.2))⟩
  · cases hDe

/-! ### impl.MarkOf -/
def pr41 (s : TState) (c : Int) (n : Int) : Prop := s.bd
noncomputable def rs41 (s : TState) (c : Int) (n : Int) : V := encReplyResult 0 (markOfF s c n)
noncomputable def sp41 : FSpec := fun args bin => match args, bin with
  | [a0, .int .i64 a1, .int .i64 a2], [] => some (VLe a0 (encTState 1 ((decTState a0))) ∧ pr41 (decTState a0) a1 a2, rs41 (decTState a0) a1 a2, [])
  | _, _ => none
noncomputable def D41 : Nat → Option (Bool × FSpec) := lk [(38, (false, sp38)), (85, (false, sp85))]
theorem da41 : SoundAll Tryd.prog D41 := soundAll_cons so38 (soundAll_cons so85 (soundAll_nil))
noncomputable def cx41 (s : TState) (c : Int) (n : Int) : Cx := ⟨tt, D41, Tryd.f41.ntmps, [0, 1, 2, 3, 6, 7, 8, 12, 21], [], [], fun _ => none, [], noM, []⟩
theorem bd41 (s : TState) (c : Int) (n : Int) (hpre : pr41 s c n) : bodyP (cx41 s c n) Tryd.f41 0 [encTState 1 (s), .int .i64 (c), .int .i64 (n)] (fun rr => VLe rr (rs41 s c n)) := by
  have key :
      (((VLe (encTState 1 s) (encTState 1 (decTState (encTState 1 s)))) ∧
   (pr38 (decTState (encTState 1 s)))) ∧
   ((((stateF (decTState (encTState 1 s)) != (0 : Int)) = true) →
   (VLe
   (V.agg
   [V.int IntKind.i64 (stateF (decTState (encTState 1 s))), V.int IntKind.i64 (0 : Int),
   V.int IntKind.i64 (0 : Int), V.str (ByteArray.mk #[])])
   (encReplyResult 1 (markOfF s c n)))) ∧
   (((stateF (decTState (encTState 1 s)) != (0 : Int)) = false) →
   (((VLe (encL (encTMark 1) 1 (TState.marks s))
   (encL (encTMark 1) 1 (decL decTMark (encL (encTMark 1) 1 (TState.marks s))))) ∧
   (pr85 (decL decTMark (encL (encTMark 1) 1 (TState.marks s))) c n)) ∧
   (((decide (mkAt (decL decTMark (encL (encTMark 1) 1 (TState.marks s))) c n < (0 : Int)) = true) →
   (VLe
   (V.agg
   [V.int IntKind.i64 (4 : Int), V.int IntKind.i64 (0 : Int), V.int IntKind.i64 (0 : Int), V.str (ByteArray.mk #[])])
   (encReplyResult 1 (markOfF s c n)))) ∧
   ((decide (mkAt (decL decTMark (encL (encTMark 1) 1 (TState.marks s))) c n < (0 : Int)) = false) →
   ((((0 : Int) ≤ mkAt (decL decTMark (encL (encTMark 1) 1 (TState.marks s))) c n) ∧
   (mkAt (decL decTMark (encL (encTMark 1) 1 (TState.marks s))) c n <
   (↑(List.length (TState.marks s)) : Int))) ∧
   (VLe
   (V.agg
   [V.int IntKind.i64 (0 : Int),
   V.int IntKind.i64
   (Reply.code
   (TMark.reply
   (List.getD (TState.marks s)
   (Int.toNat (mkAt (decL decTMark (encL (encTMark 1) 1 (TState.marks s))) c n)) default))),
   V.int IntKind.i64
   (Reply.value
   (TMark.reply
   (List.getD (TState.marks s)
   (Int.toNat (mkAt (decL decTMark (encL (encTMark 1) 1 (TState.marks s))) c n)) default))),
   V.str
   (Reply.path
   (TMark.reply
   (List.getD (TState.marks s)
   (Int.toNat (mkAt (decL decTMark (encL (encTMark 1) 1 (TState.marks s))) c n)) default)))])
   (encReplyResult 1 (markOfF s c n)))))))))) := by
    simp only [dec_encTState, dec_encPTState, decL_TMark]
    refine ⟨⟨VLe.refl _, hpre⟩, fun h => agR ?_, fun h => ⟨⟨VLe.refl _, hpre.2.2.1⟩, fun h2 => agR ?_, fun h2 => ⟨?_, agR ?_⟩⟩⟩
    · unfold markOfF
      rw [if_pos (ne_of_bne h)]
      rfl
    · unfold markOfF
      rw [if_neg (not_ne_of_bne h), if_pos (of_decide_eq_true h2)]
      rfl
    · have g := of_decide_eq_false h2
      exact ⟨by omega, (idxF_lt (isMk c n) s.marks).elim id fun k => absurd (show mkAt s.marks c n = -1 from k) (by omega)⟩
    · unfold markOfF
      rw [if_neg (not_ne_of_bne h), if_neg (of_decide_eq_false h2)]
  exact Eq.mp (by kernel_rfl) key
theorem so41 : Sound Tryd.prog 41 sp41 := by
  refine sound_of_body hmix (pol := 0) Tryd.func41 rfl (by kernel_rfl) fun args bin ob r bout hDe hob => ?_
  unfold sp41 at hDe
  split at hDe
  · rename_i a0 a1 a2
    cases hDe
    exact ⟨rfl, rfl, Nat.le_of_ble_eq_true (by kernel_rfl), cx41 (decTState a0) a1 a2, Eq.mp (by kernel_rfl) htt, Eq.mp (by kernel_rfl) da41, Eq.mp (by kernel_rfl) (noM_sound (P := Tryd.prog)), by kernel_rfl, [encTState 1 ((decTState a0)), .int .i64 (a1), .int .i64 (a2)], args_of_vles (⟨hob.1, VLe.refl _, VLe.refl _, trivial⟩), Eq.mp (by kernel_rfl) (bd41 (decTState a0) a1 a2 (hob.2))⟩
  · cases hDe

/-! ### spec.MarkOf -/
def pr40 (s : TState) (c : Int) (n : Int) : Prop := s.bd
noncomputable def rs40 (s : TState) (c : Int) (n : Int) : V := encReplyResult 0 (markOfF s c n)
noncomputable def sp40 : FSpec := fun args bin => match args, bin with
  | [a0, .int .i64 a1, .int .i64 a2], [] => some (VLe a0 (encTState 1 ((decTState a0))) ∧ pr40 (decTState a0) a1 a2, rs40 (decTState a0) a1 a2, [])
  | _, _ => none
noncomputable def D40 : Nat → Option (Bool × FSpec) := lk [(77, (false, sp77)), (88, (false, sp88))]
theorem da40 : SoundAll Tryd.prog D40 := soundAll_cons so77 (soundAll_cons so88 (soundAll_nil))
noncomputable def cx40 (s : TState) (c : Int) (n : Int) : Cx := ⟨tt, D40, Tryd.f40.ntmps, [0, 1, 2, 3, 6, 7, 8, 11, 18], [], [], fun _ => none, [], noM, []⟩
theorem bd40 (s : TState) (c : Int) (n : Int) (hpre : pr40 s c n) : bodyP (cx40 s c n) Tryd.f40 0 [encTState 1 (s), .int .i64 (c), .int .i64 (n)] (fun rr => VLe rr (rs40 s c n)) := by
  have key :
      (((VLe (encPTState 1 s) (encPTState 1 (decPTState (encPTState 1 s)))) ∧
   (pr77 (decPTState (encPTState 1 s)))) ∧
   ((((stateF (decPTState (encPTState 1 s)) != (0 : Int)) = true) →
   (VLe
   (V.agg
   [V.int IntKind.i64 (stateF (decPTState (encPTState 1 s))), V.int IntKind.i64 (0 : Int),
   V.int IntKind.i64 (0 : Int), V.str (ByteArray.mk #[])])
   (encReplyResult 1 (markOfF s c n)))) ∧
   (((stateF (decPTState (encPTState 1 s)) != (0 : Int)) = false) →
   (((VLe (encPTState 1 s) (encPTState 1 (decPTState (encPTState 1 s)))) ∧
   (pr88 (decPTState (encPTState 1 s)) c n)) ∧
   (((decide (mkAt (TState.marks (decPTState (encPTState 1 s))) c n < (0 : Int)) = true) →
   (VLe
   (V.agg
   [V.int IntKind.i64 (4 : Int), V.int IntKind.i64 (0 : Int), V.int IntKind.i64 (0 : Int), V.str (ByteArray.mk #[])])
   (encReplyResult 1 (markOfF s c n)))) ∧
   ((decide (mkAt (TState.marks (decPTState (encPTState 1 s))) c n < (0 : Int)) = false) →
   ((((0 : Int) ≤ mkAt (TState.marks (decPTState (encPTState 1 s))) c n) ∧
   (mkAt (TState.marks (decPTState (encPTState 1 s))) c n < (↑(List.length (TState.marks s)) : Int))) ∧
   (VLe
   (V.agg
   [V.int IntKind.i64 (0 : Int),
   V.int IntKind.i64
   (Reply.code
   (TMark.reply
   (List.getD (TState.marks s) (Int.toNat (mkAt (TState.marks (decPTState (encPTState 1 s))) c n))
   default))),
   V.int IntKind.i64
   (Reply.value
   (TMark.reply
   (List.getD (TState.marks s) (Int.toNat (mkAt (TState.marks (decPTState (encPTState 1 s))) c n))
   default))),
   V.str
   (Reply.path
   (TMark.reply
   (List.getD (TState.marks s) (Int.toNat (mkAt (TState.marks (decPTState (encPTState 1 s))) c n))
   default)))])
   (encReplyResult 1 (markOfF s c n)))))))))) := by
    simp only [dec_encTState, dec_encPTState, decL_TMark]
    refine ⟨⟨VLe.refl _, hpre⟩, fun h => agR ?_, fun h => ⟨⟨VLe.refl _, hpre.2.2.1⟩, fun h2 => agR ?_, fun h2 => ⟨?_, agR ?_⟩⟩⟩
    · unfold markOfF
      rw [if_pos (ne_of_bne h)]
      rfl
    · unfold markOfF
      rw [if_neg (not_ne_of_bne h), if_pos (of_decide_eq_true h2)]
      rfl
    · have g := of_decide_eq_false h2
      exact ⟨by omega, (idxF_lt (isMk c n) s.marks).elim id fun k => absurd (show mkAt s.marks c n = -1 from k) (by omega)⟩
    · unfold markOfF
      rw [if_neg (not_ne_of_bne h), if_neg (of_decide_eq_false h2)]
  exact Eq.mp (by kernel_rfl) key
theorem so40 : Sound Tryd.prog 40 sp40 := by
  refine sound_of_body hmix (pol := 0) Tryd.func40 rfl (by kernel_rfl) fun args bin ob r bout hDe hob => ?_
  unfold sp40 at hDe
  split at hDe
  · rename_i a0 a1 a2
    cases hDe
    exact ⟨rfl, rfl, Nat.le_of_ble_eq_true (by kernel_rfl), cx40 (decTState a0) a1 a2, Eq.mp (by kernel_rfl) htt, Eq.mp (by kernel_rfl) da40, Eq.mp (by kernel_rfl) (noM_sound (P := Tryd.prog)), by kernel_rfl, [encTState 1 ((decTState a0)), .int .i64 (a1), .int .i64 (a2)], args_of_vles (⟨hob.1, VLe.refl _, VLe.refl _, trivial⟩), Eq.mp (by kernel_rfl) (bd40 (decTState a0) a1 a2 (hob.2))⟩
  · cases hDe

/-! ### laws.FnExactMarkOf -/
def pr8 (s : TState) (c : Int) (n : Int) : Prop := s.bd ∧ (Lit.int .i64 c).wf = true ∧ (Lit.int .i64 n).wf = true
noncomputable def rs8 (s : TState) (c : Int) (n : Int) : V := .bool (true)
def Q8 (vs : List V) : Prop := ∃ (s : TState) (c : Int) (n : Int), ArgsLe vs [encTState 1 (s), .int .i64 (c), .int .i64 (n)] ∧ pr8 s c n
noncomputable def D8 : Nat → Option (Bool × FSpec) := lk [(35, (false, sp35)), (37, (false, sp37)), (39, (false, sp39)), (42, (false, sp42)), (40, (false, sp40)), (41, (false, sp41))]
theorem da8 : SoundAll Tryd.prog D8 := soundAll_cons so35 (soundAll_cons so37 (soundAll_cons so39 (soundAll_cons so42 (soundAll_cons so40 (soundAll_cons so41 (soundAll_nil))))))
noncomputable def cx8 (s : TState) (c : Int) (n : Int) : Cx := ⟨tt, D8, Tryd.f8.ntmps, [0, 1, 2, 3, 6, 7, 8, 9, 10, 15, 30, 35], [], [], fun _ => none, [], noM, []⟩
theorem bd8 (s : TState) (c : Int) (n : Int) (hpre : pr8 s c n) : bodyP (cx8 s c n) Tryd.f8 0 [encTState 1 (s), .int .i64 (c), .int .i64 (n)] (fun rr => VLe rr (rs8 s c n)) := by
  have key :
      (((VLe (encTState 1 s) (encTState 1 (decTState (encTState 1 s)))) ∧
   (pr35 (decTState (encTState 1 s)) (1048576 : Int))) ∧
   (((decide (szState (decTState (encTState 1 s)) (1048576 : Int) < (0 : Int)) = true) →
   (VLe (V.bool true) (V.bool true))) ∧
   ((decide (szState (decTState (encTState 1 s)) (1048576 : Int) < (0 : Int)) = false) →
   (((VLe (encTState 1 s) (encTState 1 (decTState (encTState 1 s)))) ∧
   (pr37 (decTState (encTState 1 s)))) ∧
   (((VLe (encTState 1 (decTState (encTState 1 s)))
   (encTState 1 (decTState (encTState 1 (decTState (encTState 1 s)))))) ∧
   (pr40 (decTState (encTState 1 (decTState (encTState 1 s)))) c n)) ∧
   (((VLe (encTState 1 s) (encTState 1 (decTState (encTState 1 s)))) ∧
   (pr37 (decTState (encTState 1 s)))) ∧
   (((VLe (encTState 1 (decTState (encTState 1 s)))
   (encTState 1 (decTState (encTState 1 (decTState (encTState 1 s)))))) ∧
   (pr41 (decTState (encTState 1 (decTState (encTState 1 s)))) c n)) ∧
   (((VLe (encReplyResult 1 (markOfF (decTState (encTState 1 (decTState (encTState 1 s)))) c n))
   (encReplyResult 1
   (decReplyResult
   (encReplyResult 1 (markOfF (decTState (encTState 1 (decTState (encTState 1 s)))) c n))))) ∧
   ((VLe (encReplyResult 1 (markOfF (decTState (encTState 1 (decTState (encTState 1 s)))) c n))
   (encReplyResult 1
   (decReplyResult
   (encReplyResult 1 (markOfF (decTState (encTState 1 (decTState (encTState 1 s)))) c n))))) ∧
   (pr42
   (decReplyResult
   (encReplyResult 1 (markOfF (decTState (encTState 1 (decTState (encTState 1 s)))) c n)))
   (decReplyResult
   (encReplyResult 1 (markOfF (decTState (encTState 1 (decTState (encTState 1 s)))) c n)))))) ∧
   ((((!decide
   (decReplyResult
   (encReplyResult 1
   (markOfF (decTState (encTState 1 (decTState (encTState 1 s)))) c n)) =
   decReplyResult
   (encReplyResult 1
   (markOfF (decTState (encTState 1 (decTState (encTState 1 s)))) c n)))) =
   true) →
   (VLe (V.bool false) (V.bool true))) ∧
   (((!decide
   (decReplyResult
   (encReplyResult 1
   (markOfF (decTState (encTState 1 (decTState (encTState 1 s)))) c n)) =
   decReplyResult
   (encReplyResult 1
   (markOfF (decTState (encTState 1 (decTState (encTState 1 s)))) c n)))) =
   false) →
   (((VLe (encTState 1 s) (encTState 1 (decTState (encTState 1 s)))) ∧
   (pr37 (decTState (encTState 1 s)))) ∧
   (((VLe (encTState 1 (decTState (encTState 1 s)))
   (encTState 1 (decTState (encTState 1 (decTState (encTState 1 s)))))) ∧
   ((VLe (encTState 1 (decTState (encTState 1 s)))
   (encTState 1 (decTState (encTState 1 (decTState (encTState 1 s)))))) ∧
   (pr39 (decTState (encTState 1 (decTState (encTState 1 s))))
   (decTState (encTState 1 (decTState (encTState 1 s))))))) ∧
   ((((!decide
   (decTState (encTState 1 (decTState (encTState 1 s))) =
   decTState (encTState 1 (decTState (encTState 1 s))))) =
   true) →
   (VLe (V.bool false) (V.bool true))) ∧
   (((!decide
   (decTState (encTState 1 (decTState (encTState 1 s))) =
   decTState (encTState 1 (decTState (encTState 1 s))))) =
   false) →
   (VLe (V.bool true) (V.bool true)))))))))))))))) := by
    have hb := hpre.1
    have f1 := @szState_bd s 1048576
    simp only [dec_encTState]
    refine ⟨⟨VLe.refl _, by omega, by unfold most; omega, hb⟩, fun h => VLe.refl _, fun h => ?_⟩
    obtain ⟨g1, g2, g3⟩ := f1 (by omega) (of_decide_eq_false h)
    have p1 : pr37 s := ⟨by unfold most; omega, by unfold most; omega, by unfold most; omega⟩
    have p2 : pr39 s s := hb
    clear f1 h
    repeat' (first | exact VLe.refl _ | exact p1 | exact p2 | exact hb | exact trivial | apply And.intro | intro _)
    all_goals simp_all
  exact Eq.mp (by kernel_rfl) key
theorem so8 : Sound Tryd.prog 8 (lawD Q8) := by
  refine sound_of_body hmix (pol := 0) Tryd.func8 rfl (by kernel_rfl) fun args bin ob r bout hDe hob => ?_
  unfold lawD at hDe
  split at hDe
  · cases hDe
    obtain ⟨s, c, n, hle, hpre⟩ := hob
    have hlen : args.length = 3 := hle.1.symm
    exact ⟨rfl, rfl, by rw [hlen]; exact Nat.le_of_ble_eq_true (by kernel_rfl), cx8 s c n, Eq.mp (by kernel_rfl) htt, Eq.mp (by kernel_rfl) da8, Eq.mp (by kernel_rfl) (noM_sound (P := Tryd.prog)), by kernel_rfl, _, hle, Eq.mp (by kernel_rfl) (bd8 s c n hpre)⟩
  · cases hDe

end Go.Av
