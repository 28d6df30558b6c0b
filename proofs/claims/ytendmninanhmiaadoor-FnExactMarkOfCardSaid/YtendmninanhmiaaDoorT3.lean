/- States: what is wrong with them. -/
import Derived.Test.YtendmninanhmiaaDoorT2
import Derived.Test.YtendmninanhmiaaDoorW0
namespace Go.Av
open Go.Proofs
set_option maxRecDepth 100000
set_option maxHeartbeats 2000000
set_option linter.unusedVariables false
set_option linter.unusedSimpArgs false

theorem zele_Session : ELe (.agg [.int .i64 0, .int .i64 0]) (encSession 1 default) := ELe.refl _
theorem zele_TMark : ELe (.agg [.int .i64 0, .int .i64 0, .int .i64 0, .int .i64 0, .str ⟨#[]⟩]) (encTMark 1 default) := ELe.refl _
def szMark (x : TMark) (left : Int) : Int := szLen x.reply.path.size left
theorem szMark_le (x : TMark) (left : Int) : szMark x left ≤ left ∨ szMark x left < 0 := szLen_le _ _
theorem szLen_m1 {n : Nat} {v : Int} (h : szLen n v < 0) : szLen n v = -1 := by
  unfold szLen at h ⊢
  split
  · rfl
  · rename_i c
    rw [if_neg c] at h
    exact absurd h c
theorem decPInt_ptr (c : Int) : decPInt (.ptr [.int .i64 c] 0 1) = c := rfl

/-! ### laws.szSessionS -/
def pr75 (xs : List Session) (left : Int) : Prop := 0 ≤ left ∧ left ≤ most ∧ xs.length ≤ maxLen
noncomputable def rs75 (xs : List Session) (left : Int) : V := .int .i64 (szLen xs.length left)
noncomputable def sp75 : FSpec := fun args bin => match args, bin with
  | [a0, .int .i64 a1], [] => some (VLe a0 (encL (encSession 1) 1 (((decL decSession) a0))) ∧ pr75 ((decL decSession) a0) a1, rs75 ((decL decSession) a0) a1, [])
  | _, _ => none
noncomputable def D75 : Nat → Option (Bool × FSpec) := lk []
theorem da75 : SoundAll Tryd.prog D75 := soundAll_nil
noncomputable def cx75 (xs : List Session) (left : Int) : Cx := ⟨tt, D75, Tryd.f75.ntmps, [0, 1, 4, 10], [], [], fun _ => none, [], noM, []⟩
theorem bd75 (xs : List Session) (left : Int) (hpre : pr75 xs left) : bodyP (cx75 xs left) Tryd.f75 0 [encL (encSession 1) 1 (xs), .int .i64 (left)] (fun rr => VLe rr (rs75 xs left)) := by
  have key :
      ((inK IntKind.i64 (left - (↑(List.length xs) : Int))) ∧
   (((decide (left - (↑(List.length xs) : Int) < (0 : Int)) = true) →
   (VLe (V.int IntKind.i64 (-1 : Int)) (V.int IntKind.i64 (szLen (List.length xs) left)))) ∧
   ((decide (left - (↑(List.length xs) : Int) < (0 : Int)) = false) →
   (VLe (V.int IntKind.i64 (left - (↑(List.length xs) : Int))) (V.int IntKind.i64 (szLen (List.length xs) left)))))) := by
    obtain ⟨h0, hm, hb⟩ := hpre
    unfold most at hm
    unfold maxLen at hb
    refine ⟨inK64 (by omega), fun h => ?_, fun h => ?_⟩
    · exact vle_int (by unfold szLen; rw [if_pos (of_decide_eq_true h)])
    · exact vle_int (by unfold szLen; rw [if_neg (of_decide_eq_false h)])
  exact Eq.mp (by kernel_rfl) key
theorem so75 : Sound Tryd.prog 75 sp75 := by
  refine sound_of_body hmix (pol := 0) Tryd.func75 rfl (by kernel_rfl) fun args bin ob r bout hDe hob => ?_
  unfold sp75 at hDe
  split at hDe
  · rename_i a0 a1
    cases hDe
    exact ⟨rfl, rfl, Nat.le_of_ble_eq_true (by kernel_rfl), cx75 ((decL decSession) a0) a1, Eq.mp (by kernel_rfl) htt, Eq.mp (by kernel_rfl) da75, Eq.mp (by kernel_rfl) (noM_sound (P := Tryd.prog)), by kernel_rfl, [encL (encSession 1) 1 (((decL decSession) a0)), .int .i64 (a1)], args_of_vles (⟨hob.1, VLe.refl _, trivial⟩), Eq.mp (by kernel_rfl) (bd75 ((decL decSession) a0) a1 (hob.2))⟩
  · cases hDe

/-! ### laws.szReply -/
def pr131 (x : Reply) (left : Int) : Prop := 0 ≤ left ∧ left ≤ most ∧ x.bd
noncomputable def rs131 (x : Reply) (left : Int) : V := .int .i64 (szLen x.path.size left)
noncomputable def sp131 : FSpec := fun args bin => match args, bin with
  | [a0, .int .i64 a1], [] => some (VLe a0 (encReply 1 ((decReply a0))) ∧ pr131 (decReply a0) a1, rs131 (decReply a0) a1, [])
  | _, _ => none
noncomputable def D131 : Nat → Option (Bool × FSpec) := lk []
theorem da131 : SoundAll Tryd.prog D131 := soundAll_nil
noncomputable def cx131 (x : Reply) (left : Int) : Cx := ⟨tt, D131, Tryd.f131.ntmps, [0, 1, 2, 4, 11], [], [], fun _ => none, [], noM, []⟩
theorem bd131 (x : Reply) (left : Int) (hpre : pr131 x left) : bodyP (cx131 x left) Tryd.f131 0 [encReply 1 (x), .int .i64 (left)] (fun rr => VLe rr (rs131 x left)) := by
  have key :
      ((inK IntKind.i64 (left - (↑(ByteArray.size (Reply.path x)) : Int))) ∧
   (((decide (left - (↑(ByteArray.size (Reply.path x)) : Int) < (0 : Int)) = true) →
   (VLe (V.int IntKind.i64 (-1 : Int)) (V.int IntKind.i64 (szLen (ByteArray.size (Reply.path x)) left)))) ∧
   ((decide (left - (↑(ByteArray.size (Reply.path x)) : Int) < (0 : Int)) = false) →
   (VLe (V.int IntKind.i64 (left - (↑(ByteArray.size (Reply.path x)) : Int)))
   (V.int IntKind.i64 (szLen (ByteArray.size (Reply.path x)) left)))))) := by
    obtain ⟨h0, hm, hb⟩ := hpre
    unfold most at hm
    unfold Reply.bd maxLen at hb
    refine ⟨inK64 (by omega), fun h => ?_, fun h => ?_⟩
    · exact vle_int (by unfold szLen; rw [if_pos (of_decide_eq_true h)])
    · exact vle_int (by unfold szLen; rw [if_neg (of_decide_eq_false h)])
  exact Eq.mp (by kernel_rfl) key
theorem so131 : Sound Tryd.prog 131 sp131 := by
  refine sound_of_body hmix (pol := 0) Tryd.func131 rfl (by kernel_rfl) fun args bin ob r bout hDe hob => ?_
  unfold sp131 at hDe
  split at hDe
  · rename_i a0 a1
    cases hDe
    exact ⟨rfl, rfl, Nat.le_of_ble_eq_true (by kernel_rfl), cx131 (decReply a0) a1, Eq.mp (by kernel_rfl) htt, Eq.mp (by kernel_rfl) da131, Eq.mp (by kernel_rfl) (noM_sound (P := Tryd.prog)), by kernel_rfl, [encReply 1 ((decReply a0)), .int .i64 (a1)], args_of_vles (⟨hob.1, VLe.refl _, trivial⟩), Eq.mp (by kernel_rfl) (bd131 (decReply a0) a1 (hob.2))⟩
  · cases hDe

/-! ### laws.szMark -/
def pr107 (x : TMark) (left : Int) : Prop := 0 ≤ left ∧ left ≤ most ∧ x.bd
noncomputable def rs107 (x : TMark) (left : Int) : V := .int .i64 (szMark x left)
noncomputable def sp107 : FSpec := fun args bin => match args, bin with
  | [a0, .int .i64 a1], [] => some (VLe a0 (encTMark 1 ((decTMark a0))) ∧ pr107 (decTMark a0) a1, rs107 (decTMark a0) a1, [])
  | _, _ => none
noncomputable def D107 : Nat → Option (Bool × FSpec) := lk [(131, (false, sp131))]
theorem da107 : SoundAll Tryd.prog D107 := soundAll_cons so131 (soundAll_nil)
noncomputable def cx107 (x : TMark) (left : Int) : Cx := ⟨tt, D107, Tryd.f107.ntmps, [0, 1, 2, 4, 10], [], [], fun _ => none, [], noM, []⟩
theorem bd107 (x : TMark) (left : Int) (hpre : pr107 x left) : bodyP (cx107 x left) Tryd.f107 0 [encTMark 1 (x), .int .i64 (left)] (fun rr => VLe rr (rs107 x left)) := by
  have key :
      (((VLe (encReply 1 (TMark.reply x)) (encReply 1 (decReply (encReply 1 (TMark.reply x))))) ∧
   (pr131 (decReply (encReply 1 (TMark.reply x))) left)) ∧
   (((decide (szLen (ByteArray.size (Reply.path (decReply (encReply 1 (TMark.reply x))))) left < (0 : Int)) = true) →
   (VLe (V.int IntKind.i64 (-1 : Int)) (V.int IntKind.i64 (szMark x left)))) ∧
   ((decide (szLen (ByteArray.size (Reply.path (decReply (encReply 1 (TMark.reply x))))) left < (0 : Int)) = false) →
   (VLe (V.int IntKind.i64 (szLen (ByteArray.size (Reply.path (decReply (encReply 1 (TMark.reply x))))) left))
   (V.int IntKind.i64 (szMark x left)))))) := by
    obtain ⟨h0, hm, hb⟩ := hpre
    simp only [dec_encReply]
    exact ⟨⟨VLe.refl _, h0, hm, hb⟩, fun h => vle_int (szLen_m1 (of_decide_eq_true h)).symm, fun h => VLe.refl _⟩
  exact Eq.mp (by kernel_rfl) key
theorem so107 : Sound Tryd.prog 107 sp107 := by
  refine sound_of_body hmix (pol := 0) Tryd.func107 rfl (by kernel_rfl) fun args bin ob r bout hDe hob => ?_
  unfold sp107 at hDe
  split at hDe
  · rename_i a0 a1
    cases hDe
    exact ⟨rfl, rfl, Nat.le_of_ble_eq_true (by kernel_rfl), cx107 (decTMark a0) a1, Eq.mp (by kernel_rfl) htt, Eq.mp (by kernel_rfl) da107, Eq.mp (by kernel_rfl) (noM_sound (P := Tryd.prog)), by kernel_rfl, [encTMark 1 ((decTMark a0)), .int .i64 (a1)], args_of_vles (⟨hob.1, VLe.refl _, trivial⟩), Eq.mp (by kernel_rfl) (bd107 (decTMark a0) a1 (hob.2))⟩
  · cases hDe

/-! ### laws.szMarkS -/
def pr76 (xs : List TMark) (left : Int) : Prop := 0 ≤ left ∧ left ≤ most ∧ xs.length ≤ maxLen ∧ ∀ x ∈ xs, x.bd
noncomputable def rs76 (xs : List TMark) (left : Int) : V := .int .i64 (szS szMark xs left)
noncomputable def sp76 : FSpec := fun args bin => match args, bin with
  | [a0, .int .i64 a1], [] => some (VLe a0 (encL (encTMark 1) 1 (((decL decTMark) a0))) ∧ pr76 ((decL decTMark) a0) a1, rs76 ((decL decTMark) a0) a1, [])
  | _, _ => none
noncomputable def in76_5 (xs : List TMark) (left : Int) : LoopInv :=
  ⟨Nat × Int, fun p => ⟨[(0, encL (encTMark 1) 1 xs), (1, .int .i64 p.2), (5, .int .i64 p.1)], []⟩,
    fun p => p.1 ≤ xs.length ∧ 0 ≤ p.2 ∧ p.2 ≤ left ∧ szS szMark xs left = szA szMark (xs.drop p.1) p.2, fun p => xs.length - p.1⟩
noncomputable def iv76 (xs : List TMark) (left : Int) : Nat → Option LoopInv := fun rg_ => match rg_ with
  | 5 => some (in76_5 xs left)
  | _ => none
noncomputable def D76 : Nat → Option (Bool × FSpec) := lk [(107, (false, sp107))]
theorem da76 : SoundAll Tryd.prog D76 := soundAll_cons so107 (soundAll_nil)
noncomputable def cx76 (xs : List TMark) (left : Int) : Cx := ⟨tt, D76, Tryd.f76.ntmps, [0, 1, 4, 5, 11, 15, 25], [(5, ⟨[(0, none), (1, none), (5, none)], []⟩)], [], iv76 xs left, [], noM, []⟩
theorem bd76 (xs : List TMark) (left : Int) (hpre : pr76 xs left) : bodyP (cx76 xs left) Tryd.f76 0 [encL (encTMark 1) 1 (xs), .int .i64 (left)] (fun rr => VLe rr (rs76 xs left)) := by
  have key :
      ((inK IntKind.i64 (left - (↑(List.length xs) : Int))) ∧
   (((decide (left - (↑(List.length xs) : Int) < (0 : Int)) = true) →
   (VLe (V.int IntKind.i64 (-1 : Int)) (V.int IntKind.i64 (szS szMark xs left)))) ∧
   ((decide (left - (↑(List.length xs) : Int) < (0 : Int)) = false) →
   ((∃ x : Nat × Int, ((SLe
   (AS.mk
   [(0, encL (encTMark 1) 1 xs),
   (1, V.int IntKind.i64 (left - (↑(List.length xs) : Int))), (5, V.int IntKind.i64 (0 : Int))]
   [])
   (AS.mk
   [(0, encL (encTMark 1) 1 xs), (1, V.int IntKind.i64 (Prod.snd x)),
   (5, V.int IntKind.i64 (↑(Prod.fst x) : Int))]
   [])) ∧
   ((Prod.fst x ≤ List.length xs) ∧
   (((0 : Int) ≤ Prod.snd x) ∧
   ((Prod.snd x ≤ left) ∧
   (szS szMark xs left = szA szMark (List.drop (Prod.fst x) xs) (Prod.snd x))))))) ∧
   (∀ x : Nat × Int,
   (((Prod.fst x ≤ List.length xs) ∧
   (((0 : Int) ≤ Prod.snd x) ∧
   ((Prod.snd x ≤ left) ∧
   (szS szMark xs left = szA szMark (List.drop (Prod.fst x) xs) (Prod.snd x))))) →
   (((decide ((↑(Prod.fst x) : Int) < (↑(List.length xs) : Int)) = true) →
   ((((0 : Int) ≤ (↑(Prod.fst x) : Int)) ∧
   ((↑(Prod.fst x) : Int) < (↑(List.length xs) : Int))) ∧
   (((VLe (encTMark 1 (List.getD xs (Int.toNat (↑(Prod.fst x) : Int)) default))
   (encTMark 1 (decTMark (encTMark 1 (List.getD xs (Int.toNat (↑(Prod.fst x) : Int)) default))))) ∧
   (pr107 (decTMark (encTMark 1 (List.getD xs (Int.toNat (↑(Prod.fst x) : Int)) default))) (Prod.snd x))) ∧
   (((decide
   (szMark (decTMark (encTMark 1 (List.getD xs (Int.toNat (↑(Prod.fst x) : Int)) default))) (Prod.snd x) <
   (0 : Int)) =
   true) →
   (VLe (V.int IntKind.i64 (-1 : Int)) (V.int IntKind.i64 (szS szMark xs left)))) ∧
   ((decide
   (szMark (decTMark (encTMark 1 (List.getD xs (Int.toNat (↑(Prod.fst x) : Int)) default))) (Prod.snd x) <
   (0 : Int)) =
   false) →
   ((inK IntKind.i64 ((↑(Prod.fst x) : Int) + (1 : Int))) ∧
   (∃ y : Nat × Int, ((SLe
   (AS.mk
   [(0, encL (encTMark 1) 1 xs),
   (1,
   V.int IntKind.i64
   (szMark (decTMark (encTMark 1 (List.getD xs (Int.toNat (↑(Prod.fst x) : Int)) default)))
   (Prod.snd x))),
   (5, V.int IntKind.i64 ((↑(Prod.fst x) : Int) + (1 : Int)))]
   [])
   (AS.mk
   [(0, encL (encTMark 1) 1 xs), (1, V.int IntKind.i64 (Prod.snd y)),
   (5, V.int IntKind.i64 (↑(Prod.fst y) : Int))]
   [])) ∧
   (((Prod.fst y ≤ List.length xs) ∧
   (((0 : Int) ≤ Prod.snd y) ∧
   ((Prod.snd y ≤ left) ∧
   (szS szMark xs left = szA szMark (List.drop (Prod.fst y) xs) (Prod.snd y))))) ∧
   (List.length xs - Prod.fst y < List.length xs - Prod.fst x)))))))))) ∧
   ((decide ((↑(Prod.fst x) : Int) < (↑(List.length xs) : Int)) = false) →
   (VLe (V.int IntKind.i64 (Prod.snd x)) (V.int IntKind.i64 (szS szMark xs left))))))))))) := by
    obtain ⟨h0, hm, hl, hb⟩ := hpre
    unfold most at hm
    unfold maxLen at hl
    refine ⟨inK64 (by omega), fun h => vle_int (szS_neg (of_decide_eq_true h)).symm, fun h => ?_⟩
    have h' := of_decide_eq_false h
    refine ⟨⟨(0, left - xs.length), SLe.refl _, Nat.zero_le _, by simp only; omega, by simp only; omega, szS_pos h'⟩, ?_⟩
    rintro ⟨i, v⟩ ⟨h1, h2, h3, h4⟩
    simp only at h1 h2 h3 h4 ⊢
    refine ⟨fun h => ?_, fun h => ?_⟩
    · have hlt : i < xs.length := by simpa using h
      have hin : xs.getD i default ∈ xs := by simp [hlt]
      have e := szA_drop szMark hlt v
      have hle := szMark_le (xs.getD i default) v
      simp only [dec_encTMark, Int.toNat_natCast]
      refine ⟨⟨by omega, by omega⟩, ⟨VLe.refl _, by omega, by unfold most; omega, hb _ hin⟩, fun h5 => ?_, fun h5 => ?_⟩
      · have h6 := of_decide_eq_true h5
        exact vle_int (by rw [h4, e, if_pos h6])
      · have h6 := of_decide_eq_false h5
        exact ⟨inK64 (by omega), (i + 1, szMark (xs.getD i default) v), SLe.refl _, ⟨by simp only; omega, by simp only; omega, by simp only; omega, by rw [h4, e, if_neg h6]⟩, by simp only; omega⟩
    · have hge : i = xs.length := by simp at h; omega
      refine vle_int ?_
      rw [h4, hge, List.drop_length]
      rfl
  exact Eq.mp (by kernel_rfl) key
theorem so76 : Sound Tryd.prog 76 sp76 := by
  refine sound_of_body hmix (pol := 0) Tryd.func76 rfl (by kernel_rfl) fun args bin ob r bout hDe hob => ?_
  unfold sp76 at hDe
  split at hDe
  · rename_i a0 a1
    cases hDe
    exact ⟨rfl, rfl, Nat.le_of_ble_eq_true (by kernel_rfl), cx76 ((decL decTMark) a0) a1, Eq.mp (by kernel_rfl) htt, Eq.mp (by kernel_rfl) da76, Eq.mp (by kernel_rfl) (noM_sound (P := Tryd.prog)), by kernel_rfl, [encL (encTMark 1) 1 (((decL decTMark) a0)), .int .i64 (a1)], args_of_vles (⟨hob.1, VLe.refl _, trivial⟩), Eq.mp (by kernel_rfl) (bd76 ((decL decTMark) a0) a1 (hob.2))⟩
  · cases hDe

noncomputable def szState (s : TState) (left : Int) : Int :=
  if szS szZnode s.nodes left < 0 then -1 else if szLen s.sessions.length (szS szZnode s.nodes left) < 0 then -1
  else if szS szMark s.marks (szLen s.sessions.length (szS szZnode s.nodes left)) < 0 then -1 else szS szMark s.marks (szLen s.sessions.length (szS szZnode s.nodes left))
theorem szState_bd {s : TState} {left : Int} (h0 : 0 ≤ left) (h : ¬ szState s left < 0) : (s.nodes.length : Int) ≤ left ∧ (s.sessions.length : Int) ≤ left ∧ (s.marks.length : Int) ≤ left := by
  unfold szState at h
  split at h
  · exact absurd (show (-1 : Int) < 0 by decide) h
  rename_i g1
  split at h
  · exact absurd (show (-1 : Int) < 0 by decide) h
  rename_i g2
  split at h
  · exact absurd (show (-1 : Int) < 0 by decide) h
  rename_i g3
  have a1 := szS_bd g1
  have a2 := szLen_bd g2
  have a3 := szS_bd g3
  have t1 := szS_top szZnode_le s.nodes left
  have t2 := szLen_le s.sessions.length (szS szZnode s.nodes left)
  omega

/-! ### laws.szState -/
def pr35 (s : TState) (left : Int) : Prop := 0 ≤ left ∧ left ≤ most ∧ s.bd
noncomputable def rs35 (s : TState) (left : Int) : V := .int .i64 (szState s left)
noncomputable def sp35 : FSpec := fun args bin => match args, bin with
  | [a0, .int .i64 a1], [] => some (VLe a0 (encTState 1 ((decTState a0))) ∧ pr35 (decTState a0) a1, rs35 (decTState a0) a1, [])
  | _, _ => none
noncomputable def D35 : Nat → Option (Bool × FSpec) := lk [(29, (false, sp29)), (75, (false, sp75)), (76, (false, sp76))]
theorem da35 : SoundAll Tryd.prog D35 := soundAll_cons so29 (soundAll_cons so75 (soundAll_cons so76 (soundAll_nil)))
noncomputable def cx35 (s : TState) (left : Int) : Cx := ⟨tt, D35, Tryd.f35.ntmps, [0, 1, 2, 4, 10, 16, 22], [], [], fun _ => none, [], noM, []⟩
theorem bd35 (s : TState) (left : Int) (hpre : pr35 s left) : bodyP (cx35 s left) Tryd.f35 0 [encTState 1 (s), .int .i64 (left)] (fun rr => VLe rr (rs35 s left)) := by
  have key :
      (((VLe (encL (encZnode 1) 1 (TState.nodes s))
   (encL (encZnode 1) 1 (decL decZnode (encL (encZnode 1) 1 (TState.nodes s))))) ∧
   (pr29 (decL decZnode (encL (encZnode 1) 1 (TState.nodes s))) left)) ∧
   (((decide (szS szZnode (decL decZnode (encL (encZnode 1) 1 (TState.nodes s))) left < (0 : Int)) = true) →
   (VLe (V.int IntKind.i64 (-1 : Int)) (V.int IntKind.i64 (szState s left)))) ∧
   ((decide (szS szZnode (decL decZnode (encL (encZnode 1) 1 (TState.nodes s))) left < (0 : Int)) = false) →
   (((VLe (encL (encSession 1) 1 (TState.sessions s))
   (encL (encSession 1) 1 (decL decSession (encL (encSession 1) 1 (TState.sessions s))))) ∧
   (pr75 (decL decSession (encL (encSession 1) 1 (TState.sessions s)))
   (szS szZnode (decL decZnode (encL (encZnode 1) 1 (TState.nodes s))) left))) ∧
   (((decide
   (szLen (List.length (decL decSession (encL (encSession 1) 1 (TState.sessions s))))
   (szS szZnode (decL decZnode (encL (encZnode 1) 1 (TState.nodes s))) left) <
   (0 : Int)) =
   true) →
   (VLe (V.int IntKind.i64 (-1 : Int)) (V.int IntKind.i64 (szState s left)))) ∧
   ((decide
   (szLen (List.length (decL decSession (encL (encSession 1) 1 (TState.sessions s))))
   (szS szZnode (decL decZnode (encL (encZnode 1) 1 (TState.nodes s))) left) <
   (0 : Int)) =
   false) →
   (((VLe (encL (encTMark 1) 1 (TState.marks s))
   (encL (encTMark 1) 1 (decL decTMark (encL (encTMark 1) 1 (TState.marks s))))) ∧
   (pr76 (decL decTMark (encL (encTMark 1) 1 (TState.marks s)))
   (szLen (List.length (decL decSession (encL (encSession 1) 1 (TState.sessions s))))
   (szS szZnode (decL decZnode (encL (encZnode 1) 1 (TState.nodes s))) left)))) ∧
   (((decide
   (szS szMark (decL decTMark (encL (encTMark 1) 1 (TState.marks s)))
   (szLen (List.length (decL decSession (encL (encSession 1) 1 (TState.sessions s))))
   (szS szZnode (decL decZnode (encL (encZnode 1) 1 (TState.nodes s))) left)) <
   (0 : Int)) =
   true) →
   (VLe (V.int IntKind.i64 (-1 : Int)) (V.int IntKind.i64 (szState s left)))) ∧
   ((decide
   (szS szMark (decL decTMark (encL (encTMark 1) 1 (TState.marks s)))
   (szLen (List.length (decL decSession (encL (encSession 1) 1 (TState.sessions s))))
   (szS szZnode (decL decZnode (encL (encZnode 1) 1 (TState.nodes s))) left)) <
   (0 : Int)) =
   false) →
   (VLe
   (V.int IntKind.i64
   (szS szMark (decL decTMark (encL (encTMark 1) 1 (TState.marks s)))
   (szLen (List.length (decL decSession (encL (encSession 1) 1 (TState.sessions s))))
   (szS szZnode (decL decZnode (encL (encZnode 1) 1 (TState.nodes s))) left))))
   (V.int IntKind.i64 (szState s left)))))))))))) := by
    obtain ⟨h0, hm, ⟨hn, hnb⟩, hs, hk, hkb⟩ := hpre
    simp only [decL_Znode, decL_Session, decL_TMark]
    have t1 := szS_top szZnode_le s.nodes left
    have t2 := szLen_le s.sessions.length (szS szZnode s.nodes left)
    unfold most at hm
    refine ⟨⟨VLe.refl _, h0, by unfold most; omega, hn, hnb⟩, fun h => ?_, fun h => ?_⟩
    · exact vle_int (by unfold szState; rw [if_pos (of_decide_eq_true h)])
    have g1 := of_decide_eq_false h
    refine ⟨⟨VLe.refl _, by omega, by unfold most; omega, hs⟩, fun h => ?_, fun h => ?_⟩
    · exact vle_int (by unfold szState; rw [if_neg g1, if_pos (of_decide_eq_true h)])
    have g2 := of_decide_eq_false h
    refine ⟨⟨VLe.refl _, by omega, by unfold most; omega, hk, hkb⟩, fun h => ?_, fun h => ?_⟩
    · exact vle_int (by unfold szState; rw [if_neg g1, if_neg g2, if_pos (of_decide_eq_true h)])
    · exact vle_int (by unfold szState; rw [if_neg g1, if_neg g2, if_neg (of_decide_eq_false h)])
  exact Eq.mp (by kernel_rfl) key
theorem so35 : Sound Tryd.prog 35 sp35 := by
  refine sound_of_body hmix (pol := 0) Tryd.func35 rfl (by kernel_rfl) fun args bin ob r bout hDe hob => ?_
  unfold sp35 at hDe
  split at hDe
  · rename_i a0 a1
    cases hDe
    exact ⟨rfl, rfl, Nat.le_of_ble_eq_true (by kernel_rfl), cx35 (decTState a0) a1, Eq.mp (by kernel_rfl) htt, Eq.mp (by kernel_rfl) da35, Eq.mp (by kernel_rfl) (noM_sound (P := Tryd.prog)), by kernel_rfl, [encTState 1 ((decTState a0)), .int .i64 (a1)], args_of_vles (⟨hob.1, VLe.refl _, trivial⟩), Eq.mp (by kernel_rfl) (bd35 (decTState a0) a1 (hob.2))⟩
  · cases hDe

/-! ### laws.toSession -/
def pr111 (x : Session) : Prop := True
noncomputable def rs111 (x : Session) : V := encSession 2 (x)
noncomputable def sp111 : FSpec := fun args bin => match args, bin with
  | [a0], [] => some (VLe a0 (encSession 1 ((decSession a0))) ∧ pr111 (decSession a0), rs111 (decSession a0), [])
  | _, _ => none
noncomputable def D111 : Nat → Option (Bool × FSpec) := lk []
theorem da111 : SoundAll Tryd.prog D111 := soundAll_nil
noncomputable def cx111 (x : Session) : Cx := ⟨tt, D111, Tryd.f111.ntmps, [0, 1, 2, 3], [], [], fun _ => none, [], noM, []⟩
theorem bd111 (x : Session) (hpre : pr111 x) : bodyP (cx111 x) Tryd.f111 1 [encSession 1 (x)] (fun rr => VLe rr (rs111 x)) := by
  have key :
      (VLe (encSession 1 x) (encSession 1 x)) := by
    exact vle_agg ⟨VLe.refl _, VLe.refl _, trivial⟩
  exact Eq.mp (by kernel_rfl) key
theorem so111 : Sound Tryd.prog 111 sp111 := by
  refine sound_of_body hmix (pol := 1) Tryd.func111 rfl (by kernel_rfl) fun args bin ob r bout hDe hob => ?_
  unfold sp111 at hDe
  split at hDe
  · rename_i a0
    cases hDe
    exact ⟨rfl, rfl, Nat.le_of_ble_eq_true (by kernel_rfl), cx111 (decSession a0), Eq.mp (by kernel_rfl) htt, Eq.mp (by kernel_rfl) da111, Eq.mp (by kernel_rfl) (noM_sound (P := Tryd.prog)), by kernel_rfl, [encSession 1 ((decSession a0))], args_of_vles (⟨hob.1, trivial⟩), Eq.mp (by kernel_rfl) (bd111 (decSession a0) (hob.2))⟩
  · cases hDe

/-! ### laws.toSessionS -/
def pr78 (xs : List Session) : Prop := xs.length ≤ most ∧ ∀ x ∈ xs, pr111 x
noncomputable def rs78 (xs : List Session) : V := encL (encSession 1) 2 (xs)
noncomputable def sp78 : FSpec := fun args bin => match args, bin with
  | [a0], [] => some (VLe a0 (encL (encSession 1) 1 (((decL decSession) a0))) ∧ pr78 ((decL decSession) a0), rs78 ((decL decSession) a0), [])
  | _, _ => none
noncomputable def in78_3 (xs : List Session) : LoopInv :=
  ⟨Nat × List Session, fun p => ⟨[(0, encL (encSession 1) 1 xs), (3, .osl (canonT 3) xs.length), (4, .int .i64 p.1)], [(canonT 3, .arr 2 xs.length (gL (encSession 1) p.2) tagS)]⟩,
    fun p => p.1 ≤ xs.length ∧ p.2.length = xs.length ∧ ∀ j, j < p.1 → p.2.getD j default = xs.getD j default, fun p => xs.length - p.1⟩
noncomputable def iv78 (xs : List Session) : Nat → Option LoopInv := fun rg_ => match rg_ with
  | 3 => some (in78_3 xs)
  | _ => none
noncomputable def D78 : Nat → Option (Bool × FSpec) := lk [(111, (false, sp111))]
theorem da78 : SoundAll Tryd.prog D78 := soundAll_cons so111 (soundAll_nil)
noncomputable def cx78 (xs : List Session) : Cx := ⟨tt, D78, Tryd.f78.ntmps, [0, 2, 3, 4, 11], [(3, ⟨[(0, none), (3, some 2), (4, none)], []⟩)], [], iv78 xs, [], noM, []⟩
theorem bd78 (xs : List Session) (hpre : pr78 xs) : bodyP (cx78 xs) Tryd.f78 1 [encL (encSession 1) 1 (xs)] (fun rr => VLe rr (rs78 xs)) := by
  have key :
      ((((0 : Int) ≤ (↑(List.length xs) : Int)) ∧
   (((↑(List.length xs) : Int) ≤ (↑(List.length xs) : Int)) ∧
   ((↑(List.length xs) : Int) ≤ (↑1073741824 : Int)))) ∧
   ((∃ x : Nat × List Session, ((SLe
   (AS.mk
   [(0, encL (encSession 1) 1 xs),
   (3, V.osl 32000256 (Int.toNat (↑(List.length xs) : Int))),
   (4, V.int IntKind.i64 (0 : Int))]
   [(32000256,
   Blk.arr 2 (Int.toNat (↑(List.length xs) : Int))
   (fun (x : Nat) ↦ V.agg [V.int IntKind.i64 (0 : Int), V.int IntKind.i64 (0 : Int)]) 100)])
   (AS.mk
   [(0, encL (encSession 1) 1 xs), (3, V.osl 32000256 (List.length xs)),
   (4, V.int IntKind.i64 (↑(Prod.fst x) : Int))]
   [(32000256, Blk.arr 2 (List.length xs) (gL (encSession 1) (Prod.snd x)) 100)])) ∧
   ((Prod.fst x ≤ List.length xs) ∧
   ((List.length (Prod.snd x) = List.length xs) ∧
   (∀ j : Nat,
   ((j < Prod.fst x) →
   (List.getD (Prod.snd x) j default = List.getD xs j default))))))) ∧
   (∀ x : Nat × List Session,
   (((Prod.fst x ≤ List.length xs) ∧
   ((List.length (Prod.snd x) = List.length xs) ∧
   (∀ j : Nat,
   ((j < Prod.fst x) →
   (List.getD (Prod.snd x) j default = List.getD xs j default))))) →
   (((decide ((↑(Prod.fst x) : Int) < (↑(List.length xs) : Int)) = true) →
   ((((0 : Int) ≤ (↑(Prod.fst x) : Int)) ∧
   ((↑(Prod.fst x) : Int) < (↑(List.length xs) : Int))) ∧
   (((VLe (encSession 1 (List.getD xs (Int.toNat (↑(Prod.fst x) : Int)) default))
   (encSession 1 (decSession (encSession 1 (List.getD xs (Int.toNat (↑(Prod.fst x) : Int)) default))))) ∧
   (pr111 (decSession (encSession 1 (List.getD xs (Int.toNat (↑(Prod.fst x) : Int)) default))))) ∧
   ((((0 : Int) ≤ (↑(Prod.fst x) : Int)) ∧
   ((↑(Prod.fst x) : Int) < (↑(List.length xs) : Int))) ∧
   ((Int.toNat (↑(Prod.fst x) : Int) < List.length xs) ∧
   ((inK IntKind.i64 ((↑(Prod.fst x) : Int) + (1 : Int))) ∧
   (∃ y : Nat × List Session, ((SLe
   (AS.mk
   [(0, encL (encSession 1) 1 xs), (3, V.osl 32000256 (List.length xs)),
   (4, V.int IntKind.i64 ((↑(Prod.fst x) : Int) + (1 : Int)))]
   [(32000256,
   Blk.arr 2 (List.length xs)
   (setg (gL (encSession 1) (Prod.snd x)) (Int.toNat (↑(Prod.fst x) : Int))
   (encSession 1
   (decSession (encSession 1 (List.getD xs (Int.toNat (↑(Prod.fst x) : Int)) default)))))
   100)])
   (AS.mk
   [(0, encL (encSession 1) 1 xs), (3, V.osl 32000256 (List.length xs)),
   (4, V.int IntKind.i64 (↑(Prod.fst y) : Int))]
   [(32000256, Blk.arr 2 (List.length xs) (gL (encSession 1) (Prod.snd y)) 100)])) ∧
   (((Prod.fst y ≤ List.length xs) ∧
   ((List.length (Prod.snd y) = List.length xs) ∧
   (∀ j : Nat,
   ((j < Prod.fst y) →
   (List.getD (Prod.snd y) j default = List.getD xs j default))))) ∧
   (List.length xs - Prod.fst y < List.length xs - Prod.fst x)))))))))) ∧
   ((decide ((↑(Prod.fst x) : Int) < (↑(List.length xs) : Int)) = false) →
   (VLe (V.sl (List.length xs) (gL (encSession 1) (Prod.snd x)) 2)
   (encL (encSession 1) 2 xs)))))))) := by
    unfold pr78 most at hpre
    obtain ⟨hpre, hel⟩ := hpre
    refine ⟨⟨by omega, by omega, by omega⟩, ⟨(0, List.replicate xs.length default), ?_, by simp, by simp, fun j hj => absurd hj (Nat.not_lt_zero j)⟩, ?_⟩
    · refine sle_of ⟨rfl, VLe.refl _, rfl, VLe.refl _, rfl, VLe.refl _, trivial⟩ ⟨rfl, ?_, trivial⟩
      refine ble_arr (fun i hi => ?_) (Or.inl rfl)
      have hi' : i < xs.length := hi
      have e1 : gL (encSession 1) (List.replicate xs.length default) i = (encSession 1) default := by simp [gL, hi']
      rw [e1]
      exact zele_Session
    · rintro ⟨i, ys⟩ ⟨hi, hl, hj⟩
      simp only at hi hl hj ⊢
      refine ⟨fun h => ?_, fun h => ?_⟩
      · have hlt : i < xs.length := by simpa using h
        have hin : xs.getD i default ∈ xs := by simp [hlt]
        simp only [dec_encSession, Int.toNat_natCast]
        refine ⟨⟨by omega, by omega⟩, ⟨VLe.refl _, hel _ hin⟩, ⟨by omega, by omega⟩, by simpa using hlt, inK64 (by omega), (i + 1, ys.set i (xs.getD i default)), ?_, ⟨by simp only; omega, by simpa using hl, fun j h2 => ?_⟩, by simp only; omega⟩
        · refine sle_of ⟨rfl, VLe.refl _, rfl, VLe.refl _, rfl, vle_int (by simp), trivial⟩ ⟨rfl, ?_, trivial⟩
          refine ble_arr (fun k hk => ?_) (Or.inl rfl)
          simp only [setg, gL, Int.toNat_natCast]
          by_cases e : k = i
          · subst e
            rw [if_pos rfl, getD_set_eq _ _ _ _ (by omega)]
            exact ele_Session _ _ _
          · rw [if_neg e, getD_set_ne _ _ _ _ e]
            exact ELe.refl _
        · simp only at h2 ⊢
          by_cases e : j = i
          · subst e; rw [getD_set_eq _ _ _ _ (by omega)]
          · rw [getD_set_ne _ _ _ _ e]; exact hj j (by omega)
      · have hge : i = xs.length := by simp at h; omega
        refine vle_sl (fun k hk => ?_) (Or.inl rfl)
        simp only [gL]
        rw [hj k (by omega)]
        exact ELe.refl _
  exact Eq.mp (by kernel_rfl) key
theorem so78 : Sound Tryd.prog 78 sp78 := by
  refine sound_of_body hmix (pol := 1) Tryd.func78 rfl (by kernel_rfl) fun args bin ob r bout hDe hob => ?_
  unfold sp78 at hDe
  split at hDe
  · rename_i a0
    cases hDe
    exact ⟨rfl, rfl, Nat.le_of_ble_eq_true (by kernel_rfl), cx78 ((decL decSession) a0), Eq.mp (by kernel_rfl) htt, Eq.mp (by kernel_rfl) da78, Eq.mp (by kernel_rfl) (noM_sound (P := Tryd.prog)), by kernel_rfl, [encL (encSession 1) 1 (((decL decSession) a0))], args_of_vles (⟨hob.1, trivial⟩), Eq.mp (by kernel_rfl) (bd78 ((decL decSession) a0) (hob.2))⟩
  · cases hDe

/-! ### laws.toReply -/
def pr132 (x : Reply) : Prop := True
noncomputable def rs132 (x : Reply) : V := encReply 2 (x)
noncomputable def sp132 : FSpec := fun args bin => match args, bin with
  | [a0], [] => some (VLe a0 (encReply 1 ((decReply a0))) ∧ pr132 (decReply a0), rs132 (decReply a0), [])
  | _, _ => none
noncomputable def D132 : Nat → Option (Bool × FSpec) := lk []
theorem da132 : SoundAll Tryd.prog D132 := soundAll_nil
noncomputable def cx132 (x : Reply) : Cx := ⟨tt, D132, Tryd.f132.ntmps, [0, 1, 2, 3], [], [], fun _ => none, [], noM, []⟩
theorem bd132 (x : Reply) (hpre : pr132 x) : bodyP (cx132 x) Tryd.f132 1 [encReply 1 (x)] (fun rr => VLe rr (rs132 x)) := by
  have key :
      (VLe (encReply 1 x) (encReply 1 x)) := by
    exact vle_agg ⟨VLe.refl _, VLe.refl _, VLe.refl _, trivial⟩
  exact Eq.mp (by kernel_rfl) key
theorem so132 : Sound Tryd.prog 132 sp132 := by
  refine sound_of_body hmix (pol := 1) Tryd.func132 rfl (by kernel_rfl) fun args bin ob r bout hDe hob => ?_
  unfold sp132 at hDe
  split at hDe
  · rename_i a0
    cases hDe
    exact ⟨rfl, rfl, Nat.le_of_ble_eq_true (by kernel_rfl), cx132 (decReply a0), Eq.mp (by kernel_rfl) htt, Eq.mp (by kernel_rfl) da132, Eq.mp (by kernel_rfl) (noM_sound (P := Tryd.prog)), by kernel_rfl, [encReply 1 ((decReply a0))], args_of_vles (⟨hob.1, trivial⟩), Eq.mp (by kernel_rfl) (bd132 (decReply a0) (hob.2))⟩
  · cases hDe

/-! ### laws.toMark -/
def pr112 (x : TMark) : Prop := True
noncomputable def rs112 (x : TMark) : V := encTMark 2 (x)
noncomputable def sp112 : FSpec := fun args bin => match args, bin with
  | [a0], [] => some (VLe a0 (encTMark 1 ((decTMark a0))) ∧ pr112 (decTMark a0), rs112 (decTMark a0), [])
  | _, _ => none
noncomputable def D112 : Nat → Option (Bool × FSpec) := lk [(132, (false, sp132))]
theorem da112 : SoundAll Tryd.prog D112 := soundAll_cons so132 (soundAll_nil)
noncomputable def cx112 (x : TMark) : Cx := ⟨tt, D112, Tryd.f112.ntmps, [0, 1, 2, 3], [], [], fun _ => none, [], noM, []⟩
theorem bd112 (x : TMark) (hpre : pr112 x) : bodyP (cx112 x) Tryd.f112 1 [encTMark 1 (x)] (fun rr => VLe rr (rs112 x)) := by
  have key :
      (((VLe (encReply 1 (TMark.reply x)) (encReply 1 (decReply (encReply 1 (TMark.reply x))))) ∧
   (pr132 (decReply (encReply 1 (TMark.reply x))))) ∧
   (VLe (encTMark 1 x) (encTMark 1 x))) := by
    simp only [dec_encReply]
    exact ⟨⟨VLe.refl _, trivial⟩, VLe.refl _⟩
  exact Eq.mp (by kernel_rfl) key
theorem so112 : Sound Tryd.prog 112 sp112 := by
  refine sound_of_body hmix (pol := 1) Tryd.func112 rfl (by kernel_rfl) fun args bin ob r bout hDe hob => ?_
  unfold sp112 at hDe
  split at hDe
  · rename_i a0
    cases hDe
    exact ⟨rfl, rfl, Nat.le_of_ble_eq_true (by kernel_rfl), cx112 (decTMark a0), Eq.mp (by kernel_rfl) htt, Eq.mp (by kernel_rfl) da112, Eq.mp (by kernel_rfl) (noM_sound (P := Tryd.prog)), by kernel_rfl, [encTMark 1 ((decTMark a0))], args_of_vles (⟨hob.1, trivial⟩), Eq.mp (by kernel_rfl) (bd112 (decTMark a0) (hob.2))⟩
  · cases hDe

/-! ### laws.toMarkS -/
def pr79 (xs : List TMark) : Prop := xs.length ≤ most ∧ ∀ x ∈ xs, pr112 x
noncomputable def rs79 (xs : List TMark) : V := encL (encTMark 1) 2 (xs)
noncomputable def sp79 : FSpec := fun args bin => match args, bin with
  | [a0], [] => some (VLe a0 (encL (encTMark 1) 1 (((decL decTMark) a0))) ∧ pr79 ((decL decTMark) a0), rs79 ((decL decTMark) a0), [])
  | _, _ => none
noncomputable def in79_3 (xs : List TMark) : LoopInv :=
  ⟨Nat × List TMark, fun p => ⟨[(0, encL (encTMark 1) 1 xs), (3, .osl (canonT 3) xs.length), (4, .int .i64 p.1)], [(canonT 3, .arr 5 xs.length (gL (encTMark 1) p.2) tagS)]⟩,
    fun p => p.1 ≤ xs.length ∧ p.2.length = xs.length ∧ ∀ j, j < p.1 → p.2.getD j default = xs.getD j default, fun p => xs.length - p.1⟩
noncomputable def iv79 (xs : List TMark) : Nat → Option LoopInv := fun rg_ => match rg_ with
  | 3 => some (in79_3 xs)
  | _ => none
noncomputable def D79 : Nat → Option (Bool × FSpec) := lk [(112, (false, sp112))]
theorem da79 : SoundAll Tryd.prog D79 := soundAll_cons so112 (soundAll_nil)
noncomputable def cx79 (xs : List TMark) : Cx := ⟨tt, D79, Tryd.f79.ntmps, [0, 2, 3, 4, 11], [(3, ⟨[(0, none), (3, some 5), (4, none)], []⟩)], [], iv79 xs, [], noM, []⟩
theorem bd79 (xs : List TMark) (hpre : pr79 xs) : bodyP (cx79 xs) Tryd.f79 1 [encL (encTMark 1) 1 (xs)] (fun rr => VLe rr (rs79 xs)) := by
  have key :
      ((((0 : Int) ≤ (↑(List.length xs) : Int)) ∧
   (((↑(List.length xs) : Int) ≤ (↑(List.length xs) : Int)) ∧
   ((↑(List.length xs) : Int) ≤ (↑1073741824 : Int)))) ∧
   ((∃ x : Nat × List TMark, ((SLe
   (AS.mk
   [(0, encL (encTMark 1) 1 xs),
   (3, V.osl 32000256 (Int.toNat (↑(List.length xs) : Int))),
   (4, V.int IntKind.i64 (0 : Int))]
   [(32000256,
   Blk.arr 5 (Int.toNat (↑(List.length xs) : Int))
   (fun (x : Nat) ↦
   V.agg
   [V.int IntKind.i64 (0 : Int), V.int IntKind.i64 (0 : Int), V.int IntKind.i64 (0 : Int),
   V.int IntKind.i64 (0 : Int), V.str (ByteArray.mk #[])])
   100)])
   (AS.mk
   [(0, encL (encTMark 1) 1 xs), (3, V.osl 32000256 (List.length xs)),
   (4, V.int IntKind.i64 (↑(Prod.fst x) : Int))]
   [(32000256, Blk.arr 5 (List.length xs) (gL (encTMark 1) (Prod.snd x)) 100)])) ∧
   ((Prod.fst x ≤ List.length xs) ∧
   ((List.length (Prod.snd x) = List.length xs) ∧
   (∀ j : Nat,
   ((j < Prod.fst x) →
   (List.getD (Prod.snd x) j default = List.getD xs j default))))))) ∧
   (∀ x : Nat × List TMark,
   (((Prod.fst x ≤ List.length xs) ∧
   ((List.length (Prod.snd x) = List.length xs) ∧
   (∀ j : Nat,
   ((j < Prod.fst x) →
   (List.getD (Prod.snd x) j default = List.getD xs j default))))) →
   (((decide ((↑(Prod.fst x) : Int) < (↑(List.length xs) : Int)) = true) →
   ((((0 : Int) ≤ (↑(Prod.fst x) : Int)) ∧
   ((↑(Prod.fst x) : Int) < (↑(List.length xs) : Int))) ∧
   (((VLe (encTMark 1 (List.getD xs (Int.toNat (↑(Prod.fst x) : Int)) default))
   (encTMark 1 (decTMark (encTMark 1 (List.getD xs (Int.toNat (↑(Prod.fst x) : Int)) default))))) ∧
   (pr112 (decTMark (encTMark 1 (List.getD xs (Int.toNat (↑(Prod.fst x) : Int)) default))))) ∧
   ((((0 : Int) ≤ (↑(Prod.fst x) : Int)) ∧
   ((↑(Prod.fst x) : Int) < (↑(List.length xs) : Int))) ∧
   ((Int.toNat (↑(Prod.fst x) : Int) < List.length xs) ∧
   ((inK IntKind.i64 ((↑(Prod.fst x) : Int) + (1 : Int))) ∧
   (∃ y : Nat × List TMark, ((SLe
   (AS.mk
   [(0, encL (encTMark 1) 1 xs), (3, V.osl 32000256 (List.length xs)),
   (4, V.int IntKind.i64 ((↑(Prod.fst x) : Int) + (1 : Int)))]
   [(32000256,
   Blk.arr 5 (List.length xs)
   (setg (gL (encTMark 1) (Prod.snd x)) (Int.toNat (↑(Prod.fst x) : Int))
   (encTMark 1
   (decTMark (encTMark 1 (List.getD xs (Int.toNat (↑(Prod.fst x) : Int)) default)))))
   100)])
   (AS.mk
   [(0, encL (encTMark 1) 1 xs), (3, V.osl 32000256 (List.length xs)),
   (4, V.int IntKind.i64 (↑(Prod.fst y) : Int))]
   [(32000256, Blk.arr 5 (List.length xs) (gL (encTMark 1) (Prod.snd y)) 100)])) ∧
   (((Prod.fst y ≤ List.length xs) ∧
   ((List.length (Prod.snd y) = List.length xs) ∧
   (∀ j : Nat,
   ((j < Prod.fst y) →
   (List.getD (Prod.snd y) j default = List.getD xs j default))))) ∧
   (List.length xs - Prod.fst y < List.length xs - Prod.fst x)))))))))) ∧
   ((decide ((↑(Prod.fst x) : Int) < (↑(List.length xs) : Int)) = false) →
   (VLe (V.sl (List.length xs) (gL (encTMark 1) (Prod.snd x)) 2) (encL (encTMark 1) 2 xs)))))))) := by
    unfold pr79 most at hpre
    obtain ⟨hpre, hel⟩ := hpre
    refine ⟨⟨by omega, by omega, by omega⟩, ⟨(0, List.replicate xs.length default), ?_, by simp, by simp, fun j hj => absurd hj (Nat.not_lt_zero j)⟩, ?_⟩
    · refine sle_of ⟨rfl, VLe.refl _, rfl, VLe.refl _, rfl, VLe.refl _, trivial⟩ ⟨rfl, ?_, trivial⟩
      refine ble_arr (fun i hi => ?_) (Or.inl rfl)
      have hi' : i < xs.length := hi
      have e1 : gL (encTMark 1) (List.replicate xs.length default) i = (encTMark 1) default := by simp [gL, hi']
      rw [e1]
      exact zele_TMark
    · rintro ⟨i, ys⟩ ⟨hi, hl, hj⟩
      simp only at hi hl hj ⊢
      refine ⟨fun h => ?_, fun h => ?_⟩
      · have hlt : i < xs.length := by simpa using h
        have hin : xs.getD i default ∈ xs := by simp [hlt]
        simp only [dec_encTMark, Int.toNat_natCast]
        refine ⟨⟨by omega, by omega⟩, ⟨VLe.refl _, hel _ hin⟩, ⟨by omega, by omega⟩, by simpa using hlt, inK64 (by omega), (i + 1, ys.set i (xs.getD i default)), ?_, ⟨by simp only; omega, by simpa using hl, fun j h2 => ?_⟩, by simp only; omega⟩
        · refine sle_of ⟨rfl, VLe.refl _, rfl, VLe.refl _, rfl, vle_int (by simp), trivial⟩ ⟨rfl, ?_, trivial⟩
          refine ble_arr (fun k hk => ?_) (Or.inl rfl)
          simp only [setg, gL, Int.toNat_natCast]
          by_cases e : k = i
          · subst e
            rw [if_pos rfl, getD_set_eq _ _ _ _ (by omega)]
            exact ele_TMark _ _ _
          · rw [if_neg e, getD_set_ne _ _ _ _ e]
            exact ELe.refl _
        · simp only at h2 ⊢
          by_cases e : j = i
          · subst e; rw [getD_set_eq _ _ _ _ (by omega)]
          · rw [getD_set_ne _ _ _ _ e]; exact hj j (by omega)
      · have hge : i = xs.length := by simp at h; omega
        refine vle_sl (fun k hk => ?_) (Or.inl rfl)
        simp only [gL]
        rw [hj k (by omega)]
        exact ELe.refl _
  exact Eq.mp (by kernel_rfl) key
theorem so79 : Sound Tryd.prog 79 sp79 := by
  refine sound_of_body hmix (pol := 1) Tryd.func79 rfl (by kernel_rfl) fun args bin ob r bout hDe hob => ?_
  unfold sp79 at hDe
  split at hDe
  · rename_i a0
    cases hDe
    exact ⟨rfl, rfl, Nat.le_of_ble_eq_true (by kernel_rfl), cx79 ((decL decTMark) a0), Eq.mp (by kernel_rfl) htt, Eq.mp (by kernel_rfl) da79, Eq.mp (by kernel_rfl) (noM_sound (P := Tryd.prog)), by kernel_rfl, [encL (encTMark 1) 1 (((decL decTMark) a0))], args_of_vles (⟨hob.1, trivial⟩), Eq.mp (by kernel_rfl) (bd79 ((decL decTMark) a0) (hob.2))⟩
  · cases hDe

/-! ### laws.toState -/
def pr37 (s : TState) : Prop := s.nodes.length ≤ most ∧ s.sessions.length ≤ most ∧ s.marks.length ≤ most
noncomputable def rs37 (s : TState) : V := encTState 2 (s)
noncomputable def sp37 : FSpec := fun args bin => match args, bin with
  | [a0], [] => some (VLe a0 (encTState 1 ((decTState a0))) ∧ pr37 (decTState a0), rs37 (decTState a0), [])
  | _, _ => none
noncomputable def D37 : Nat → Option (Bool × FSpec) := lk [(31, (false, sp31)), (78, (false, sp78)), (79, (false, sp79))]
theorem da37 : SoundAll Tryd.prog D37 := soundAll_cons so31 (soundAll_cons so78 (soundAll_cons so79 (soundAll_nil)))
noncomputable def cx37 (s : TState) : Cx := ⟨tt, D37, Tryd.f37.ntmps, [0, 1, 2, 3], [], [], fun _ => none, [], noM, []⟩
theorem bd37 (s : TState) (hpre : pr37 s) : bodyP (cx37 s) Tryd.f37 1 [encTState 1 (s)] (fun rr => VLe rr (rs37 s)) := by
  have key :
      (((VLe (encL (encZnode 1) 1 (TState.nodes s))
   (encL (encZnode 1) 1 (decL decZnode (encL (encZnode 1) 1 (TState.nodes s))))) ∧
   (pr31 (decL decZnode (encL (encZnode 1) 1 (TState.nodes s))))) ∧
   (((VLe (encL (encSession 1) 1 (TState.sessions s))
   (encL (encSession 1) 1 (decL decSession (encL (encSession 1) 1 (TState.sessions s))))) ∧
   (pr78 (decL decSession (encL (encSession 1) 1 (TState.sessions s))))) ∧
   (((VLe (encL (encTMark 1) 1 (TState.marks s))
   (encL (encTMark 1) 1 (decL decTMark (encL (encTMark 1) 1 (TState.marks s))))) ∧
   (pr79 (decL decTMark (encL (encTMark 1) 1 (TState.marks s))))) ∧
   (VLe
   (V.agg
   [encL (encZnode 1) 2 (decL decZnode (encL (encZnode 1) 1 (TState.nodes s))),
   encL (encSession 1) 2
   (decL decSession (encL (encSession 1) 1 (TState.sessions s))),
   V.int IntKind.i64 (TState.now s),
   encL (encTMark 1) 2 (decL decTMark (encL (encTMark 1) 1 (TState.marks s)))])
   (encTState 2 s))))) := by
    obtain ⟨hn, hs, hk⟩ := hpre
    simp only [decL_Znode, decL_Session, decL_TMark]
    exact ⟨⟨VLe.refl _, hn, fun _ _ => trivial⟩, ⟨VLe.refl _, hs, fun _ _ => trivial⟩, ⟨VLe.refl _, hk, fun _ _ => trivial⟩, VLe.refl _⟩
  exact Eq.mp (by kernel_rfl) key
theorem so37 : Sound Tryd.prog 37 sp37 := by
  refine sound_of_body hmix (pol := 1) Tryd.func37 rfl (by kernel_rfl) fun args bin ob r bout hDe hob => ?_
  unfold sp37 at hDe
  split at hDe
  · rename_i a0
    cases hDe
    exact ⟨rfl, rfl, Nat.le_of_ble_eq_true (by kernel_rfl), cx37 (decTState a0), Eq.mp (by kernel_rfl) htt, Eq.mp (by kernel_rfl) da37, Eq.mp (by kernel_rfl) (noM_sound (P := Tryd.prog)), by kernel_rfl, [encTState 1 ((decTState a0))], args_of_vles (⟨hob.1, trivial⟩), Eq.mp (by kernel_rfl) (bd37 (decTState a0) (hob.2))⟩
  · cases hDe

/-! ### laws.eqSession -/
def pr117 (x : Session) (y : Session) : Prop := True
noncomputable def rs117 (x : Session) (y : Session) : V := .bool (decide (x = y))
noncomputable def sp117 : FSpec := fun args bin => match args, bin with
  | [a0, a1], [] => some (VLe a0 (encSession 1 ((decSession a0))) ∧ VLe a1 (encSession 1 ((decSession a1))) ∧ pr117 (decSession a0) (decSession a1), rs117 (decSession a0) (decSession a1), [])
  | _, _ => none
noncomputable def D117 : Nat → Option (Bool × FSpec) := lk []
theorem da117 : SoundAll Tryd.prog D117 := soundAll_nil
noncomputable def cx117 (x : Session) (y : Session) : Cx := ⟨tt, D117, Tryd.f117.ntmps, [0, 1, 2, 3, 4, 9, 14], [], [], fun _ => none, [], noM, []⟩
theorem bd117 (x : Session) (y : Session) (hpre : pr117 x y) : bodyP (cx117 x y) Tryd.f117 0 [encSession 1 (x), encSession 1 (y)] (fun rr => VLe rr (rs117 x y)) := by
  have key :
      ((((Session.id x != Session.id y) = true) →
   (VLe (V.bool false) (V.bool (decide (x = y))))) ∧
   (((Session.id x != Session.id y) = false) →
   ((((Session.upto x != Session.upto y) = true) →
   (VLe (V.bool false) (V.bool (decide (x = y))))) ∧
   (((Session.upto x != Session.upto y) = false) →
   (VLe (V.bool true) (V.bool (decide (x = y)))))))) := by
    simp [eq_Session]
    grind
  exact Eq.mp (by kernel_rfl) key
theorem so117 : Sound Tryd.prog 117 sp117 := by
  refine sound_of_body hmix (pol := 0) Tryd.func117 rfl (by kernel_rfl) fun args bin ob r bout hDe hob => ?_
  unfold sp117 at hDe
  split at hDe
  · rename_i a0 a1
    cases hDe
    exact ⟨rfl, rfl, Nat.le_of_ble_eq_true (by kernel_rfl), cx117 (decSession a0) (decSession a1), Eq.mp (by kernel_rfl) htt, Eq.mp (by kernel_rfl) da117, Eq.mp (by kernel_rfl) (noM_sound (P := Tryd.prog)), by kernel_rfl, [encSession 1 ((decSession a0)), encSession 1 ((decSession a1))], args_of_vles (⟨hob.1, hob.2.1, trivial⟩), Eq.mp (by kernel_rfl) (bd117 (decSession a0) (decSession a1) (hob.2.2))⟩
  · cases hDe

/-! ### laws.eqSessionS -/
def pr86 (xs : List Session) (ys : List Session) : Prop := xs.length ≤ maxLen ∧ ∀ x ∈ xs, ∀ y, pr117 x y
noncomputable def rs86 (xs : List Session) (ys : List Session) : V := .bool (decide (xs = ys))
noncomputable def sp86 : FSpec := fun args bin => match args, bin with
  | [a0, a1], [] => some (VLe a0 (encL (encSession 1) 1 (((decL decSession) a0))) ∧ VLe a1 (encL (encSession 1) 1 (((decL decSession) a1))) ∧ pr86 ((decL decSession) a0) ((decL decSession) a1), rs86 ((decL decSession) a0) ((decL decSession) a1), [])
  | _, _ => none
noncomputable def in86_4 (xs : List Session) (ys : List Session) : LoopInv :=
  ⟨Nat, fun i => ⟨[(0, encL (encSession 1) 1 xs), (1, encL (encSession 1) 1 ys), (5, .int .i64 i)], []⟩,
    fun i => i ≤ xs.length ∧ xs.length = ys.length ∧ ∀ j, j < i → xs.getD j default = ys.getD j default, fun i => xs.length - i⟩
noncomputable def iv86 (xs : List Session) (ys : List Session) : Nat → Option LoopInv := fun rg_ => match rg_ with
  | 4 => some (in86_4 xs ys)
  | _ => none
noncomputable def D86 : Nat → Option (Bool × FSpec) := lk [(117, (false, sp117))]
theorem da86 : SoundAll Tryd.prog D86 := soundAll_cons so117 (soundAll_nil)
noncomputable def cx86 (xs : List Session) (ys : List Session) : Cx := ⟨tt, D86, Tryd.f86.ntmps, [0, 1, 4, 5, 10, 14, 26], [(4, ⟨[(0, none), (1, none), (5, none)], []⟩)], [], iv86 xs ys, [], noM, []⟩
theorem bd86 (xs : List Session) (ys : List Session) (hpre : pr86 xs ys) : bodyP (cx86 xs ys) Tryd.f86 0 [encL (encSession 1) 1 (xs), encL (encSession 1) 1 (ys)] (fun rr => VLe rr (rs86 xs ys)) := by
  have key :
      (((((↑(List.length xs) : Int) != (↑(List.length ys) : Int)) = true) →
   (VLe (V.bool false) (V.bool (decide (xs = ys))))) ∧
   ((((↑(List.length xs) : Int) != (↑(List.length ys) : Int)) = false) →
   ((∃ x : Nat, ((SLe
   (AS.mk
   [(0, encL (encSession 1) 1 xs), (1, encL (encSession 1) 1 ys),
   (5, V.int IntKind.i64 (0 : Int))]
   [])
   (AS.mk
   [(0, encL (encSession 1) 1 xs), (1, encL (encSession 1) 1 ys),
   (5, V.int IntKind.i64 (↑x : Int))]
   [])) ∧
   ((x ≤ List.length xs) ∧
   ((List.length xs = List.length ys) ∧
   (∀ j : Nat,
   ((j < x) →
   (List.getD xs j default = List.getD ys j default))))))) ∧
   (∀ x : Nat,
   (((x ≤ List.length xs) ∧
   ((List.length xs = List.length ys) ∧
   (∀ j : Nat,
   ((j < x) →
   (List.getD xs j default = List.getD ys j default))))) →
   (((decide ((↑x : Int) < (↑(List.length xs) : Int)) = true) →
   ((((0 : Int) ≤ (↑x : Int)) ∧
   ((↑x : Int) < (↑(List.length xs) : Int))) ∧
   ((((0 : Int) ≤ (↑x : Int)) ∧
   ((↑x : Int) < (↑(List.length ys) : Int))) ∧
   (((VLe (encSession 1 (List.getD xs (Int.toNat (↑x : Int)) default))
   (encSession 1 (decSession (encSession 1 (List.getD xs (Int.toNat (↑x : Int)) default))))) ∧
   ((VLe (encSession 1 (List.getD ys (Int.toNat (↑x : Int)) default))
   (encSession 1 (decSession (encSession 1 (List.getD ys (Int.toNat (↑x : Int)) default))))) ∧
   (pr117 (decSession (encSession 1 (List.getD xs (Int.toNat (↑x : Int)) default)))
   (decSession (encSession 1 (List.getD ys (Int.toNat (↑x : Int)) default)))))) ∧
   ((((!decide
   (decSession (encSession 1 (List.getD xs (Int.toNat (↑x : Int)) default)) =
   decSession (encSession 1 (List.getD ys (Int.toNat (↑x : Int)) default)))) =
   true) →
   (VLe (V.bool false) (V.bool (decide (xs = ys))))) ∧
   (((!decide
   (decSession (encSession 1 (List.getD xs (Int.toNat (↑x : Int)) default)) =
   decSession (encSession 1 (List.getD ys (Int.toNat (↑x : Int)) default)))) =
   false) →
   ((inK IntKind.i64 ((↑x : Int) + (1 : Int))) ∧
   (∃ y : Nat, ((SLe
   (AS.mk
   [(0, encL (encSession 1) 1 xs), (1, encL (encSession 1) 1 ys),
   (5, V.int IntKind.i64 ((↑x : Int) + (1 : Int)))]
   [])
   (AS.mk
   [(0, encL (encSession 1) 1 xs), (1, encL (encSession 1) 1 ys),
   (5, V.int IntKind.i64 (↑y : Int))]
   [])) ∧
   (((y ≤ List.length xs) ∧
   ((List.length xs = List.length ys) ∧
   (∀ j : Nat,
   ((j < y) →
   (List.getD xs j default = List.getD ys j default))))) ∧
   (List.length xs - y < List.length xs - x))))))))))) ∧
   ((decide ((↑x : Int) < (↑(List.length xs) : Int)) = false) →
   (VLe (V.bool true) (V.bool (decide (xs = ys))))))))))) := by
    unfold pr86 maxLen at hpre
    obtain ⟨hpre, hel⟩ := hpre
    refine ⟨fun h => ?_, fun h => ?_⟩
    · refine vle_bool ?_
      have hne : xs ≠ ys := fun e => by subst e; simp at h
      simp [hne]
    · have hlen : xs.length = ys.length := by simp at h; omega
      refine ⟨⟨0, SLe.refl _, by omega, hlen, fun j hj => absurd hj (Nat.not_lt_zero j)⟩, ?_⟩
      rintro i ⟨hi, _, hj⟩
      refine ⟨fun h => ?_, fun h => ?_⟩
      · have hlt : i < xs.length := by simpa using h
        have hin : xs.getD i default ∈ xs := by simp [hlt]
        simp only [dec_encSession, Int.toNat_natCast]
        refine ⟨⟨by omega, by omega⟩, ⟨by omega, by omega⟩, ⟨VLe.refl _, VLe.refl _, hel _ hin _⟩, fun h2 => ?_, fun h2 => ⟨inK64 (by omega), i + 1, SLe.refl _, ⟨by omega, hlen, fun j h3 => ?_⟩, by omega⟩⟩
        · refine vle_bool ?_
          have hne : xs ≠ ys := fun e => by subst e; simp at h2
          simp [hne]
        · rcases Nat.lt_or_ge j i with h4 | h4
          · exact hj j h4
          · have : j = i := by omega
            subst this
            simpa using h2
      · refine vle_bool ?_
        have hge : i = xs.length := by simp at h; omega
        have heq : xs = ys := by
          refine List.ext_getElem hlen fun k h1 h2 => ?_
          have := hj k (by omega)
          simpa [h1, h2] using this
        simp [heq]
  exact Eq.mp (by kernel_rfl) key
theorem so86 : Sound Tryd.prog 86 sp86 := by
  refine sound_of_body hmix (pol := 0) Tryd.func86 rfl (by kernel_rfl) fun args bin ob r bout hDe hob => ?_
  unfold sp86 at hDe
  split at hDe
  · rename_i a0 a1
    cases hDe
    exact ⟨rfl, rfl, Nat.le_of_ble_eq_true (by kernel_rfl), cx86 ((decL decSession) a0) ((decL decSession) a1), Eq.mp (by kernel_rfl) htt, Eq.mp (by kernel_rfl) da86, Eq.mp (by kernel_rfl) (noM_sound (P := Tryd.prog)), by kernel_rfl, [encL (encSession 1) 1 (((decL decSession) a0)), encL (encSession 1) 1 (((decL decSession) a1))], args_of_vles (⟨hob.1, hob.2.1, trivial⟩), Eq.mp (by kernel_rfl) (bd86 ((decL decSession) a0) ((decL decSession) a1) (hob.2.2))⟩
  · cases hDe

/-! ### laws.eqReply -/
def pr89 (x : Reply) (y : Reply) : Prop := True
noncomputable def rs89 (x : Reply) (y : Reply) : V := .bool (decide (x = y))
noncomputable def sp89 : FSpec := fun args bin => match args, bin with
  | [a0, a1], [] => some (VLe a0 (encReply 1 ((decReply a0))) ∧ VLe a1 (encReply 1 ((decReply a1))) ∧ pr89 (decReply a0) (decReply a1), rs89 (decReply a0) (decReply a1), [])
  | _, _ => none
noncomputable def D89 : Nat → Option (Bool × FSpec) := lk []
theorem da89 : SoundAll Tryd.prog D89 := soundAll_nil
noncomputable def cx89 (x : Reply) (y : Reply) : Cx := ⟨tt, D89, Tryd.f89.ntmps, [0, 1, 2, 3, 4, 9, 14, 19], [], [], fun _ => none, [], noM, []⟩
theorem bd89 (x : Reply) (y : Reply) (hpre : pr89 x y) : bodyP (cx89 x y) Tryd.f89 0 [encReply 1 (x), encReply 1 (y)] (fun rr => VLe rr (rs89 x y)) := by
  have key :
      ((((Reply.code x != Reply.code y) = true) →
   (VLe (V.bool false) (V.bool (decide (x = y))))) ∧
   (((Reply.code x != Reply.code y) = false) →
   ((((Reply.value x != Reply.value y) = true) →
   (VLe (V.bool false) (V.bool (decide (x = y))))) ∧
   (((Reply.value x != Reply.value y) = false) →
   ((((!strEq (Reply.path x) (Reply.path y)) = true) →
   (VLe (V.bool false) (V.bool (decide (x = y))))) ∧
   (((!strEq (Reply.path x) (Reply.path y)) = false) →
   (VLe (V.bool true) (V.bool (decide (x = y)))))))))) := by
    simp [eq_Reply, strEq_dec]
    grind
  exact Eq.mp (by kernel_rfl) key
theorem so89 : Sound Tryd.prog 89 sp89 := by
  refine sound_of_body hmix (pol := 0) Tryd.func89 rfl (by kernel_rfl) fun args bin ob r bout hDe hob => ?_
  unfold sp89 at hDe
  split at hDe
  · rename_i a0 a1
    cases hDe
    exact ⟨rfl, rfl, Nat.le_of_ble_eq_true (by kernel_rfl), cx89 (decReply a0) (decReply a1), Eq.mp (by kernel_rfl) htt, Eq.mp (by kernel_rfl) da89, Eq.mp (by kernel_rfl) (noM_sound (P := Tryd.prog)), by kernel_rfl, [encReply 1 ((decReply a0)), encReply 1 ((decReply a1))], args_of_vles (⟨hob.1, hob.2.1, trivial⟩), Eq.mp (by kernel_rfl) (bd89 (decReply a0) (decReply a1) (hob.2.2))⟩
  · cases hDe

/-! ### laws.eqMark -/
def pr118 (x : TMark) (y : TMark) : Prop := True
noncomputable def rs118 (x : TMark) (y : TMark) : V := .bool (decide (x = y))
noncomputable def sp118 : FSpec := fun args bin => match args, bin with
  | [a0, a1], [] => some (VLe a0 (encTMark 1 ((decTMark a0))) ∧ VLe a1 (encTMark 1 ((decTMark a1))) ∧ pr118 (decTMark a0) (decTMark a1), rs118 (decTMark a0) (decTMark a1), [])
  | _, _ => none
noncomputable def D118 : Nat → Option (Bool × FSpec) := lk [(89, (false, sp89))]
theorem da118 : SoundAll Tryd.prog D118 := soundAll_cons so89 (soundAll_nil)
noncomputable def cx118 (x : TMark) (y : TMark) : Cx := ⟨tt, D118, Tryd.f118.ntmps, [0, 1, 2, 3, 4, 9, 14, 20], [], [], fun _ => none, [], noM, []⟩
theorem bd118 (x : TMark) (y : TMark) (hpre : pr118 x y) : bodyP (cx118 x y) Tryd.f118 0 [encTMark 1 (x), encTMark 1 (y)] (fun rr => VLe rr (rs118 x y)) := by
  have key :
      ((((TMark.client x != TMark.client y) = true) →
   (VLe (V.bool false) (V.bool (decide (x = y))))) ∧
   (((TMark.client x != TMark.client y) = false) →
   ((((TMark.number x != TMark.number y) = true) →
   (VLe (V.bool false) (V.bool (decide (x = y))))) ∧
   (((TMark.number x != TMark.number y) = false) →
   (((VLe (encReply 1 (TMark.reply x)) (encReply 1 (decReply (encReply 1 (TMark.reply x))))) ∧
   ((VLe (encReply 1 (TMark.reply y)) (encReply 1 (decReply (encReply 1 (TMark.reply y))))) ∧
   (pr89 (decReply (encReply 1 (TMark.reply x))) (decReply (encReply 1 (TMark.reply y)))))) ∧
   ((((!decide (decReply (encReply 1 (TMark.reply x)) = decReply (encReply 1 (TMark.reply y)))) = true) →
   (VLe (V.bool false) (V.bool (decide (x = y))))) ∧
   (((!decide (decReply (encReply 1 (TMark.reply x)) = decReply (encReply 1 (TMark.reply y)))) = false) →
   (VLe (V.bool true) (V.bool (decide (x = y))))))))))) := by
    simp only [dec_encReply]
    refine ⟨fun h => vle_bool ?_, fun h => ⟨fun h2 => vle_bool ?_, fun h2 => ⟨⟨VLe.refl _, VLe.refl _, trivial⟩, fun h3 => vle_bool ?_, fun h3 => vle_bool ?_⟩⟩⟩
    all_goals simp_all [eq_TMark]
  exact Eq.mp (by kernel_rfl) key
theorem so118 : Sound Tryd.prog 118 sp118 := by
  refine sound_of_body hmix (pol := 0) Tryd.func118 rfl (by kernel_rfl) fun args bin ob r bout hDe hob => ?_
  unfold sp118 at hDe
  split at hDe
  · rename_i a0 a1
    cases hDe
    exact ⟨rfl, rfl, Nat.le_of_ble_eq_true (by kernel_rfl), cx118 (decTMark a0) (decTMark a1), Eq.mp (by kernel_rfl) htt, Eq.mp (by kernel_rfl) da118, Eq.mp (by kernel_rfl) (noM_sound (P := Tryd.prog)), by kernel_rfl, [encTMark 1 ((decTMark a0)), encTMark 1 ((decTMark a1))], args_of_vles (⟨hob.1, hob.2.1, trivial⟩), Eq.mp (by kernel_rfl) (bd118 (decTMark a0) (decTMark a1) (hob.2.2))⟩
  · cases hDe

/-! ### laws.eqMarkS -/
def pr87 (xs : List TMark) (ys : List TMark) : Prop := xs.length ≤ maxLen ∧ ∀ x ∈ xs, ∀ y, pr118 x y
noncomputable def rs87 (xs : List TMark) (ys : List TMark) : V := .bool (decide (xs = ys))
noncomputable def sp87 : FSpec := fun args bin => match args, bin with
  | [a0, a1], [] => some (VLe a0 (encL (encTMark 1) 1 (((decL decTMark) a0))) ∧ VLe a1 (encL (encTMark 1) 1 (((decL decTMark) a1))) ∧ pr87 ((decL decTMark) a0) ((decL decTMark) a1), rs87 ((decL decTMark) a0) ((decL decTMark) a1), [])
  | _, _ => none
noncomputable def in87_4 (xs : List TMark) (ys : List TMark) : LoopInv :=
  ⟨Nat, fun i => ⟨[(0, encL (encTMark 1) 1 xs), (1, encL (encTMark 1) 1 ys), (5, .int .i64 i)], []⟩,
    fun i => i ≤ xs.length ∧ xs.length = ys.length ∧ ∀ j, j < i → xs.getD j default = ys.getD j default, fun i => xs.length - i⟩
noncomputable def iv87 (xs : List TMark) (ys : List TMark) : Nat → Option LoopInv := fun rg_ => match rg_ with
  | 4 => some (in87_4 xs ys)
  | _ => none
noncomputable def D87 : Nat → Option (Bool × FSpec) := lk [(118, (false, sp118))]
theorem da87 : SoundAll Tryd.prog D87 := soundAll_cons so118 (soundAll_nil)
noncomputable def cx87 (xs : List TMark) (ys : List TMark) : Cx := ⟨tt, D87, Tryd.f87.ntmps, [0, 1, 4, 5, 10, 14, 26], [(4, ⟨[(0, none), (1, none), (5, none)], []⟩)], [], iv87 xs ys, [], noM, []⟩
theorem bd87 (xs : List TMark) (ys : List TMark) (hpre : pr87 xs ys) : bodyP (cx87 xs ys) Tryd.f87 0 [encL (encTMark 1) 1 (xs), encL (encTMark 1) 1 (ys)] (fun rr => VLe rr (rs87 xs ys)) := by
  have key :
      (((((↑(List.length xs) : Int) != (↑(List.length ys) : Int)) = true) →
   (VLe (V.bool false) (V.bool (decide (xs = ys))))) ∧
   ((((↑(List.length xs) : Int) != (↑(List.length ys) : Int)) = false) →
   ((∃ x : Nat, ((SLe
   (AS.mk
   [(0, encL (encTMark 1) 1 xs), (1, encL (encTMark 1) 1 ys),
   (5, V.int IntKind.i64 (0 : Int))]
   [])
   (AS.mk
   [(0, encL (encTMark 1) 1 xs), (1, encL (encTMark 1) 1 ys),
   (5, V.int IntKind.i64 (↑x : Int))]
   [])) ∧
   ((x ≤ List.length xs) ∧
   ((List.length xs = List.length ys) ∧
   (∀ j : Nat,
   ((j < x) →
   (List.getD xs j default = List.getD ys j default))))))) ∧
   (∀ x : Nat,
   (((x ≤ List.length xs) ∧
   ((List.length xs = List.length ys) ∧
   (∀ j : Nat,
   ((j < x) →
   (List.getD xs j default = List.getD ys j default))))) →
   (((decide ((↑x : Int) < (↑(List.length xs) : Int)) = true) →
   ((((0 : Int) ≤ (↑x : Int)) ∧
   ((↑x : Int) < (↑(List.length xs) : Int))) ∧
   ((((0 : Int) ≤ (↑x : Int)) ∧
   ((↑x : Int) < (↑(List.length ys) : Int))) ∧
   (((VLe (encTMark 1 (List.getD xs (Int.toNat (↑x : Int)) default))
   (encTMark 1 (decTMark (encTMark 1 (List.getD xs (Int.toNat (↑x : Int)) default))))) ∧
   ((VLe (encTMark 1 (List.getD ys (Int.toNat (↑x : Int)) default))
   (encTMark 1 (decTMark (encTMark 1 (List.getD ys (Int.toNat (↑x : Int)) default))))) ∧
   (pr118 (decTMark (encTMark 1 (List.getD xs (Int.toNat (↑x : Int)) default)))
   (decTMark (encTMark 1 (List.getD ys (Int.toNat (↑x : Int)) default)))))) ∧
   ((((!decide
   (decTMark (encTMark 1 (List.getD xs (Int.toNat (↑x : Int)) default)) =
   decTMark (encTMark 1 (List.getD ys (Int.toNat (↑x : Int)) default)))) =
   true) →
   (VLe (V.bool false) (V.bool (decide (xs = ys))))) ∧
   (((!decide
   (decTMark (encTMark 1 (List.getD xs (Int.toNat (↑x : Int)) default)) =
   decTMark (encTMark 1 (List.getD ys (Int.toNat (↑x : Int)) default)))) =
   false) →
   ((inK IntKind.i64 ((↑x : Int) + (1 : Int))) ∧
   (∃ y : Nat, ((SLe
   (AS.mk
   [(0, encL (encTMark 1) 1 xs), (1, encL (encTMark 1) 1 ys),
   (5, V.int IntKind.i64 ((↑x : Int) + (1 : Int)))]
   [])
   (AS.mk
   [(0, encL (encTMark 1) 1 xs), (1, encL (encTMark 1) 1 ys),
   (5, V.int IntKind.i64 (↑y : Int))]
   [])) ∧
   (((y ≤ List.length xs) ∧
   ((List.length xs = List.length ys) ∧
   (∀ j : Nat,
   ((j < y) →
   (List.getD xs j default = List.getD ys j default))))) ∧
   (List.length xs - y < List.length xs - x))))))))))) ∧
   ((decide ((↑x : Int) < (↑(List.length xs) : Int)) = false) →
   (VLe (V.bool true) (V.bool (decide (xs = ys))))))))))) := by
    unfold pr87 maxLen at hpre
    obtain ⟨hpre, hel⟩ := hpre
    refine ⟨fun h => ?_, fun h => ?_⟩
    · refine vle_bool ?_
      have hne : xs ≠ ys := fun e => by subst e; simp at h
      simp [hne]
    · have hlen : xs.length = ys.length := by simp at h; omega
      refine ⟨⟨0, SLe.refl _, by omega, hlen, fun j hj => absurd hj (Nat.not_lt_zero j)⟩, ?_⟩
      rintro i ⟨hi, _, hj⟩
      refine ⟨fun h => ?_, fun h => ?_⟩
      · have hlt : i < xs.length := by simpa using h
        have hin : xs.getD i default ∈ xs := by simp [hlt]
        simp only [dec_encTMark, Int.toNat_natCast]
        refine ⟨⟨by omega, by omega⟩, ⟨by omega, by omega⟩, ⟨VLe.refl _, VLe.refl _, hel _ hin _⟩, fun h2 => ?_, fun h2 => ⟨inK64 (by omega), i + 1, SLe.refl _, ⟨by omega, hlen, fun j h3 => ?_⟩, by omega⟩⟩
        · refine vle_bool ?_
          have hne : xs ≠ ys := fun e => by subst e; simp at h2
          simp [hne]
        · rcases Nat.lt_or_ge j i with h4 | h4
          · exact hj j h4
          · have : j = i := by omega
            subst this
            simpa using h2
      · refine vle_bool ?_
        have hge : i = xs.length := by simp at h; omega
        have heq : xs = ys := by
          refine List.ext_getElem hlen fun k h1 h2 => ?_
          have := hj k (by omega)
          simpa [h1, h2] using this
        simp [heq]
  exact Eq.mp (by kernel_rfl) key
theorem so87 : Sound Tryd.prog 87 sp87 := by
  refine sound_of_body hmix (pol := 0) Tryd.func87 rfl (by kernel_rfl) fun args bin ob r bout hDe hob => ?_
  unfold sp87 at hDe
  split at hDe
  · rename_i a0 a1
    cases hDe
    exact ⟨rfl, rfl, Nat.le_of_ble_eq_true (by kernel_rfl), cx87 ((decL decTMark) a0) ((decL decTMark) a1), Eq.mp (by kernel_rfl) htt, Eq.mp (by kernel_rfl) da87, Eq.mp (by kernel_rfl) (noM_sound (P := Tryd.prog)), by kernel_rfl, [encL (encTMark 1) 1 (((decL decTMark) a0)), encL (encTMark 1) 1 (((decL decTMark) a1))], args_of_vles (⟨hob.1, hob.2.1, trivial⟩), Eq.mp (by kernel_rfl) (bd87 ((decL decTMark) a0) ((decL decTMark) a1) (hob.2.2))⟩
  · cases hDe

/-! ### laws.eqState -/
def pr39 (x : TState) (y : TState) : Prop := x.bd
noncomputable def rs39 (x : TState) (y : TState) : V := .bool (decide (x = y))
noncomputable def sp39 : FSpec := fun args bin => match args, bin with
  | [a0, a1], [] => some (VLe a0 (encTState 1 ((decTState a0))) ∧ VLe a1 (encTState 1 ((decTState a1))) ∧ pr39 (decTState a0) (decTState a1), rs39 (decTState a0) (decTState a1), [])
  | _, _ => none
noncomputable def D39 : Nat → Option (Bool × FSpec) := lk [(34, (false, sp34)), (86, (false, sp86)), (87, (false, sp87))]
theorem da39 : SoundAll Tryd.prog D39 := soundAll_cons so34 (soundAll_cons so86 (soundAll_cons so87 (soundAll_nil)))
noncomputable def cx39 (x : TState) (y : TState) : Cx := ⟨tt, D39, Tryd.f39.ntmps, [0, 1, 2, 3, 4, 10, 16, 21, 27], [], [], fun _ => none, [], noM, []⟩
theorem bd39 (x : TState) (y : TState) (hpre : pr39 x y) : bodyP (cx39 x y) Tryd.f39 0 [encTState 1 (x), encTState 1 (y)] (fun rr => VLe rr (rs39 x y)) := by
  have key :
      (((VLe (encL (encZnode 1) 1 (TState.nodes x))
   (encL (encZnode 1) 1 (decL decZnode (encL (encZnode 1) 1 (TState.nodes x))))) ∧
   ((VLe (encL (encZnode 1) 1 (TState.nodes y))
   (encL (encZnode 1) 1 (decL decZnode (encL (encZnode 1) 1 (TState.nodes y))))) ∧
   (pr34 (decL decZnode (encL (encZnode 1) 1 (TState.nodes x)))
   (decL decZnode (encL (encZnode 1) 1 (TState.nodes y)))))) ∧
   ((((!decide
   (decL decZnode (encL (encZnode 1) 1 (TState.nodes x)) =
   decL decZnode (encL (encZnode 1) 1 (TState.nodes y)))) =
   true) →
   (VLe (V.bool false) (V.bool (decide (x = y))))) ∧
   (((!decide
   (decL decZnode (encL (encZnode 1) 1 (TState.nodes x)) =
   decL decZnode (encL (encZnode 1) 1 (TState.nodes y)))) =
   false) →
   (((VLe (encL (encSession 1) 1 (TState.sessions x))
   (encL (encSession 1) 1 (decL decSession (encL (encSession 1) 1 (TState.sessions x))))) ∧
   ((VLe (encL (encSession 1) 1 (TState.sessions y))
   (encL (encSession 1) 1 (decL decSession (encL (encSession 1) 1 (TState.sessions y))))) ∧
   (pr86 (decL decSession (encL (encSession 1) 1 (TState.sessions x)))
   (decL decSession (encL (encSession 1) 1 (TState.sessions y)))))) ∧
   ((((!decide
   (decL decSession (encL (encSession 1) 1 (TState.sessions x)) =
   decL decSession (encL (encSession 1) 1 (TState.sessions y)))) =
   true) →
   (VLe (V.bool false) (V.bool (decide (x = y))))) ∧
   (((!decide
   (decL decSession (encL (encSession 1) 1 (TState.sessions x)) =
   decL decSession (encL (encSession 1) 1 (TState.sessions y)))) =
   false) →
   ((((TState.now x != TState.now y) = true) →
   (VLe (V.bool false) (V.bool (decide (x = y))))) ∧
   (((TState.now x != TState.now y) = false) →
   (((VLe (encL (encTMark 1) 1 (TState.marks x))
   (encL (encTMark 1) 1 (decL decTMark (encL (encTMark 1) 1 (TState.marks x))))) ∧
   ((VLe (encL (encTMark 1) 1 (TState.marks y))
   (encL (encTMark 1) 1 (decL decTMark (encL (encTMark 1) 1 (TState.marks y))))) ∧
   (pr87 (decL decTMark (encL (encTMark 1) 1 (TState.marks x)))
   (decL decTMark (encL (encTMark 1) 1 (TState.marks y)))))) ∧
   ((((!decide
   (decL decTMark (encL (encTMark 1) 1 (TState.marks x)) =
   decL decTMark (encL (encTMark 1) 1 (TState.marks y)))) =
   true) →
   (VLe (V.bool false) (V.bool (decide (x = y))))) ∧
   (((!decide
   (decL decTMark (encL (encTMark 1) 1 (TState.marks x)) =
   decL decTMark (encL (encTMark 1) 1 (TState.marks y)))) =
   false) →
   (VLe (V.bool true) (V.bool (decide (x = y))))))))))))))) := by
    obtain ⟨⟨hn, hnb⟩, hs, hk, hkb⟩ := hpre
    simp only [decL_Znode, decL_Session, decL_TMark]
    refine ⟨⟨VLe.refl _, VLe.refl _, hn, fun _ _ _ => trivial⟩, fun h => vle_bool ?_, fun h => ⟨⟨VLe.refl _, VLe.refl _, hs, fun _ _ _ => trivial⟩, fun h2 => vle_bool ?_, fun h2 => ⟨fun h3 => vle_bool ?_, fun h3 => ⟨⟨VLe.refl _, VLe.refl _, hk, fun _ _ _ => trivial⟩, fun h4 => vle_bool ?_, fun h4 => vle_bool ?_⟩⟩⟩⟩
    all_goals simp_all [eq_TState]
  exact Eq.mp (by kernel_rfl) key
theorem so39 : Sound Tryd.prog 39 sp39 := by
  refine sound_of_body hmix (pol := 0) Tryd.func39 rfl (by kernel_rfl) fun args bin ob r bout hDe hob => ?_
  unfold sp39 at hDe
  split at hDe
  · rename_i a0 a1
    cases hDe
    exact ⟨rfl, rfl, Nat.le_of_ble_eq_true (by kernel_rfl), cx39 (decTState a0) (decTState a1), Eq.mp (by kernel_rfl) htt, Eq.mp (by kernel_rfl) da39, Eq.mp (by kernel_rfl) (noM_sound (P := Tryd.prog)), by kernel_rfl, [encTState 1 ((decTState a0)), encTState 1 ((decTState a1))], args_of_vles (⟨hob.1, hob.2.1, trivial⟩), Eq.mp (by kernel_rfl) (bd39 (decTState a0) (decTState a1) (hob.2.2))⟩
  · cases hDe

/-! ### impl.isTime -/
def pr82 (n : Int) : Prop := True
noncomputable def rs82 (n : Int) : V := .bool (decide (inR n 0 9000))
noncomputable def sp82 : FSpec := fun args bin => match args, bin with
  | [.int .i64 a0], [] => some (pr82 a0, rs82 a0, [])
  | _, _ => none
noncomputable def D82 : Nat → Option (Bool × FSpec) := lk [(56, (false, sp56))]
theorem da82 : SoundAll Tryd.prog D82 := soundAll_cons so56 (soundAll_nil)
noncomputable def cx82 (n : Int) : Cx := ⟨tt, D82, Tryd.f82.ntmps, [0, 2], [], [], fun _ => none, [], noM, []⟩
theorem bd82 (n : Int) (hpre : pr82 n) : bodyP (cx82 n) Tryd.f82 0 [.int .i64 (n)] (fun rr => VLe rr (rs82 n)) := by
  have key :
      ((pr56 n (0 : Int) (9000 : Int)) ∧
   (VLe (V.bool (decide (inR n (0 : Int) (9000 : Int)))) (V.bool (decide (inR n (0 : Int) (9000 : Int)))))) := by
    exact ⟨trivial, VLe.refl _⟩
  exact Eq.mp (by kernel_rfl) key
theorem so82 : Sound Tryd.prog 82 sp82 := by
  refine sound_of_body hmix (pol := 0) Tryd.func82 rfl (by kernel_rfl) fun args bin ob r bout hDe hob => ?_
  unfold sp82 at hDe
  split at hDe
  · rename_i a0
    cases hDe
    exact ⟨rfl, rfl, Nat.le_of_ble_eq_true (by kernel_rfl), cx82 a0, Eq.mp (by kernel_rfl) htt, Eq.mp (by kernel_rfl) da82, Eq.mp (by kernel_rfl) (noM_sound (P := Tryd.prog)), by kernel_rfl, [.int .i64 (a0)], args_of_vles (⟨VLe.refl _, trivial⟩), Eq.mp (by kernel_rfl) (bd82 a0 (hob))⟩
  · cases hDe

/-! ### spec.l4Now -/
def pr109 (n : Int) : Prop := True
noncomputable def rs109 (n : Int) : V := .bool (decide (inR n 0 9000))
noncomputable def sp109 : FSpec := fun args bin => match args, bin with
  | [.int .i64 a0], [] => some (pr109 a0, rs109 a0, [])
  | _, _ => none
noncomputable def D109 : Nat → Option (Bool × FSpec) := lk [(54, (false, sp54))]
theorem da109 : SoundAll Tryd.prog D109 := soundAll_cons so54 (soundAll_nil)
noncomputable def cx109 (n : Int) : Cx := ⟨tt, D109, Tryd.f109.ntmps, [0, 2], [], [], fun _ => none, [], noM, []⟩
theorem bd109 (n : Int) (hpre : pr109 n) : bodyP (cx109 n) Tryd.f109 0 [.int .i64 (n)] (fun rr => VLe rr (rs109 n)) := by
  have key :
      ((pr54 n (0 : Int) (9000 : Int)) ∧
   (VLe (V.bool (decide (inR n (0 : Int) (9000 : Int)))) (V.bool (decide (inR n (0 : Int) (9000 : Int)))))) := by
    exact ⟨trivial, VLe.refl _⟩
  exact Eq.mp (by kernel_rfl) key
theorem so109 : Sound Tryd.prog 109 sp109 := by
  refine sound_of_body hmix (pol := 0) Tryd.func109 rfl (by kernel_rfl) fun args bin ob r bout hDe hob => ?_
  unfold sp109 at hDe
  split at hDe
  · rename_i a0
    cases hDe
    exact ⟨rfl, rfl, Nat.le_of_ble_eq_true (by kernel_rfl), cx109 a0, Eq.mp (by kernel_rfl) htt, Eq.mp (by kernel_rfl) da109, Eq.mp (by kernel_rfl) (noM_sound (P := Tryd.prog)), by kernel_rfl, [.int .i64 (a0)], args_of_vles (⟨VLe.refl _, trivial⟩), Eq.mp (by kernel_rfl) (bd109 a0 (hob))⟩
  · cases hDe

abbrev atS (l : List Session) (i : Nat) : Session := l.getD i default
noncomputable def sessE (l : List Session) (i : Nat) : Int := if ¬ (inR (atS l i).id 1 9 ∧ inR (atS l i).upto 0 9999) then 3 else if 0 < i ∧ (atS l i).id ≤ (atS l (i - 1)).id then 1 else 0
noncomputable def sessF (l : List Session) : Int := if 6 < l.length then 2 else scanE (sessE l) l.length
def replyOk (r : Reply) : Prop := inR r.code 0 10 ∧ inR r.value (-1) 9999 ∧ r.path.size ≤ 24
noncomputable instance (r : Reply) : Decidable (replyOk r) := Classical.propDecidable _
def isMk (c n : Int) (m : TMark) : Bool := decide (m.client = c ∧ m.number = n)
def mkAt (l : List TMark) (c n : Int) : Int := idxF (isMk c n) l
abbrev atMk (l : List TMark) (i : Nat) : TMark := l.getD i default
noncomputable def markE (l : List TMark) (i : Nat) : Int :=
  if ¬ (inR (atMk l i).client 1 9 ∧ inR (atMk l i).number 1 99 ∧ replyOk (atMk l i).reply) then 3 else if 0 ≤ mkAt (l.take i) (atMk l i).client (atMk l i).number then 6 else 0
noncomputable def stateF (s : TState) : Int :=
  if treeF s.nodes ≠ 0 then treeF s.nodes else if sessF s.sessions ≠ 0 then sessF s.sessions else if ¬ inR s.now 0 9000 then 3
  else if 40 < s.marks.length then 2 else scanE (markE s.marks) s.marks.length
theorem mkAt_take {l : List TMark} {i : Nat} (h : i < l.length) : mkAt l (atMk l i).client (atMk l i).number = i ↔ ¬ 0 ≤ mkAt (l.take i) (atMk l i).client (atMk l i).number := by
  have hn : 0 ≤ mkAt (l.take i) (atMk l i).client (atMk l i).number ↔ ∃ x ∈ l.take i, isMk (atMk l i).client (atMk l i).number x = true := by
    have := idxF_nonneg (isMk (atMk l i).client (atMk l i).number) (l.take i)
    rw [← List.any_eq_true, ← this, decide_eq_true_eq]
    exact Iff.rfl
  rw [hn]
  constructor
  · rintro e ⟨x, hx, hm⟩
    obtain ⟨_, _, h3⟩ := idxF_pre e
    obtain ⟨j, h1, h2, rfl⟩ := mem_take.1 hx
    rw [h3 j h1] at hm
    cases hm
  · intro hm
    refine idxF_some h (fun j hj => ?_) (decide_eq_true ⟨rfl, rfl⟩)
    cases hc : isMk (atMk l i).client (atMk l i).number (l.getD j default) with
    | false => rfl
    | true => exact absurd ⟨_, mem_take.2 ⟨j, hj, by omega, rfl⟩, hc⟩ hm
theorem sess_stop {l : List Session} {i : Nat} (h1 : ¬ 6 < l.length) (hz : scanE (sessE l) i = 0) (hlt : i < l.length) {c : Int} (hc : c = sessE l i) (h0 : c ≠ 0) : VLe (.int .i64 c) (.int .i64 (sessF l)) :=
  vle_int (by
    unfold sessF
    rw [if_neg h1, scanE_stop hz (by rw [← hc]; exact h0) _ hlt, hc])
/-- A pointer to the reply in a mark. -/
abbrev ReplyIn := TMark
def encPReplyIn (t : Nat) (x : TMark) : V := .ptr (encTMark t x).cells 2 t
def decPReplyIn : V → TMark
  | .ptr cs _ _ => decTMark (.agg cs)
  | _ => default
@[simp] theorem dec_encPReplyIn (t : Nat) (x : TMark) : decPReplyIn (encPReplyIn t x) = x := dec_encTMark t x
theorem replyIn_eq (m : TMark) : decPReplyIn (.ptr [.int .i64 m.client, .int .i64 m.number, .int .i64 m.reply.code, .int .i64 m.reply.value, .str m.reply.path] 2 1) = m := rfl

/-! ### impl.SessionsFault -/
def pr81 (l : List Session) : Prop := l.length ≤ maxLen
noncomputable def rs81 (l : List Session) : V := .int .i64 (sessF l)
noncomputable def sp81 : FSpec := fun args bin => match args, bin with
  | [a0], [] => some (VLe a0 (encL (encSession 1) 1 (((decL decSession) a0))) ∧ pr81 ((decL decSession) a0), rs81 ((decL decSession) a0), [])
  | _, _ => none
noncomputable def in81_4 (l : List Session) : LoopInv :=
  ⟨Nat, fun i => ⟨[(0, encL (encSession 1) 1 l), (8, encL (encSession 1) 1 l), (9, .int .i64 l.length), (10, .int .i64 i)], []⟩,
    fun i => i ≤ l.length ∧ scanE (sessE l) i = 0, fun i => l.length - i⟩
noncomputable def iv81 (l : List Session) : Nat → Option LoopInv := fun rg_ => match rg_ with
  | 4 => some (in81_4 l)
  | _ => none
noncomputable def D81 : Nat → Option (Bool × FSpec) := lk [(83, (false, sp83)), (56, (false, sp56))]
theorem da81 : SoundAll Tryd.prog D81 := soundAll_cons so83 (soundAll_cons so56 (soundAll_nil))
noncomputable def cx81 (l : List Session) : Cx := ⟨tt, D81, Tryd.f81.ntmps, [0, 2, 3, 4, 7, 8, 9, 10, 11, 24, 37], [(4, ⟨[(0, none), (8, none), (9, none), (10, none)], []⟩)], [], iv81 l, [], noM, []⟩
theorem bd81 (l : List Session) (hpre : pr81 l) : bodyP (cx81 l) Tryd.f81 0 [encL (encSession 1) 1 (l)] (fun rr => VLe rr (rs81 l)) := by
  have key :
      (((decide ((↑(List.length l) : Int) > (6 : Int)) = true) →
   (VLe (V.int IntKind.i64 (2 : Int)) (V.int IntKind.i64 (sessF l)))) ∧
   ((decide ((↑(List.length l) : Int) > (6 : Int)) = false) →
   ((∃ x : Nat, ((SLe
   (AS.mk
   [(0, encL (encSession 1) 1 l), (8, encL (encSession 1) 1 l),
   (9, V.int IntKind.i64 (↑(List.length l) : Int)), (10, V.int IntKind.i64 (0 : Int))]
   [])
   (AS.mk
   [(0, encL (encSession 1) 1 l), (8, encL (encSession 1) 1 l),
   (9, V.int IntKind.i64 (↑(List.length l) : Int)), (10, V.int IntKind.i64 (↑x : Int))]
   [])) ∧
   ((x ≤ List.length l) ∧
   (scanE (sessE l) x = (0 : Int))))) ∧
   (∀ x : Nat,
   (((x ≤ List.length l) ∧
   (scanE (sessE l) x = (0 : Int))) →
   (((decide ((↑x : Int) < (↑(List.length l) : Int)) = true) →
   ((((0 : Int) ≤ (↑x : Int)) ∧
   ((↑x : Int) < (↑(List.length l) : Int))) ∧
   ((pr83 (Session.id (List.getD l (Int.toNat (↑x : Int)) default))) ∧
   ((tq (!!decide (inR (Session.id (List.getD l (Int.toNat (↑x : Int)) default)) (1 : Int) (9 : Int)))) ∧
   ((tq (!!decide (inR (Session.id (List.getD l (Int.toNat (↑x : Int)) default)) (1 : Int) (9 : Int)))) ∧
   ((((!!decide (inR (Session.id (List.getD l (Int.toNat (↑x : Int)) default)) (1 : Int) (9 : Int))) = true) →
   (pr56 (Session.upto (List.getD l (Int.toNat (↑x : Int)) default)) (0 : Int) (9999 : Int))) ∧
   ((tq (!!decide (inR (Session.id (List.getD l (Int.toNat (↑x : Int)) default)) (1 : Int) (9 : Int)))) ∧
   (((true = true) →
   (((!decide (inR (Session.id (List.getD l (Int.toNat (↑x : Int)) default)) (1 : Int) (9 : Int))) = false) →
   ((!!decide (inR (Session.id (List.getD l (Int.toNat (↑x : Int)) default)) (1 : Int) (9 : Int))) = true))) ∧
   (∀ b : Bool,
   ((b =
   bif !decide (inR (Session.id (List.getD l (Int.toNat (↑x : Int)) default)) (1 : Int) (9 : Int)) then true
   else !decide (inR (Session.upto (List.getD l (Int.toNat (↑x : Int)) default)) (0 : Int) (9999 : Int))) →
   (((b = true) →
   (VLe (V.int IntKind.i64 (3 : Int)) (V.int IntKind.i64 (sessF l)))) ∧
   ((b = false) →
   ((tq (decide ((↑x : Int) > (0 : Int)))) ∧
   ((tq (decide ((↑x : Int) > (0 : Int)))) ∧
   (((decide ((↑x : Int) > (0 : Int)) = true) →
   (inK IntKind.i64 ((↑x : Int) - (1 : Int)))) ∧
   ((tq (decide ((↑x : Int) > (0 : Int)))) ∧
   ((tq (decide ((↑x : Int) > (0 : Int)))) ∧
   (((decide ((↑x : Int) > (0 : Int)) = true) →
   (((0 : Int) ≤ (↑x : Int) - (1 : Int)) ∧
   ((↑x : Int) - (1 : Int) < (↑(List.length l) : Int)))) ∧
   ((tq (decide ((↑x : Int) > (0 : Int)))) ∧
   ((tq (decide ((↑x : Int) > (0 : Int)))) ∧
   ((tq (decide ((↑x : Int) > (0 : Int)))) ∧
   ((tq (decide ((↑x : Int) > (0 : Int)))) ∧
   (((true = true) →
   ((decide ((↑x : Int) > (0 : Int)) = true) →
   (decide ((↑x : Int) > (0 : Int)) = true))) ∧
   (∀ b_1 : Bool,
   ((b_1 =
   bif decide ((↑x : Int) > (0 : Int)) then
   decide
   (Session.id (List.getD l (Int.toNat (↑x : Int)) default) ≤
   Session.id (List.getD l (Int.toNat ((↑x : Int) - (1 : Int))) default))
   else false) →
   (((b_1 = true) →
   (VLe (V.int IntKind.i64 (1 : Int)) (V.int IntKind.i64 (sessF l)))) ∧
   ((b_1 = false) →
   ((inK IntKind.i64 ((↑x : Int) + (1 : Int))) ∧
   (∃ y : Nat, ((SLe
   (AS.mk
   [(0, encL (encSession 1) 1 l), (8, encL (encSession 1) 1 l),
   (9, V.int IntKind.i64 (↑(List.length l) : Int)), (10, V.int IntKind.i64 ((↑x : Int) + (1 : Int)))]
   [])
   (AS.mk
   [(0, encL (encSession 1) 1 l), (8, encL (encSession 1) 1 l),
   (9, V.int IntKind.i64 (↑(List.length l) : Int)), (10, V.int IntKind.i64 (↑y : Int))]
   [])) ∧
   (((y ≤ List.length l) ∧
   (scanE (sessE l) y = (0 : Int))) ∧
   (List.length l - y < List.length l - x)))))))))))))))))))))))))))))))) ∧
   ((decide ((↑x : Int) < (↑(List.length l) : Int)) = false) →
   (VLe (V.int IntKind.i64 (0 : Int)) (V.int IntKind.i64 (sessF l)))))))))) := by
    have hl : l.length ≤ maxLen := hpre
    unfold maxLen at hl
    refine ⟨fun h => ?_, fun h => ?_⟩
    · have h1 : 6 < l.length := by have := of_decide_eq_true h; omega
      exact vle_int (by unfold sessF; rw [if_pos h1])
    have h1 : ¬ 6 < l.length := by have := of_decide_eq_false h; omega
    refine ⟨⟨0, SLe.refl _, by omega, rfl⟩, ?_⟩
    rintro i ⟨hi, hz⟩
    refine ⟨fun h2 => ?_, fun h2 => ?_⟩
    · have hlt : i < l.length := by have := of_decide_eq_true h2; omega
      simp only [Int.toNat_natCast]
      refine ⟨⟨by omega, by omega⟩, trivial, ?_⟩
      repeat (first | (refine And.intro (fun h _ => h) ?_) | (refine And.intro (fun _ h => h) ?_) | (refine And.intro ?aa ?_; case aa => (exact (tqI _))) | (refine And.intro ?aa ?_; case aa => (exact (fun _ => trivial))) | (refine And.intro ?aa ?_; case aa => (exact (fun _ => ⟨by omega, by omega⟩))) | (refine And.intro ?aa ?_; case aa => (intros; simp_all [pr83, pr56]; done)) | (refine And.intro ?aa ?_; case aa => (intros; exact inK64 (by omega))) | (refine And.intro ?aa ?_; case aa => (intros; simp only [decide_eq_true_eq] at *; omega)) | (intro q hq))
      have e0 : q = decide (¬ (inR (atS l i).id 1 9 ∧ inR (atS l i).upto 0 9999)) := by
        rw [hq, Bool.eq_iff_iff, decide_eq_true_eq]
        by_cases a1 : inR (atS l i).id 1 9 <;> by_cases a2 : inR (atS l i).upto 0 9999 <;> simp only [a1, a2, decide_true, decide_false, Bool.not_true, Bool.not_false, cond_true, cond_false, and_true, true_and, and_false, false_and, not_true_eq_false, not_false_eq_true, Bool.false_eq_true]
      clear hq
      rw [e0]
      refine ⟨fun h5 => sess_stop h1 hz hlt (by unfold sessE; rw [if_pos (of_decide_eq_true h5)]) (by decide), fun h5 => ?_⟩
      clear e0
      repeat (first | (refine And.intro (fun h _ => h) ?_) | (refine And.intro (fun _ h => h) ?_) | (refine And.intro ?aa ?_; case aa => (exact (tqI _))) | (refine And.intro ?aa ?_; case aa => (exact (fun h => inK64 (by omega)))) | (refine And.intro ?aa ?_; case aa => (exact (fun h => ⟨by have := of_decide_eq_true h; omega, by omega⟩))) | (refine And.intro ?aa ?_; case aa => (intros; simp_all [pr83, pr56]; done)) | (refine And.intro ?aa ?_; case aa => (intros; exact inK64 (by omega))) | (refine And.intro ?aa ?_; case aa => (intros; simp only [decide_eq_true_eq] at *; omega)) | (intro q hq))
      have e3 : q = decide (0 < i ∧ (atS l i).id ≤ (atS l (i - 1)).id) := by
        rw [hq, Bool.eq_iff_iff, decide_eq_true_eq]
        by_cases a1 : 0 < i
        · have n1 : ((i : Int) - 1).toNat = i - 1 := by omega
          have a2 : decide ((i : Int) > 0) = true := decide_eq_true (by omega)
          rw [a2, n1]
          simp only [cond_true, decide_eq_true_eq, a1, true_and]
        · have a2 : decide ((i : Int) > 0) = false := decide_eq_false (by omega)
          rw [a2]
          simp [a1]
      rw [e3]
      have e2 : sessE l i = if 0 < i ∧ (atS l i).id ≤ (atS l (i - 1)).id then 1 else 0 := if_neg (of_decide_eq_false h5)
      refine ⟨fun h6 => sess_stop h1 hz hlt (by rw [e2, if_pos (of_decide_eq_true h6)]) (by decide), fun h6 => ?_⟩
      exact ⟨inK64 (by omega), i + 1, SLe.refl _, ⟨by omega, scanE_next hz (by rw [e2, if_neg (of_decide_eq_false h6)])⟩, by omega⟩
    · have hge : i = l.length := by have := of_decide_eq_false h2; omega
      exact vle_int (by unfold sessF; rw [if_neg h1, ← hge, hz])
  exact Eq.mp (by kernel_rfl) key
theorem so81 : Sound Tryd.prog 81 sp81 := by
  refine sound_of_body hmix (pol := 0) Tryd.func81 rfl (by kernel_rfl) fun args bin ob r bout hDe hob => ?_
  unfold sp81 at hDe
  split at hDe
  · rename_i a0
    cases hDe
    exact ⟨rfl, rfl, Nat.le_of_ble_eq_true (by kernel_rfl), cx81 ((decL decSession) a0), Eq.mp (by kernel_rfl) htt, Eq.mp (by kernel_rfl) da81, Eq.mp (by kernel_rfl) (noM_sound (P := Tryd.prog)), by kernel_rfl, [encL (encSession 1) 1 (((decL decSession) a0))], args_of_vles (⟨hob.1, trivial⟩), Eq.mp (by kernel_rfl) (bd81 ((decL decSession) a0) (hob.2))⟩
  · cases hDe

/-! ### spec.l4Fault -/
def pr108 (l : List Session) : Prop := l.length ≤ maxLen
noncomputable def rs108 (l : List Session) : V := .int .i64 (sessF l)
noncomputable def sp108 : FSpec := fun args bin => match args, bin with
  | [a0], [] => some (VLe a0 (encL (encSession 1) 1 (((decL decSession) a0))) ∧ pr108 ((decL decSession) a0), rs108 ((decL decSession) a0), [])
  | _, _ => none
noncomputable def in108_4 (l : List Session) : LoopInv :=
  ⟨Nat, fun i => ⟨[(0, encL (encSession 1) 1 l), (3, .int .i64 i)], []⟩,
    fun i => i ≤ l.length ∧ scanE (sessE l) i = 0, fun i => l.length - i⟩
noncomputable def iv108 (l : List Session) : Nat → Option LoopInv := fun rg_ => match rg_ with
  | 4 => some (in108_4 l)
  | _ => none
noncomputable def D108 : Nat → Option (Bool × FSpec) := lk [(52, (false, sp52)), (54, (false, sp54))]
theorem da108 : SoundAll Tryd.prog D108 := soundAll_cons so52 (soundAll_cons so54 (soundAll_nil))
noncomputable def cx108 (l : List Session) : Cx := ⟨tt, D108, Tryd.f108.ntmps, [0, 2, 3, 6, 10, 28, 44], [(4, ⟨[(0, none), (3, none)], []⟩)], [], iv108 l, [], noM, []⟩
theorem bd108 (l : List Session) (hpre : pr108 l) : bodyP (cx108 l) Tryd.f108 0 [encL (encSession 1) 1 (l)] (fun rr => VLe rr (rs108 l)) := by
  have key :
      (((decide ((↑(List.length l) : Int) > (6 : Int)) = true) →
   (VLe (V.int IntKind.i64 (2 : Int)) (V.int IntKind.i64 (sessF l)))) ∧
   ((decide ((↑(List.length l) : Int) > (6 : Int)) = false) →
   ((∃ x : Nat, ((SLe (AS.mk [(0, encL (encSession 1) 1 l), (3, V.int IntKind.i64 (0 : Int))] [])
   (AS.mk [(0, encL (encSession 1) 1 l), (3, V.int IntKind.i64 (↑x : Int))] [])) ∧
   ((x ≤ List.length l) ∧
   (scanE (sessE l) x = (0 : Int))))) ∧
   (∀ x : Nat,
   (((x ≤ List.length l) ∧
   (scanE (sessE l) x = (0 : Int))) →
   (((decide ((↑x : Int) < (↑(List.length l) : Int)) = true) →
   ((((0 : Int) ≤ (↑x : Int)) ∧
   ((↑x : Int) < (↑(List.length l) : Int))) ∧
   ((pr52 (Session.id (List.getD l (Int.toNat (↑x : Int)) default))) ∧
   ((tq (!!decide (inR (Session.id (List.getD l (Int.toNat (↑x : Int)) default)) (1 : Int) (9 : Int)))) ∧
   ((tq (!!decide (inR (Session.id (List.getD l (Int.toNat (↑x : Int)) default)) (1 : Int) (9 : Int)))) ∧
   ((((!!decide (inR (Session.id (List.getD l (Int.toNat (↑x : Int)) default)) (1 : Int) (9 : Int))) = true) →
   (((0 : Int) ≤ (↑x : Int)) ∧
   ((↑x : Int) < (↑(List.length l) : Int)))) ∧
   ((tq (!!decide (inR (Session.id (List.getD l (Int.toNat (↑x : Int)) default)) (1 : Int) (9 : Int)))) ∧
   ((tq (!!decide (inR (Session.id (List.getD l (Int.toNat (↑x : Int)) default)) (1 : Int) (9 : Int)))) ∧
   ((tq (!!decide (inR (Session.id (List.getD l (Int.toNat (↑x : Int)) default)) (1 : Int) (9 : Int)))) ∧
   ((((!!decide (inR (Session.id (List.getD l (Int.toNat (↑x : Int)) default)) (1 : Int) (9 : Int))) = true) →
   (pr54 (Session.upto (List.getD l (Int.toNat (↑x : Int)) default)) (0 : Int) (9999 : Int))) ∧
   ((tq (!!decide (inR (Session.id (List.getD l (Int.toNat (↑x : Int)) default)) (1 : Int) (9 : Int)))) ∧
   (((true = true) →
   (((!decide (inR (Session.id (List.getD l (Int.toNat (↑x : Int)) default)) (1 : Int) (9 : Int))) = false) →
   ((!!decide (inR (Session.id (List.getD l (Int.toNat (↑x : Int)) default)) (1 : Int) (9 : Int))) = true))) ∧
   (∀ b : Bool,
   ((b =
   bif !decide (inR (Session.id (List.getD l (Int.toNat (↑x : Int)) default)) (1 : Int) (9 : Int)) then true
   else !decide (inR (Session.upto (List.getD l (Int.toNat (↑x : Int)) default)) (0 : Int) (9999 : Int))) →
   (((b = true) →
   (VLe (V.int IntKind.i64 (3 : Int)) (V.int IntKind.i64 (sessF l)))) ∧
   ((b = false) →
   ((tq (decide ((↑x : Int) > (0 : Int)))) ∧
   ((tq (decide ((↑x : Int) > (0 : Int)))) ∧
   (((decide ((↑x : Int) > (0 : Int)) = true) →
   (((0 : Int) ≤ (↑x : Int)) ∧
   ((↑x : Int) < (↑(List.length l) : Int)))) ∧
   ((tq (decide ((↑x : Int) > (0 : Int)))) ∧
   ((tq (decide ((↑x : Int) > (0 : Int)))) ∧
   ((tq (decide ((↑x : Int) > (0 : Int)))) ∧
   (((decide ((↑x : Int) > (0 : Int)) = true) →
   (inK IntKind.i64 ((↑x : Int) - (1 : Int)))) ∧
   ((tq (decide ((↑x : Int) > (0 : Int)))) ∧
   ((tq (decide ((↑x : Int) > (0 : Int)))) ∧
   (((decide ((↑x : Int) > (0 : Int)) = true) →
   (((0 : Int) ≤ (↑x : Int) - (1 : Int)) ∧
   ((↑x : Int) - (1 : Int) < (↑(List.length l) : Int)))) ∧
   ((tq (decide ((↑x : Int) > (0 : Int)))) ∧
   ((tq (decide ((↑x : Int) > (0 : Int)))) ∧
   ((tq (decide ((↑x : Int) > (0 : Int)))) ∧
   ((tq (decide ((↑x : Int) > (0 : Int)))) ∧
   (((true = true) →
   ((decide ((↑x : Int) > (0 : Int)) = true) →
   (decide ((↑x : Int) > (0 : Int)) = true))) ∧
   (∀ b_1 : Bool,
   ((b_1 =
   bif decide ((↑x : Int) > (0 : Int)) then
   decide
   (Session.id (List.getD l (Int.toNat (↑x : Int)) default) ≤
   Session.id (List.getD l (Int.toNat ((↑x : Int) - (1 : Int))) default))
   else false) →
   (((b_1 = true) →
   (VLe (V.int IntKind.i64 (1 : Int)) (V.int IntKind.i64 (sessF l)))) ∧
   ((b_1 = false) →
   ((inK IntKind.i64 ((↑x : Int) + (1 : Int))) ∧
   (∃ y : Nat, ((SLe
   (AS.mk [(0, encL (encSession 1) 1 l), (3, V.int IntKind.i64 ((↑x : Int) + (1 : Int)))]
   [])
   (AS.mk [(0, encL (encSession 1) 1 l), (3, V.int IntKind.i64 (↑y : Int))] [])) ∧
   (((y ≤ List.length l) ∧
   (scanE (sessE l) y = (0 : Int))) ∧
   (List.length l - y < List.length l - x)))))))))))))))))))))))))))))))))))))))) ∧
   ((decide ((↑x : Int) < (↑(List.length l) : Int)) = false) →
   (VLe (V.int IntKind.i64 (0 : Int)) (V.int IntKind.i64 (sessF l)))))))))) := by
    have hl : l.length ≤ maxLen := hpre
    unfold maxLen at hl
    refine ⟨fun h => ?_, fun h => ?_⟩
    · have h1 : 6 < l.length := by have := of_decide_eq_true h; omega
      exact vle_int (by unfold sessF; rw [if_pos h1])
    have h1 : ¬ 6 < l.length := by have := of_decide_eq_false h; omega
    refine ⟨⟨0, SLe.refl _, by omega, rfl⟩, ?_⟩
    rintro i ⟨hi, hz⟩
    refine ⟨fun h2 => ?_, fun h2 => ?_⟩
    · have hlt : i < l.length := by have := of_decide_eq_true h2; omega
      simp only [Int.toNat_natCast]
      refine ⟨⟨by omega, by omega⟩, trivial, ?_⟩
      repeat (first | (refine And.intro (fun h _ => h) ?_) | (refine And.intro (fun _ h => h) ?_) | (refine And.intro ?aa ?_; case aa => (exact (tqI _))) | (refine And.intro ?aa ?_; case aa => (exact (fun _ => trivial))) | (refine And.intro ?aa ?_; case aa => (exact (fun _ => ⟨by omega, by omega⟩))) | (refine And.intro ?aa ?_; case aa => (intros; simp_all [pr52, pr54]; done)) | (refine And.intro ?aa ?_; case aa => (intros; exact inK64 (by omega))) | (refine And.intro ?aa ?_; case aa => (intros; simp only [decide_eq_true_eq] at *; omega)) | (intro q hq))
      have e0 : q = decide (¬ (inR (atS l i).id 1 9 ∧ inR (atS l i).upto 0 9999)) := by
        rw [hq, Bool.eq_iff_iff, decide_eq_true_eq]
        by_cases a1 : inR (atS l i).id 1 9 <;> by_cases a2 : inR (atS l i).upto 0 9999 <;> simp only [a1, a2, decide_true, decide_false, Bool.not_true, Bool.not_false, cond_true, cond_false, and_true, true_and, and_false, false_and, not_true_eq_false, not_false_eq_true, Bool.false_eq_true]
      clear hq
      rw [e0]
      refine ⟨fun h5 => sess_stop h1 hz hlt (by unfold sessE; rw [if_pos (of_decide_eq_true h5)]) (by decide), fun h5 => ?_⟩
      clear e0
      repeat (first | (refine And.intro (fun h _ => h) ?_) | (refine And.intro (fun _ h => h) ?_) | (refine And.intro ?aa ?_; case aa => (exact (tqI _))) | (refine And.intro ?aa ?_; case aa => (exact (fun h => inK64 (by omega)))) | (refine And.intro ?aa ?_; case aa => (exact (fun h => ⟨by have := of_decide_eq_true h; omega, by omega⟩))) | (refine And.intro ?aa ?_; case aa => (intros; simp_all [pr52, pr54]; done)) | (refine And.intro ?aa ?_; case aa => (intros; exact inK64 (by omega))) | (refine And.intro ?aa ?_; case aa => (intros; simp only [decide_eq_true_eq] at *; omega)) | (intro q hq))
      have e3 : q = decide (0 < i ∧ (atS l i).id ≤ (atS l (i - 1)).id) := by
        rw [hq, Bool.eq_iff_iff, decide_eq_true_eq]
        by_cases a1 : 0 < i
        · have n1 : ((i : Int) - 1).toNat = i - 1 := by omega
          have a2 : decide ((i : Int) > 0) = true := decide_eq_true (by omega)
          rw [a2, n1]
          simp only [cond_true, decide_eq_true_eq, a1, true_and]
        · have a2 : decide ((i : Int) > 0) = false := decide_eq_false (by omega)
          rw [a2]
          simp [a1]
      rw [e3]
      have e2 : sessE l i = if 0 < i ∧ (atS l i).id ≤ (atS l (i - 1)).id then 1 else 0 := if_neg (of_decide_eq_false h5)
      refine ⟨fun h6 => sess_stop h1 hz hlt (by rw [e2, if_pos (of_decide_eq_true h6)]) (by decide), fun h6 => ?_⟩
      exact ⟨inK64 (by omega), i + 1, SLe.refl _, ⟨by omega, scanE_next hz (by rw [e2, if_neg (of_decide_eq_false h6)])⟩, by omega⟩
    · have hge : i = l.length := by have := of_decide_eq_false h2; omega
      exact vle_int (by unfold sessF; rw [if_neg h1, ← hge, hz])
  exact Eq.mp (by kernel_rfl) key
theorem so108 : Sound Tryd.prog 108 sp108 := by
  refine sound_of_body hmix (pol := 0) Tryd.func108 rfl (by kernel_rfl) fun args bin ob r bout hDe hob => ?_
  unfold sp108 at hDe
  split at hDe
  · rename_i a0
    cases hDe
    exact ⟨rfl, rfl, Nat.le_of_ble_eq_true (by kernel_rfl), cx108 ((decL decSession) a0), Eq.mp (by kernel_rfl) htt, Eq.mp (by kernel_rfl) da108, Eq.mp (by kernel_rfl) (noM_sound (P := Tryd.prog)), by kernel_rfl, [encL (encSession 1) 1 (((decL decSession) a0))], args_of_vles (⟨hob.1, trivial⟩), Eq.mp (by kernel_rfl) (bd108 ((decL decSession) a0) (hob.2))⟩
  · cases hDe

/-! ### impl.isReply -/
def pr84 (r : Reply) : Prop := r.bd
noncomputable def rs84 (r : Reply) : V := .bool (decide (replyOk r))
noncomputable def sp84 : FSpec := fun args bin => match args, bin with
  | [a0], [] => some (VLe a0 (encReply 1 ((decReply a0))) ∧ pr84 (decReply a0), rs84 (decReply a0), [])
  | _, _ => none
noncomputable def D84 : Nat → Option (Bool × FSpec) := lk [(56, (false, sp56))]
theorem da84 : SoundAll Tryd.prog D84 := soundAll_cons so56 (soundAll_nil)
noncomputable def cx84 (r : Reply) : Cx := ⟨tt, D84, Tryd.f84.ntmps, [0, 1, 2], [], [], fun _ => none, [], noM, []⟩
theorem bd84 (r : Reply) (hpre : pr84 r) : bodyP (cx84 r) Tryd.f84 0 [encReply 1 (r)] (fun rr => VLe rr (rs84 r)) := by
  have key :
      ((pr56 (Reply.code r) (0 : Int) (10 : Int)) ∧
   ((tq (decide (inR (Reply.code r) (0 : Int) (10 : Int)))) ∧
   ((tq (decide (inR (Reply.code r) (0 : Int) (10 : Int)))) ∧
   (((decide (inR (Reply.code r) (0 : Int) (10 : Int)) = true) →
   (pr56 (Reply.value r) (-1 : Int) (9999 : Int))) ∧
   (((true = true) →
   ((decide (inR (Reply.code r) (0 : Int) (10 : Int)) = true) →
   (decide (inR (Reply.code r) (0 : Int) (10 : Int)) = true))) ∧
   (∀ b : Bool,
   ((b =
   bif decide (inR (Reply.code r) (0 : Int) (10 : Int)) then decide (inR (Reply.value r) (-1 : Int) (9999 : Int))
   else false) →
   ((tq (b)) ∧
   ((tq (b)) ∧
   ((tq (b)) ∧
   (((true = true) →
   ((b = true) →
   (b = true))) ∧
   (∀ b_1 : Bool,
   ((b_1 = bif b then decide ((↑(ByteArray.size (Reply.path r)) : Int) ≤ (24 : Int)) else false) →
   (VLe (V.bool b_1) (V.bool (decide (replyOk r))))))))))))))))) := by
    refine ⟨trivial, ?_⟩
    repeat (first | (refine And.intro (fun h _ => h) ?_) | (refine And.intro (fun _ h => h) ?_) | (refine And.intro ?aa ?_; case aa => (exact (tqI _))) | (refine And.intro ?aa ?_; case aa => (exact (fun _ => trivial))) | (refine And.intro ?aa ?_; case aa => (intros; simp_all [pr56]; done)) | (refine And.intro ?aa ?_; case aa => (intros; exact inK64 (by omega))) | (refine And.intro ?aa ?_; case aa => (intros; simp only [decide_eq_true_eq] at *; omega)) | (intro q hq))
    rename_i q1 hq1
    refine vle_bool ?_
    rw [hq, hq1, Bool.eq_iff_iff, decide_eq_true_eq]
    unfold replyOk
    by_cases a1 : inR r.code 0 10 <;> by_cases a2 : inR r.value (-1) 9999 <;> by_cases a3 : (r.path.size : Int) ≤ 24 <;> simp [a1, a2, a3] <;> omega
  exact Eq.mp (by kernel_rfl) key
theorem so84 : Sound Tryd.prog 84 sp84 := by
  refine sound_of_body hmix (pol := 0) Tryd.func84 rfl (by kernel_rfl) fun args bin ob r bout hDe hob => ?_
  unfold sp84 at hDe
  split at hDe
  · rename_i a0
    cases hDe
    exact ⟨rfl, rfl, Nat.le_of_ble_eq_true (by kernel_rfl), cx84 (decReply a0), Eq.mp (by kernel_rfl) htt, Eq.mp (by kernel_rfl) da84, Eq.mp (by kernel_rfl) (noM_sound (P := Tryd.prog)), by kernel_rfl, [encReply 1 ((decReply a0))], args_of_vles (⟨hob.1, trivial⟩), Eq.mp (by kernel_rfl) (bd84 (decReply a0) (hob.2))⟩
  · cases hDe

/-! ### spec.l6Reply -/
def pr110 (r : ReplyIn) : Prop := r.reply.bd
noncomputable def rs110 (r : ReplyIn) : V := .bool (decide (replyOk r.reply))
noncomputable def sp110 : FSpec := fun args bin => match args, bin with
  | [a0], [] => some (VLe a0 (encPReplyIn 1 ((decPReplyIn a0))) ∧ pr110 (decPReplyIn a0), rs110 (decPReplyIn a0), [])
  | _, _ => none
noncomputable def D110 : Nat → Option (Bool × FSpec) := lk [(54, (false, sp54))]
theorem da110 : SoundAll Tryd.prog D110 := soundAll_cons so54 (soundAll_nil)
noncomputable def cx110 (r : ReplyIn) : Cx := ⟨tt, D110, Tryd.f110.ntmps, [0, 2], [], [], fun _ => none, [], noM, []⟩
theorem bd110 (r : ReplyIn) (hpre : pr110 r) : bodyP (cx110 r) Tryd.f110 0 [encPReplyIn 1 (r)] (fun rr => VLe rr (rs110 r)) := by
  have key :
      ((pr54 (Reply.code (TMark.reply r)) (0 : Int) (10 : Int)) ∧
   ((tq (decide (inR (Reply.code (TMark.reply r)) (0 : Int) (10 : Int)))) ∧
   ((tq (decide (inR (Reply.code (TMark.reply r)) (0 : Int) (10 : Int)))) ∧
   ((tq (decide (inR (Reply.code (TMark.reply r)) (0 : Int) (10 : Int)))) ∧
   ((tq (decide (inR (Reply.code (TMark.reply r)) (0 : Int) (10 : Int)))) ∧
   (((decide (inR (Reply.code (TMark.reply r)) (0 : Int) (10 : Int)) = true) →
   (pr54 (Reply.value (TMark.reply r)) (-1 : Int) (9999 : Int))) ∧
   (((true = true) →
   ((decide (inR (Reply.code (TMark.reply r)) (0 : Int) (10 : Int)) = true) →
   (decide (inR (Reply.code (TMark.reply r)) (0 : Int) (10 : Int)) = true))) ∧
   (∀ b : Bool,
   ((b =
   bif decide (inR (Reply.code (TMark.reply r)) (0 : Int) (10 : Int)) then
   decide (inR (Reply.value (TMark.reply r)) (-1 : Int) (9999 : Int))
   else false) →
   ((tq (b)) ∧
   ((tq (b)) ∧
   ((tq (b)) ∧
   ((tq (b)) ∧
   ((tq (b)) ∧
   (((true = true) →
   ((b = true) →
   (b = true))) ∧
   (∀ b_1 : Bool,
   ((b_1 = bif b then decide ((↑(ByteArray.size (Reply.path (TMark.reply r))) : Int) ≤ (24 : Int)) else false) →
   (VLe (V.bool b_1) (V.bool (decide (replyOk (TMark.reply r)))))))))))))))))))))) := by
    refine ⟨trivial, ?_⟩
    repeat (first | (refine And.intro (fun h _ => h) ?_) | (refine And.intro (fun _ h => h) ?_) | (refine And.intro ?aa ?_; case aa => (exact (tqI _))) | (refine And.intro ?aa ?_; case aa => (exact (fun _ => trivial))) | (refine And.intro ?aa ?_; case aa => (intros; simp_all [pr54]; done)) | (refine And.intro ?aa ?_; case aa => (intros; exact inK64 (by omega))) | (refine And.intro ?aa ?_; case aa => (intros; simp only [decide_eq_true_eq] at *; omega)) | (intro q hq))
    rename_i q1 hq1
    refine vle_bool ?_
    rw [hq, hq1, Bool.eq_iff_iff, decide_eq_true_eq]
    unfold replyOk
    by_cases a1 : inR r.reply.code 0 10 <;> by_cases a2 : inR r.reply.value (-1) 9999 <;> by_cases a3 : (r.reply.path.size : Int) ≤ 24 <;> simp [a1, a2, a3] <;> omega
  exact Eq.mp (by kernel_rfl) key
theorem so110 : Sound Tryd.prog 110 sp110 := by
  refine sound_of_body hmix (pol := 0) Tryd.func110 rfl (by kernel_rfl) fun args bin ob r bout hDe hob => ?_
  unfold sp110 at hDe
  split at hDe
  · rename_i a0
    cases hDe
    exact ⟨rfl, rfl, Nat.le_of_ble_eq_true (by kernel_rfl), cx110 (decPReplyIn a0), Eq.mp (by kernel_rfl) htt, Eq.mp (by kernel_rfl) da110, Eq.mp (by kernel_rfl) (noM_sound (P := Tryd.prog)), by kernel_rfl, [encPReplyIn 1 ((decPReplyIn a0))], args_of_vles (⟨hob.1, trivial⟩), Eq.mp (by kernel_rfl) (bd110 (decPReplyIn a0) (hob.2))⟩
  · cases hDe

/-! ### impl.markAt$1 -/
def pr116 (m : TMark) (c : Int) (n : Int) : Prop := True
noncomputable def rs116 (m : TMark) (c : Int) (n : Int) : V := .bool (isMk c n m)
noncomputable def sp116 : FSpec := fun args bin => match args, bin with
  | [a0, a1, a2], [] => some (VLe a0 (encTMark 1 ((decTMark a0))) ∧ VLe a1 (encPInt 1 ((decPInt a1))) ∧ VLe a2 (encPInt 1 ((decPInt a2))) ∧ pr116 (decTMark a0) (decPInt a1) (decPInt a2), rs116 (decTMark a0) (decPInt a1) (decPInt a2), [])
  | _, _ => none
noncomputable def D116 : Nat → Option (Bool × FSpec) := lk []
theorem da116 : SoundAll Tryd.prog D116 := soundAll_nil
noncomputable def cx116 (m : TMark) (c : Int) (n : Int) : Cx := ⟨tt, D116, Tryd.f116.ntmps, [0, 1, 2, 3, 4], [], [], fun _ => none, [], noM, []⟩
theorem bd116 (m : TMark) (c : Int) (n : Int) (hpre : pr116 m c n) : bodyP (cx116 m c n) Tryd.f116 0 [encTMark 1 (m), encPInt 1 (c), encPInt 1 (n)] (fun rr => VLe rr (rs116 m c n)) := by
  have key :
      ((tq (TMark.client m == c)) ∧
   ((tq (TMark.client m == c)) ∧
   ((tq (TMark.client m == c)) ∧
   (((true = true) →
   (((TMark.client m == c) = true) →
   ((TMark.client m == c) = true))) ∧
   (∀ b : Bool,
   ((b = bif TMark.client m == c then TMark.number m == n else false) →
   (VLe (V.bool b) (V.bool (isMk c n m))))))))) := by
    repeat (first | (refine And.intro (fun h _ => h) ?_) | (refine And.intro (fun _ h => h) ?_) | (refine And.intro ?aa ?_; case aa => (exact (tqI _))) | (refine And.intro ?aa ?_; case aa => (intros; simp_all []; done)) | (refine And.intro ?aa ?_; case aa => (intros; exact inK64 (by omega))) | (refine And.intro ?aa ?_; case aa => (intros; simp only [decide_eq_true_eq] at *; omega)) | (intro q hq))
    refine vle_bool ?_
    rw [hq]
    unfold isMk
    rw [Bool.eq_iff_iff, decide_eq_true_eq]
    by_cases a1 : m.client = c <;> simp [a1]
  exact Eq.mp (by kernel_rfl) key
theorem so116 : Sound Tryd.prog 116 sp116 := by
  refine sound_of_body hmix (pol := 0) Tryd.func116 rfl (by kernel_rfl) fun args bin ob r bout hDe hob => ?_
  unfold sp116 at hDe
  split at hDe
  · rename_i a0 a1 a2
    cases hDe
    exact ⟨rfl, rfl, Nat.le_of_ble_eq_true (by kernel_rfl), cx116 (decTMark a0) (decPInt a1) (decPInt a2), Eq.mp (by kernel_rfl) htt, Eq.mp (by kernel_rfl) da116, Eq.mp (by kernel_rfl) (noM_sound (P := Tryd.prog)), by kernel_rfl, [encTMark 1 ((decTMark a0)), encPInt 1 ((decPInt a1)), encPInt 1 ((decPInt a2))], args_of_vles (⟨hob.1, hob.2.1, hob.2.2.1, trivial⟩), Eq.mp (by kernel_rfl) (bd116 (decTMark a0) (decPInt a1) (decPInt a2) (hob.2.2.2))⟩
  · cases hDe

/-! ### slices.IndexFunc(()loop.example/g00369/impl.Mark,loop.example/g00369/impl.Mark)@impl.markAt$1 -/
def pr115_116 (xs : List TMark) (c : Int) (n : Int) : Prop := xs.length ≤ maxLen ∧ (True)
noncomputable def rs115_116 (xs : List TMark) (c : Int) (n : Int) : V := .int .i64 (idxF (fun m => isMk c n m) xs)
noncomputable def sp115_116 : FSpec := fun args bin => match args, bin with
  | [a0, .fn 116 [a1, a2]], [] => some (VLe a0 (encL (encTMark 1) 1 (((decL decTMark) a0))) ∧ VLe a1 (encPInt 1 ((decPInt a1))) ∧ VLe a2 (encPInt 1 ((decPInt a2))) ∧ pr115_116 ((decL decTMark) a0) (decPInt a1) (decPInt a2), rs115_116 ((decL decTMark) a0) (decPInt a1) (decPInt a2), [])
  | _, _ => none
noncomputable def in115_116_2 (xs : List TMark) (c : Int) (n : Int) : LoopInv :=
  ⟨Nat, fun i => ⟨[(0, encL (encTMark 1) 1 xs), (1, .fn 116 [encPInt 1 (c), encPInt 1 (n)]), (7, .int .i64 xs.length), (8, .int .i64 i)], []⟩,
    fun i => i ≤ xs.length ∧ ∀ j, j < i → (fun m => isMk c n m) (xs.getD j default) = false, fun i => xs.length - i⟩
noncomputable def iv115_116 (xs : List TMark) (c : Int) (n : Int) : Nat → Option LoopInv := fun rg_ => match rg_ with
  | 2 => some (in115_116_2 xs c n)
  | _ => none
noncomputable def D115_116 : Nat → Option (Bool × FSpec) := lk [(116, (false, sp116))]
theorem da115_116 : SoundAll Tryd.prog D115_116 := soundAll_cons so116 (soundAll_nil)
noncomputable def cx115_116 (xs : List TMark) (c : Int) (n : Int) : Cx := ⟨tt, D115_116, Tryd.f115.ntmps, [0, 1, 4, 5, 7, 8, 9, 16], [(2, ⟨[(0, none), (1, none), (7, none), (8, none)], []⟩)], [], iv115_116 xs c n, [], noM, []⟩
theorem bd115_116 (xs : List TMark) (c : Int) (n : Int) (hpre : pr115_116 xs c n) : bodyP (cx115_116 xs c n) Tryd.f115 0 [encL (encTMark 1) 1 (xs), .fn 116 [encPInt 1 (c), encPInt 1 (n)]] (fun rr => VLe rr (rs115_116 xs c n)) := by
  have key :
      ((∃ x : Nat, ((SLe
   (AS.mk
   [(0, encL (encTMark 1) 1 xs),
   (1, V.fn (116 : FuncId) [encPInt 1 c, encPInt 1 n]),
   (7, V.int IntKind.i64 (↑(List.length xs) : Int)), (8, V.int IntKind.i64 (0 : Int))]
   [])
   (AS.mk
   [(0, encL (encTMark 1) 1 xs),
   (1, V.fn (116 : FuncId) [encPInt 1 c, encPInt 1 n]),
   (7, V.int IntKind.i64 (↑(List.length xs) : Int)), (8, V.int IntKind.i64 (↑x : Int))]
   [])) ∧
   ((x ≤ List.length xs) ∧
   (∀ j : Nat,
   ((j < x) →
   (isMk c n (List.getD xs j default) = false)))))) ∧
   (∀ x : Nat,
   (((x ≤ List.length xs) ∧
   (∀ j : Nat,
   ((j < x) →
   (isMk c n (List.getD xs j default) = false)))) →
   (((decide ((↑x : Int) < (↑(List.length xs) : Int)) = true) →
   ((((0 : Int) ≤ (↑x : Int)) ∧
   ((↑x : Int) < (↑(List.length xs) : Int))) ∧
   (((VLe (encTMark 1 (List.getD xs (Int.toNat (↑x : Int)) default))
   (encTMark 1 (decTMark (encTMark 1 (List.getD xs (Int.toNat (↑x : Int)) default))))) ∧
   ((VLe (V.ptr [V.int IntKind.i64 c] 0 1)
   (encPInt 1 (decPInt (V.ptr [V.int IntKind.i64 c] 0 1)))) ∧
   ((VLe (V.ptr [V.int IntKind.i64 n] 0 1)
   (encPInt 1 (decPInt (V.ptr [V.int IntKind.i64 n] 0 1)))) ∧
   (pr116 (decTMark (encTMark 1 (List.getD xs (Int.toNat (↑x : Int)) default)))
   (decPInt (V.ptr [V.int IntKind.i64 c] 0 1))
   (decPInt (V.ptr [V.int IntKind.i64 n] 0 1)))))) ∧
   (((isMk (decPInt (V.ptr [V.int IntKind.i64 c] 0 1))
   (decPInt (V.ptr [V.int IntKind.i64 n] 0 1))
   (decTMark (encTMark 1 (List.getD xs (Int.toNat (↑x : Int)) default))) =
   true) →
   (VLe (V.int IntKind.i64 (↑x : Int)) (V.int IntKind.i64 (idxF (fun (m : TMark) ↦ isMk c n m) xs)))) ∧
   ((isMk (decPInt (V.ptr [V.int IntKind.i64 c] 0 1))
   (decPInt (V.ptr [V.int IntKind.i64 n] 0 1))
   (decTMark (encTMark 1 (List.getD xs (Int.toNat (↑x : Int)) default))) =
   false) →
   ((inK IntKind.i64 ((↑x : Int) + (1 : Int))) ∧
   (∃ y : Nat, ((SLe
   (AS.mk
   [(0, encL (encTMark 1) 1 xs),
   (1, V.fn (116 : FuncId) [encPInt 1 c, encPInt 1 n]),
   (7, V.int IntKind.i64 (↑(List.length xs) : Int)), (8, V.int IntKind.i64 ((↑x : Int) + (1 : Int)))]
   [])
   (AS.mk
   [(0, encL (encTMark 1) 1 xs),
   (1, V.fn (116 : FuncId) [encPInt 1 c, encPInt 1 n]),
   (7, V.int IntKind.i64 (↑(List.length xs) : Int)), (8, V.int IntKind.i64 (↑y : Int))]
   [])) ∧
   (((y ≤ List.length xs) ∧
   (∀ j : Nat,
   ((j < y) →
   (isMk c n (List.getD xs j default) = false)))) ∧
   (List.length xs - y < List.length xs - x)))))))))) ∧
   ((decide ((↑x : Int) < (↑(List.length xs) : Int)) = false) →
   (VLe (V.int IntKind.i64 (-1 : Int)) (V.int IntKind.i64 (idxF (fun (m : TMark) ↦ isMk c n m) xs)))))))) := by
    obtain ⟨hlen, hp⟩ := hpre
    unfold maxLen at hlen
    refine ⟨⟨0, SLe.refl _, by omega, fun j hj => absurd hj (Nat.not_lt_zero j)⟩, ?_⟩
    rintro i ⟨hi, hj⟩
    refine ⟨fun h => ?_, fun h => ?_⟩
    · have hlt : i < xs.length := by simpa using h
      have hin : xs.getD i default ∈ xs := by simp [hlt]
      simp only [Int.toNat_natCast, dec_encTMark, dec_encPInt]
      refine ⟨⟨by omega, by omega⟩, ⟨VLe.refl _, VLe.refl _, VLe.refl _, trivial⟩, fun h2 => vle_int (idxF_some hlt hj h2).symm, fun h2 => ⟨inK64 (by omega), i + 1, SLe.refl _, ⟨by omega, fun j h3 => ?_⟩, by omega⟩⟩
      rcases Nat.lt_or_ge j i with h4 | h4
      · exact hj j h4
      · have : j = i := by omega
        subst this
        exact h2
    · have hge : i = xs.length := by simp at h; omega
      exact vle_int (idxF_none fun j h3 => hj j (by omega)).symm
  exact Eq.mp (by kernel_rfl) key
theorem so115_116 : Sound Tryd.prog 115 sp115_116 := by
  refine sound_of_body hmix (pol := 0) Tryd.func115 rfl (by kernel_rfl) fun args bin ob r bout hDe hob => ?_
  unfold sp115_116 at hDe
  split at hDe
  · rename_i a0 a1 a2
    cases hDe
    exact ⟨rfl, rfl, Nat.le_of_ble_eq_true (by kernel_rfl), cx115_116 ((decL decTMark) a0) (decPInt a1) (decPInt a2), Eq.mp (by kernel_rfl) htt, Eq.mp (by kernel_rfl) da115_116, Eq.mp (by kernel_rfl) (noM_sound (P := Tryd.prog)), by kernel_rfl, [encL (encTMark 1) 1 (((decL decTMark) a0)), .fn 116 [encPInt 1 ((decPInt a1)), encPInt 1 ((decPInt a2))]], args_of_vles (⟨hob.1, vle_fn ⟨hob.2.1, hob.2.2.1, trivial⟩, trivial⟩), Eq.mp (by kernel_rfl) (bd115_116 ((decL decTMark) a0) (decPInt a1) (decPInt a2) (hob.2.2.2))⟩
  · cases hDe

/-! ### impl.markAt -/
def pr85 (l : List TMark) (c : Int) (n : Int) : Prop := l.length ≤ maxLen
noncomputable def rs85 (l : List TMark) (c : Int) (n : Int) : V := .int .i64 (mkAt l c n)
noncomputable def sp85 : FSpec := fun args bin => match args, bin with
  | [a0, .int .i64 a1, .int .i64 a2], [] => some (VLe a0 (encL (encTMark 1) 1 (((decL decTMark) a0))) ∧ pr85 ((decL decTMark) a0) a1 a2, rs85 ((decL decTMark) a0) a1 a2, [])
  | _, _ => none
noncomputable def D85 : Nat → Option (Bool × FSpec) := lk [(115, (false, sp115_116))]
theorem da85 : SoundAll Tryd.prog D85 := soundAll_cons so115_116 (soundAll_nil)
noncomputable def cx85 (l : List TMark) (c : Int) (n : Int) : Cx := ⟨tt, D85, Tryd.f85.ntmps, [0, 1, 2, 4, 5, 6], [], [], fun _ => none, [], noM, []⟩
theorem bd85 (l : List TMark) (c : Int) (n : Int) (hpre : pr85 l c n) : bodyP (cx85 l c n) Tryd.f85 0 [encL (encTMark 1) 1 (l), .int .i64 (c), .int .i64 (n)] (fun rr => VLe rr (rs85 l c n)) := by
  have key :
      (((VLe (encL (encTMark 1) 1 l)
   (encL (encTMark 1) 1 (decL decTMark (encL (encTMark 1) 1 l)))) ∧
   ((VLe (V.ptr [V.int IntKind.i64 c] 0 1)
   (encPInt 1 (decPInt (V.ptr [V.int IntKind.i64 c] 0 1)))) ∧
   ((VLe (V.ptr [V.int IntKind.i64 n] 0 1)
   (encPInt 1 (decPInt (V.ptr [V.int IntKind.i64 n] 0 1)))) ∧
   (pr115_116 (decL decTMark (encL (encTMark 1) 1 l))
   (decPInt (V.ptr [V.int IntKind.i64 c] 0 1))
   (decPInt (V.ptr [V.int IntKind.i64 n] 0 1)))))) ∧
   (VLe
   (V.int IntKind.i64
   (idxF
   (fun (m : TMark) ↦
   isMk (decPInt (V.ptr [V.int IntKind.i64 c] 0 1))
   (decPInt (V.ptr [V.int IntKind.i64 n] 0 1)) m)
   (decL decTMark (encL (encTMark 1) 1 l))))
   (V.int IntKind.i64 (mkAt l c n)))) := by
    simp only [decL_TMark, decPInt_ptr]
    exact ⟨⟨VLe.refl _, VLe.refl _, VLe.refl _, hpre, trivial⟩, VLe.refl _⟩
  exact Eq.mp (by kernel_rfl) key
theorem so85 : Sound Tryd.prog 85 sp85 := by
  refine sound_of_body hmix (pol := 0) Tryd.func85 rfl (by kernel_rfl) fun args bin ob r bout hDe hob => ?_
  unfold sp85 at hDe
  split at hDe
  · rename_i a0 a1 a2
    cases hDe
    exact ⟨rfl, rfl, Nat.le_of_ble_eq_true (by kernel_rfl), cx85 ((decL decTMark) a0) a1 a2, Eq.mp (by kernel_rfl) htt, Eq.mp (by kernel_rfl) da85, Eq.mp (by kernel_rfl) (noM_sound (P := Tryd.prog)), by kernel_rfl, [encL (encTMark 1) 1 (((decL decTMark) a0)), .int .i64 (a1), .int .i64 (a2)], args_of_vles (⟨hob.1, VLe.refl _, VLe.refl _, trivial⟩), Eq.mp (by kernel_rfl) (bd85 ((decL decTMark) a0) a1 a2 (hob.2))⟩
  · cases hDe

/-! ### spec.l6Mark -/
def pr88 (s : TState) (c : Int) (n : Int) : Prop := s.marks.length ≤ maxLen
noncomputable def rs88 (s : TState) (c : Int) (n : Int) : V := .int .i64 (mkAt s.marks c n)
noncomputable def sp88 : FSpec := fun args bin => match args, bin with
  | [a0, .int .i64 a1, .int .i64 a2], [] => some (VLe a0 (encPTState 1 ((decPTState a0))) ∧ pr88 (decPTState a0) a1 a2, rs88 (decPTState a0) a1 a2, [])
  | _, _ => none
noncomputable def in88_2 (s : TState) (c : Int) (n : Int) : LoopInv :=
  ⟨Nat, fun i => ⟨[(0, encPTState 1 s), (1, .int .i64 c), (2, .int .i64 n), (7, .int .i64 i)], []⟩,
    fun i => i ≤ s.marks.length ∧ ∀ j, j < i → isMk c n (s.marks.getD j default) = false, fun i => s.marks.length - i⟩
noncomputable def iv88 (s : TState) (c : Int) (n : Int) : Nat → Option LoopInv := fun rg_ => match rg_ with
  | 2 => some (in88_2 s c n)
  | _ => none
noncomputable def D88 : Nat → Option (Bool × FSpec) := lk []
theorem da88 : SoundAll Tryd.prog D88 := soundAll_nil
noncomputable def cx88 (s : TState) (c : Int) (n : Int) : Cx := ⟨tt, D88, Tryd.f88.ntmps, [0, 1, 2, 6, 7, 14, 38], [(2, ⟨[(0, none), (1, none), (2, none), (7, none)], []⟩)], [], iv88 s c n, [], noM, []⟩
theorem bd88 (s : TState) (c : Int) (n : Int) (hpre : pr88 s c n) : bodyP (cx88 s c n) Tryd.f88 0 [encPTState 1 (s), .int .i64 (c), .int .i64 (n)] (fun rr => VLe rr (rs88 s c n)) := by
  have key :
      ((∃ x : Nat, ((SLe
   (AS.mk
   [(0, encPTState 1 s), (1, V.int IntKind.i64 c), (2, V.int IntKind.i64 n),
   (7, V.int IntKind.i64 (0 : Int))]
   [])
   (AS.mk
   [(0, encPTState 1 s), (1, V.int IntKind.i64 c), (2, V.int IntKind.i64 n),
   (7, V.int IntKind.i64 (↑x : Int))]
   [])) ∧
   ((x ≤ List.length (TState.marks s)) ∧
   (∀ j : Nat,
   ((j < x) →
   (isMk c n (List.getD (TState.marks s) j default) = false)))))) ∧
   (∀ x : Nat,
   (((x ≤ List.length (TState.marks s)) ∧
   (∀ j : Nat,
   ((j < x) →
   (isMk c n (List.getD (TState.marks s) j default) = false)))) →
   (((decide ((↑x : Int) < (↑(List.length (TState.marks s)) : Int)) = true) →
   ((((0 : Int) ≤ (↑x : Int)) ∧
   ((↑x : Int) < (↑(List.length (TState.marks s)) : Int))) ∧
   ((tq (TMark.client (List.getD (TState.marks s) (Int.toNat (↑x : Int)) default) == c)) ∧
   ((tq (TMark.client (List.getD (TState.marks s) (Int.toNat (↑x : Int)) default) == c)) ∧
   ((tq (TMark.client (List.getD (TState.marks s) (Int.toNat (↑x : Int)) default) == c)) ∧
   ((tq (TMark.client (List.getD (TState.marks s) (Int.toNat (↑x : Int)) default) == c)) ∧
   ((tq (TMark.client (List.getD (TState.marks s) (Int.toNat (↑x : Int)) default) == c)) ∧
   ((((TMark.client (List.getD (TState.marks s) (Int.toNat (↑x : Int)) default) == c) = true) →
   (((0 : Int) ≤ (↑x : Int)) ∧
   ((↑x : Int) < (↑(List.length (TState.marks s)) : Int)))) ∧
   ((tq (TMark.client (List.getD (TState.marks s) (Int.toNat (↑x : Int)) default) == c)) ∧
   ((tq (TMark.client (List.getD (TState.marks s) (Int.toNat (↑x : Int)) default) == c)) ∧
   ((tq (TMark.client (List.getD (TState.marks s) (Int.toNat (↑x : Int)) default) == c)) ∧
   ((tq (TMark.client (List.getD (TState.marks s) (Int.toNat (↑x : Int)) default) == c)) ∧
   (((true = true) →
   (((TMark.client (List.getD (TState.marks s) (Int.toNat (↑x : Int)) default) == c) = true) →
   ((TMark.client (List.getD (TState.marks s) (Int.toNat (↑x : Int)) default) == c) = true))) ∧
   (∀ b : Bool,
   ((b =
   bif TMark.client (List.getD (TState.marks s) (Int.toNat (↑x : Int)) default) == c then
   TMark.number (List.getD (TState.marks s) (Int.toNat (↑x : Int)) default) == n
   else false) →
   (((b = true) →
   (VLe (V.int IntKind.i64 (↑x : Int)) (V.int IntKind.i64 (mkAt (TState.marks s) c n)))) ∧
   ((b = false) →
   ((inK IntKind.i64 ((↑x : Int) + (1 : Int))) ∧
   (∃ y : Nat, ((SLe
   (AS.mk
   [(0, encPTState 1 s), (1, V.int IntKind.i64 c), (2, V.int IntKind.i64 n),
   (7, V.int IntKind.i64 ((↑x : Int) + (1 : Int)))]
   [])
   (AS.mk
   [(0, encPTState 1 s), (1, V.int IntKind.i64 c), (2, V.int IntKind.i64 n),
   (7, V.int IntKind.i64 (↑y : Int))]
   [])) ∧
   (((y ≤ List.length (TState.marks s)) ∧
   (∀ j : Nat,
   ((j < y) →
   (isMk c n (List.getD (TState.marks s) j default) = false)))) ∧
   (List.length (TState.marks s) - y < List.length (TState.marks s) - x)))))))))))))))))))))) ∧
   ((decide ((↑x : Int) < (↑(List.length (TState.marks s)) : Int)) = false) →
   (VLe (V.int IntKind.i64 (-1 : Int)) (V.int IntKind.i64 (mkAt (TState.marks s) c n)))))))) := by
    have hl : s.marks.length ≤ maxLen := hpre
    unfold maxLen at hl
    refine ⟨⟨0, SLe.refl _, by omega, fun j hj => absurd hj (Nat.not_lt_zero j)⟩, ?_⟩
    rintro i ⟨hi, hj⟩
    refine ⟨fun h => ?_, fun h => ?_⟩
    · have hlt : i < s.marks.length := by have := of_decide_eq_true h; omega
      simp only [Int.toNat_natCast]
      refine ⟨⟨by omega, by omega⟩, ?_⟩
      repeat (first | (refine And.intro (fun h _ => h) ?_) | (refine And.intro (fun _ h => h) ?_) | (refine And.intro ?aa ?_; case aa => (exact (tqI _))) | (refine And.intro ?aa ?_; case aa => (exact (fun _ => ⟨by omega, by omega⟩))) | (refine And.intro ?aa ?_; case aa => (intros; simp_all []; done)) | (refine And.intro ?aa ?_; case aa => (intros; exact inK64 (by omega))) | (refine And.intro ?aa ?_; case aa => (intros; simp only [decide_eq_true_eq] at *; omega)) | (intro q hq))
      have e0 : q = isMk c n (s.marks.getD i default) := by
        rw [hq]
        unfold isMk
        rw [Bool.eq_iff_iff, decide_eq_true_eq]
        by_cases a1 : (s.marks.getD i default).client = c
        · have a2 : ((s.marks.getD i default).client == c) = true := by rw [beq_iff_eq]; exact a1
          rw [a2]
          simp only [cond_true, beq_iff_eq, a1, true_and]
        · have a2 : ((s.marks.getD i default).client == c) = false := by rw [beq_eq_false_iff_ne]; exact a1
          rw [a2]
          simp only [cond_false, a1, false_and, Bool.false_eq_true]
      rw [e0]
      refine ⟨fun h2 => vle_int (idxF_some hlt hj h2).symm, fun h2 => ⟨inK64 (by omega), i + 1, SLe.refl _, ⟨by omega, fun j h3 => ?_⟩, by omega⟩⟩
      rcases Nat.lt_or_ge j i with h4 | h4
      · exact hj j h4
      · have : j = i := by omega
        subst this
        exact h2
    · have hge : i = s.marks.length := by have := of_decide_eq_false h; omega
      exact vle_int (idxF_none fun j h3 => hj j (by omega)).symm
  exact Eq.mp (by kernel_rfl) key
theorem so88 : Sound Tryd.prog 88 sp88 := by
  refine sound_of_body hmix (pol := 0) Tryd.func88 rfl (by kernel_rfl) fun args bin ob r bout hDe hob => ?_
  unfold sp88 at hDe
  split at hDe
  · rename_i a0 a1 a2
    cases hDe
    exact ⟨rfl, rfl, Nat.le_of_ble_eq_true (by kernel_rfl), cx88 (decPTState a0) a1 a2, Eq.mp (by kernel_rfl) htt, Eq.mp (by kernel_rfl) da88, Eq.mp (by kernel_rfl) (noM_sound (P := Tryd.prog)), by kernel_rfl, [encPTState 1 ((decPTState a0)), .int .i64 (a1), .int .i64 (a2)], args_of_vles (⟨hob.1, VLe.refl _, VLe.refl _, trivial⟩), Eq.mp (by kernel_rfl) (bd88 (decPTState a0) a1 a2 (hob.2))⟩
  · cases hDe

/-! ### impl.StateFault -/
def pr38 (s : TState) : Prop := s.bd
noncomputable def rs38 (s : TState) : V := .int .i64 (stateF s)
noncomputable def sp38 : FSpec := fun args bin => match args, bin with
  | [a0], [] => some (VLe a0 (encTState 1 ((decTState a0))) ∧ pr38 (decTState a0), rs38 (decTState a0), [])
  | _, _ => none
noncomputable def in38_12 (s : TState) : LoopInv :=
  ⟨Nat, fun i => ⟨[(1, .oref 128 0 0), (30, encL (encTMark 1) 1 s.marks), (31, .int .i64 s.marks.length), (32, .int .i64 i)], [(128, .box (encTState 1 s).cells)]⟩,
    fun i => i ≤ s.marks.length ∧ scanE (markE s.marks) i = 0, fun i => s.marks.length - i⟩
noncomputable def iv38 (s : TState) : Nat → Option LoopInv := fun rg_ => match rg_ with
  | 12 => some (in38_12 s)
  | _ => none
noncomputable def D38 : Nat → Option (Bool × FSpec) := lk [(80, (false, sp80)), (81, (false, sp81)), (82, (false, sp82)), (83, (false, sp83)), (56, (false, sp56)), (84, (false, sp84)), (85, (false, sp85))]
theorem da38 : SoundAll Tryd.prog D38 := soundAll_cons so80 (soundAll_cons so81 (soundAll_cons so82 (soundAll_cons so83 (soundAll_cons so56 (soundAll_cons so84 (soundAll_cons so85 (soundAll_nil)))))))
noncomputable def cx38 (s : TState) : Cx := ⟨tt, D38, Tryd.f38.ntmps, [0, 1, 2, 3, 4, 5, 6, 11, 17, 19, 24, 30, 31, 32, 33, 52, 62], [(12, ⟨[(1, none), (30, none), (31, none), (32, none)], [(128, [])]⟩)], [], iv38 s, [], noM, []⟩
theorem bd38 (s : TState) (hpre : pr38 s) : bodyP (cx38 s) Tryd.f38 0 [encTState 1 (s)] (fun rr => VLe rr (rs38 s)) := by
  have key :
      (((VLe (encL (encZnode 1) 1 (TState.nodes s))
   (encL (encZnode 1) 1 (decL decZnode (encL (encZnode 1) 1 (TState.nodes s))))) ∧
   (pr80 (decL decZnode (encL (encZnode 1) 1 (TState.nodes s))))) ∧
   ((((treeF (decL decZnode (encL (encZnode 1) 1 (TState.nodes s))) != (0 : Int)) = true) →
   (VLe (V.int IntKind.i64 (treeF (decL decZnode (encL (encZnode 1) 1 (TState.nodes s)))))
   (V.int IntKind.i64 (stateF s)))) ∧
   (((treeF (decL decZnode (encL (encZnode 1) 1 (TState.nodes s))) != (0 : Int)) = false) →
   (((VLe (encL (encSession 1) 1 (TState.sessions s))
   (encL (encSession 1) 1 (decL decSession (encL (encSession 1) 1 (TState.sessions s))))) ∧
   (pr81 (decL decSession (encL (encSession 1) 1 (TState.sessions s))))) ∧
   ((((sessF (decL decSession (encL (encSession 1) 1 (TState.sessions s))) != (0 : Int)) = true) →
   (VLe (V.int IntKind.i64 (sessF (decL decSession (encL (encSession 1) 1 (TState.sessions s)))))
   (V.int IntKind.i64 (stateF s)))) ∧
   (((sessF (decL decSession (encL (encSession 1) 1 (TState.sessions s))) != (0 : Int)) = false) →
   ((pr82 (TState.now s)) ∧
   ((((!decide (inR (TState.now s) (0 : Int) (9000 : Int))) = true) →
   (VLe (V.int IntKind.i64 (3 : Int)) (V.int IntKind.i64 (stateF s)))) ∧
   (((!decide (inR (TState.now s) (0 : Int) (9000 : Int))) = false) →
   (((decide ((↑(List.length (TState.marks s)) : Int) > (40 : Int)) = true) →
   (VLe (V.int IntKind.i64 (2 : Int)) (V.int IntKind.i64 (stateF s)))) ∧
   ((decide ((↑(List.length (TState.marks s)) : Int) > (40 : Int)) = false) →
   ((∃ x : Nat, ((SLe
   (AS.mk
   [(1, V.oref 128 0 0),
   (30, encL (encTMark 1) 1 (TState.marks s)),
   (31, V.int IntKind.i64 (↑(List.length (TState.marks s)) : Int)),
   (32, V.int IntKind.i64 (0 : Int))]
   [(128,
   Blk.box
   [encL (encZnode 1) 1 (TState.nodes s),
   encL (encSession 1) 1 (TState.sessions s), V.int IntKind.i64 (TState.now s),
   encL (encTMark 1) 1 (TState.marks s)])])
   (AS.mk
   [(1, V.oref 128 0 0),
   (30, encL (encTMark 1) 1 (TState.marks s)),
   (31, V.int IntKind.i64 (↑(List.length (TState.marks s)) : Int)),
   (32, V.int IntKind.i64 (↑x : Int))]
   [(128,
   Blk.box
   [encL (encZnode 1) 1 (TState.nodes s),
   encL (encSession 1) 1 (TState.sessions s), V.int IntKind.i64 (TState.now s),
   encL (encTMark 1) 1 (TState.marks s)])])) ∧
   ((x ≤ List.length (TState.marks s)) ∧
   (scanE (markE (TState.marks s)) x = (0 : Int))))) ∧
   (∀ x : Nat,
   (((x ≤ List.length (TState.marks s)) ∧
   (scanE (markE (TState.marks s)) x = (0 : Int))) →
   (((decide ((↑x : Int) < (↑(List.length (TState.marks s)) : Int)) = true) →
   ((((0 : Int) ≤ (↑x : Int)) ∧
   ((↑x : Int) < (↑(List.length (TState.marks s)) : Int))) ∧
   ((pr83 (TMark.client (List.getD (TState.marks s) (Int.toNat (↑x : Int)) default))) ∧
   ((tq (!!decide (inR (TMark.client (List.getD (TState.marks s) (Int.toNat (↑x : Int)) default)) (1 : Int) (9 : Int)))) ∧
   ((tq (!!decide (inR (TMark.client (List.getD (TState.marks s) (Int.toNat (↑x : Int)) default)) (1 : Int) (9 : Int)))) ∧
   ((((!!decide (inR (TMark.client (List.getD (TState.marks s) (Int.toNat (↑x : Int)) default)) (1 : Int) (9 : Int))) = true) →
   (pr56 (TMark.number (List.getD (TState.marks s) (Int.toNat (↑x : Int)) default)) (1 : Int) (99 : Int))) ∧
   ((tq (!!decide (inR (TMark.client (List.getD (TState.marks s) (Int.toNat (↑x : Int)) default)) (1 : Int) (9 : Int)))) ∧
   (((true = true) →
   (((!decide (inR (TMark.client (List.getD (TState.marks s) (Int.toNat (↑x : Int)) default)) (1 : Int) (9 : Int))) = false) →
   ((!!decide (inR (TMark.client (List.getD (TState.marks s) (Int.toNat (↑x : Int)) default)) (1 : Int) (9 : Int))) = true))) ∧
   (∀ b : Bool,
   ((b =
   bif !decide (inR (TMark.client (List.getD (TState.marks s) (Int.toNat (↑x : Int)) default)) (1 : Int) (9 : Int)) then
   true
   else !decide (inR (TMark.number (List.getD (TState.marks s) (Int.toNat (↑x : Int)) default)) (1 : Int) (99 : Int))) →
   ((tq (!b)) ∧
   ((tq (!b)) ∧
   ((((!b) = true) →
   ((VLe (encReply 1 (TMark.reply (List.getD (TState.marks s) (Int.toNat (↑x : Int)) default)))
   (encReply 1
   (decReply (encReply 1 (TMark.reply (List.getD (TState.marks s) (Int.toNat (↑x : Int)) default)))))) ∧
   (pr84 (decReply (encReply 1 (TMark.reply (List.getD (TState.marks s) (Int.toNat (↑x : Int)) default))))))) ∧
   ((tq (!b)) ∧
   (((true = true) →
   ((b = false) →
   ((!b) = true))) ∧
   (∀ b_1 : Bool,
   ((b_1 =
   bif b then true
   else
   !decide
   (replyOk
   (decReply (encReply 1 (TMark.reply (List.getD (TState.marks s) (Int.toNat (↑x : Int)) default)))))) →
   (((b_1 = true) →
   (VLe (V.int IntKind.i64 (3 : Int)) (V.int IntKind.i64 (stateF s)))) ∧
   ((b_1 = false) →
   ((((0 : Int) ≤ Option.getD none (0 : Int)) ∧
   ((Option.getD none (0 : Int) ≤ Option.getD (some (↑x : Int)) (↑(List.length (TState.marks s)) : Int)) ∧
   (Option.getD (some (↑x : Int)) (↑(List.length (TState.marks s)) : Int) ≤ (↑(List.length (TState.marks s)) : Int)))) ∧
   ((sizedL 5 (List.length (TState.marks s)) (gL (encTMark 1) (TState.marks s))) ∧
   (((VLe
   (V.sl (Int.toNat (Option.getD (some (↑x : Int)) (↑(List.length (TState.marks s)) : Int)) - 0)
   (match (motive := Option Int → Nat → V) none with
   | none => gL (encTMark 1) (TState.marks s)
   | some val => dropg (gL (encTMark 1) (TState.marks s)) 0)
   1)
   (encL (encTMark 1) 1
   (decL decTMark
   (V.sl (Int.toNat (Option.getD (some (↑x : Int)) (↑(List.length (TState.marks s)) : Int)) - 0)
   (match (motive := Option Int → Nat → V) none with
   | none => gL (encTMark 1) (TState.marks s)
   | some val => dropg (gL (encTMark 1) (TState.marks s)) 0)
   1)))) ∧
   (pr85
   (decL decTMark
   (V.sl (Int.toNat (Option.getD (some (↑x : Int)) (↑(List.length (TState.marks s)) : Int)) - 0)
   (match (motive := Option Int → Nat → V) none with
   | none => gL (encTMark 1) (TState.marks s)
   | some val => dropg (gL (encTMark 1) (TState.marks s)) 0)
   1))
   (TMark.client (List.getD (TState.marks s) (Int.toNat (↑x : Int)) default))
   (TMark.number (List.getD (TState.marks s) (Int.toNat (↑x : Int)) default)))) ∧
   (((decide
   (mkAt
   (decL decTMark
   (V.sl (Int.toNat (Option.getD (some (↑x : Int)) (↑(List.length (TState.marks s)) : Int)) - 0)
   (match (motive := Option Int → Nat → V) none with
   | none => gL (encTMark 1) (TState.marks s)
   | some val => dropg (gL (encTMark 1) (TState.marks s)) 0)
   1))
   (TMark.client (List.getD (TState.marks s) (Int.toNat (↑x : Int)) default))
   (TMark.number (List.getD (TState.marks s) (Int.toNat (↑x : Int)) default)) ≥
   (0 : Int)) =
   true) →
   (VLe (V.int IntKind.i64 (6 : Int)) (V.int IntKind.i64 (stateF s)))) ∧
   ((decide
   (mkAt
   (decL decTMark
   (V.sl (Int.toNat (Option.getD (some (↑x : Int)) (↑(List.length (TState.marks s)) : Int)) - 0)
   (match (motive := Option Int → Nat → V) none with
   | none => gL (encTMark 1) (TState.marks s)
   | some val => dropg (gL (encTMark 1) (TState.marks s)) 0)
   1))
   (TMark.client (List.getD (TState.marks s) (Int.toNat (↑x : Int)) default))
   (TMark.number (List.getD (TState.marks s) (Int.toNat (↑x : Int)) default)) ≥
   (0 : Int)) =
   false) →
   ((inK IntKind.i64 ((↑x : Int) + (1 : Int))) ∧
   (∃ y : Nat, ((SLe
   (AS.mk
   [(1, V.oref 128 0 0),
   (30, encL (encTMark 1) 1 (TState.marks s)),
   (31, V.int IntKind.i64 (↑(List.length (TState.marks s)) : Int)),
   (32, V.int IntKind.i64 ((↑x : Int) + (1 : Int)))]
   [(128,
   Blk.box
   [encL (encZnode 1) 1 (TState.nodes s),
   encL (encSession 1) 1 (TState.sessions s), V.int IntKind.i64 (TState.now s),
   encL (encTMark 1) 1 (TState.marks s)])])
   (AS.mk
   [(1, V.oref 128 0 0),
   (30, encL (encTMark 1) 1 (TState.marks s)),
   (31, V.int IntKind.i64 (↑(List.length (TState.marks s)) : Int)),
   (32, V.int IntKind.i64 (↑y : Int))]
   [(128,
   Blk.box
   [encL (encZnode 1) 1 (TState.nodes s),
   encL (encSession 1) 1 (TState.sessions s), V.int IntKind.i64 (TState.now s),
   encL (encTMark 1) 1 (TState.marks s)])])) ∧
   (((y ≤ List.length (TState.marks s)) ∧
   (scanE (markE (TState.marks s)) y = (0 : Int))) ∧
   (List.length (TState.marks s) - y < List.length (TState.marks s) - x))))))))))))))))))))))))))))) ∧
   ((decide ((↑x : Int) < (↑(List.length (TState.marks s)) : Int)) = false) →
   (VLe (V.int IntKind.i64 (0 : Int)) (V.int IntKind.i64 (stateF s))))))))))))))))))) := by
    obtain ⟨⟨hn, hnb⟩, hs, hk, hkb⟩ := hpre
    have hk' := hk
    unfold maxLen at hk'
    simp only [decL_Znode, decL_Session, dec_encReply, dec_encPTState, replyIn_eq]
    refine ⟨⟨VLe.refl _, hn⟩, fun h => vle_int (by unfold stateF; rw [if_pos (ne_of_bne h)]), fun h => ?_⟩
    have c1 := not_ne_of_bne h
    refine ⟨⟨VLe.refl _, hs⟩, fun h => vle_int (by unfold stateF; rw [if_neg c1, if_pos (ne_of_bne h)]), fun h => ?_⟩
    have c2 := not_ne_of_bne h
    refine ⟨trivial, fun h => ?_, fun h => ?_⟩
    · have c3 : ¬ inR s.now 0 9000 := by simpa using h
      exact vle_int (by unfold stateF; rw [if_neg c1, if_neg c2, if_pos c3])
    have c3 : inR s.now 0 9000 := by simpa using h
    refine ⟨fun h => ?_, fun h => ?_⟩
    · have c4 : 40 < s.marks.length := by have := of_decide_eq_true h; omega
      exact vle_int (by unfold stateF; rw [if_neg c1, if_neg c2, if_neg (not_not_intro c3), if_pos c4])
    have c4 : ¬ 40 < s.marks.length := by have := of_decide_eq_false h; omega
    refine ⟨⟨0, SLe.refl _, by omega, rfl⟩, ?_⟩
    rintro i ⟨hi, hz⟩
    refine ⟨fun h2 => ?_, fun h2 => ?_⟩
    · have hlt : i < s.marks.length := by have := of_decide_eq_true h2; omega
      have hbd : (s.marks.getD i default).bd := hkb _ (by simp [hlt])
      simp only [Int.toNat_natCast]
      have stop : ∀ c, c = markE s.marks i → c ≠ 0 → VLe (.int .i64 c) (.int .i64 (stateF s)) := fun c hc h0 => vle_int (by
        unfold stateF
        rw [if_neg c1, if_neg c2, if_neg (not_not_intro c3), if_neg c4, scanE_stop hz (by rw [← hc]; exact h0) _ hlt, hc])
      refine ⟨⟨by omega, by omega⟩, trivial, ?_⟩
      repeat (first | (refine And.intro (fun h _ => h) ?_) | (refine And.intro (fun _ h => h) ?_) | (refine And.intro ?aa ?_; case aa => (exact (tqI _))) | (refine And.intro ?aa ?_; case aa => (exact (fun _ => trivial))) | (refine And.intro ?aa ?_; case aa => (exact (fun _ => ⟨VLe.refl _, hbd⟩))) | (refine And.intro ?aa ?_; case aa => (intros; simp_all [pr80, pr81, pr82, pr83, pr56, pr84, pr85]; done)) | (refine And.intro ?aa ?_; case aa => (intros; exact inK64 (by omega))) | (refine And.intro ?aa ?_; case aa => (intros; simp only [decide_eq_true_eq] at *; omega)) | (intro q hq))
      rename_i q1 hq1
      have e0 : q = decide (¬ (inR (atMk s.marks i).client 1 9 ∧ inR (atMk s.marks i).number 1 99 ∧ replyOk (atMk s.marks i).reply)) := by
        rw [hq, hq1, Bool.eq_iff_iff, decide_eq_true_eq]
        by_cases a1 : inR (atMk s.marks i).client 1 9 <;> by_cases a2 : inR (atMk s.marks i).number 1 99 <;> by_cases a3 : replyOk (atMk s.marks i).reply <;> simp only [a1, a2, a3, decide_true, decide_false, Bool.not_true, Bool.not_false, cond_true, cond_false, and_true, true_and, and_false, false_and, not_true_eq_false, not_false_eq_true, Bool.false_eq_true]
      clear hq hq1
      rw [e0]
      refine ⟨fun h5 => stop _ (by unfold markE; rw [if_pos (of_decide_eq_true h5)]) (by decide), fun h5 => ?_⟩
      have e2 : markE s.marks i = if 0 ≤ mkAt (s.marks.take i) (atMk s.marks i).client (atMk s.marks i).number then 6 else 0 := if_neg (of_decide_eq_false h5)
      clear e0
      simp only [Option.getD_some, Option.getD_none, Int.toNat_natCast, Nat.sub_zero, decL_take (dec_encTMark 1) 1 s.marks i hi]
      refine ⟨⟨by omega, by omega, by omega⟩, fun k hk => ⟨rfl, rfl⟩, ⟨vle_take hi, by show (s.marks.take i).length ≤ maxLen; rw [List.length_take]; unfold maxLen; omega⟩, fun h6 => ?_, fun h6 => ⟨inK64 (by omega), i + 1, SLe.refl _, ⟨by omega, ?_⟩, by omega⟩⟩
      · exact stop _ (by rw [e2, if_pos (of_decide_eq_true h6)]) (by decide)
      · exact scanE_next hz (by rw [e2, if_neg (of_decide_eq_false h6)])
    · have hge : i = s.marks.length := by have := of_decide_eq_false h2; omega
      exact vle_int (by unfold stateF; rw [if_neg c1, if_neg c2, if_neg (not_not_intro c3), if_neg c4, ← hge, hz])
  exact Eq.mp (by kernel_rfl) key
theorem so38 : Sound Tryd.prog 38 sp38 := by
  refine sound_of_body hmix (pol := 0) Tryd.func38 rfl (by kernel_rfl) fun args bin ob r bout hDe hob => ?_
  unfold sp38 at hDe
  split at hDe
  · rename_i a0
    cases hDe
    exact ⟨rfl, rfl, Nat.le_of_ble_eq_true (by kernel_rfl), cx38 (decTState a0), Eq.mp (by kernel_rfl) htt, Eq.mp (by kernel_rfl) da38, Eq.mp (by kernel_rfl) (noM_sound (P := Tryd.prog)), by kernel_rfl, [encTState 1 ((decTState a0))], args_of_vles (⟨hob.1, trivial⟩), Eq.mp (by kernel_rfl) (bd38 (decTState a0) (hob.2))⟩
  · cases hDe

/-! ### spec.l6Fault -/
def pr77 (s : TState) : Prop := s.bd
noncomputable def rs77 (s : TState) : V := .int .i64 (stateF s)
noncomputable def sp77 : FSpec := fun args bin => match args, bin with
  | [a0], [] => some (VLe a0 (encPTState 1 ((decPTState a0))) ∧ pr77 (decPTState a0), rs77 (decPTState a0), [])
  | _, _ => none
noncomputable def in77_12 (s : TState) : LoopInv :=
  ⟨Nat, fun i => ⟨[(0, encPTState 1 s), (5, .int .i64 i)], []⟩,
    fun i => i ≤ s.marks.length ∧ scanE (markE s.marks) i = 0, fun i => s.marks.length - i⟩
noncomputable def iv77 (s : TState) : Nat → Option LoopInv := fun rg_ => match rg_ with
  | 12 => some (in77_12 s)
  | _ => none
noncomputable def D77 : Nat → Option (Bool × FSpec) := lk [(67, (false, sp67)), (108, (false, sp108)), (109, (false, sp109)), (52, (false, sp52)), (54, (false, sp54)), (110, (false, sp110)), (88, (false, sp88))]
theorem da77 : SoundAll Tryd.prog D77 := soundAll_cons so67 (soundAll_cons so108 (soundAll_cons so109 (soundAll_cons so52 (soundAll_cons so54 (soundAll_cons so110 (soundAll_cons so88 (soundAll_nil)))))))
noncomputable def cx77 (s : TState) : Cx := ⟨tt, D77, Tryd.f77.ntmps, [0, 2, 3, 4, 5, 6, 13, 21, 28, 34, 41, 70, 82], [(12, ⟨[(0, none), (5, none)], []⟩)], [], iv77 s, [], noM, []⟩
theorem bd77 (s : TState) (hpre : pr77 s) : bodyP (cx77 s) Tryd.f77 0 [encPTState 1 (s)] (fun rr => VLe rr (rs77 s)) := by
  have key :
      (((VLe (encL (encZnode 1) 1 (TState.nodes s))
   (encL (encZnode 1) 1 (decL decZnode (encL (encZnode 1) 1 (TState.nodes s))))) ∧
   (pr67 (decL decZnode (encL (encZnode 1) 1 (TState.nodes s))))) ∧
   ((((treeF (decL decZnode (encL (encZnode 1) 1 (TState.nodes s))) != (0 : Int)) = true) →
   (VLe (V.int IntKind.i64 (treeF (decL decZnode (encL (encZnode 1) 1 (TState.nodes s)))))
   (V.int IntKind.i64 (stateF s)))) ∧
   (((treeF (decL decZnode (encL (encZnode 1) 1 (TState.nodes s))) != (0 : Int)) = false) →
   (((VLe (encL (encSession 1) 1 (TState.sessions s))
   (encL (encSession 1) 1 (decL decSession (encL (encSession 1) 1 (TState.sessions s))))) ∧
   (pr108 (decL decSession (encL (encSession 1) 1 (TState.sessions s))))) ∧
   ((((sessF (decL decSession (encL (encSession 1) 1 (TState.sessions s))) != (0 : Int)) = true) →
   (VLe (V.int IntKind.i64 (sessF (decL decSession (encL (encSession 1) 1 (TState.sessions s)))))
   (V.int IntKind.i64 (stateF s)))) ∧
   (((sessF (decL decSession (encL (encSession 1) 1 (TState.sessions s))) != (0 : Int)) = false) →
   ((pr109 (TState.now s)) ∧
   ((((!decide (inR (TState.now s) (0 : Int) (9000 : Int))) = true) →
   (VLe (V.int IntKind.i64 (3 : Int)) (V.int IntKind.i64 (stateF s)))) ∧
   (((!decide (inR (TState.now s) (0 : Int) (9000 : Int))) = false) →
   (((decide ((↑(List.length (TState.marks s)) : Int) > (40 : Int)) = true) →
   (VLe (V.int IntKind.i64 (2 : Int)) (V.int IntKind.i64 (stateF s)))) ∧
   ((decide ((↑(List.length (TState.marks s)) : Int) > (40 : Int)) = false) →
   ((∃ x : Nat, ((SLe (AS.mk [(0, encPTState 1 s), (5, V.int IntKind.i64 (0 : Int))] [])
   (AS.mk [(0, encPTState 1 s), (5, V.int IntKind.i64 (↑x : Int))] [])) ∧
   ((x ≤ List.length (TState.marks s)) ∧
   (scanE (markE (TState.marks s)) x = (0 : Int))))) ∧
   (∀ x : Nat,
   (((x ≤ List.length (TState.marks s)) ∧
   (scanE (markE (TState.marks s)) x = (0 : Int))) →
   (((decide ((↑x : Int) < (↑(List.length (TState.marks s)) : Int)) = true) →
   ((((0 : Int) ≤ (↑x : Int)) ∧
   ((↑x : Int) < (↑(List.length (TState.marks s)) : Int))) ∧
   ((pr52 (TMark.client (List.getD (TState.marks s) (Int.toNat (↑x : Int)) default))) ∧
   ((tq (!!decide (inR (TMark.client (List.getD (TState.marks s) (Int.toNat (↑x : Int)) default)) (1 : Int) (9 : Int)))) ∧
   ((tq (!!decide (inR (TMark.client (List.getD (TState.marks s) (Int.toNat (↑x : Int)) default)) (1 : Int) (9 : Int)))) ∧
   ((tq (!!decide (inR (TMark.client (List.getD (TState.marks s) (Int.toNat (↑x : Int)) default)) (1 : Int) (9 : Int)))) ∧
   ((tq (!!decide (inR (TMark.client (List.getD (TState.marks s) (Int.toNat (↑x : Int)) default)) (1 : Int) (9 : Int)))) ∧
   ((((!!decide (inR (TMark.client (List.getD (TState.marks s) (Int.toNat (↑x : Int)) default)) (1 : Int) (9 : Int))) = true) →
   (pr54 (TMark.number (List.getD (TState.marks s) (Int.toNat (↑x : Int)) default)) (1 : Int) (99 : Int))) ∧
   ((tq (!!decide (inR (TMark.client (List.getD (TState.marks s) (Int.toNat (↑x : Int)) default)) (1 : Int) (9 : Int)))) ∧
   (((true = true) →
   (((!decide (inR (TMark.client (List.getD (TState.marks s) (Int.toNat (↑x : Int)) default)) (1 : Int) (9 : Int))) = false) →
   ((!!decide (inR (TMark.client (List.getD (TState.marks s) (Int.toNat (↑x : Int)) default)) (1 : Int) (9 : Int))) = true))) ∧
   (∀ b : Bool,
   ((b =
   bif !decide (inR (TMark.client (List.getD (TState.marks s) (Int.toNat (↑x : Int)) default)) (1 : Int) (9 : Int)) then
   true
   else !decide (inR (TMark.number (List.getD (TState.marks s) (Int.toNat (↑x : Int)) default)) (1 : Int) (99 : Int))) →
   ((tq (!b)) ∧
   ((tq (!b)) ∧
   ((tq (!b)) ∧
   ((((!b) = true) →
   ((VLe
   (V.ptr
   [V.int IntKind.i64 (TMark.client (List.getD (TState.marks s) (Int.toNat (↑x : Int)) default)),
   V.int IntKind.i64 (TMark.number (List.getD (TState.marks s) (Int.toNat (↑x : Int)) default)),
   V.int IntKind.i64 (Reply.code (TMark.reply (List.getD (TState.marks s) (Int.toNat (↑x : Int)) default))),
   V.int IntKind.i64 (Reply.value (TMark.reply (List.getD (TState.marks s) (Int.toNat (↑x : Int)) default))),
   V.str (Reply.path (TMark.reply (List.getD (TState.marks s) (Int.toNat (↑x : Int)) default)))]
   2 1)
   (encPReplyIn 1
   (decPReplyIn
   (V.ptr
   [V.int IntKind.i64 (TMark.client (List.getD (TState.marks s) (Int.toNat (↑x : Int)) default)),
   V.int IntKind.i64 (TMark.number (List.getD (TState.marks s) (Int.toNat (↑x : Int)) default)),
   V.int IntKind.i64 (Reply.code (TMark.reply (List.getD (TState.marks s) (Int.toNat (↑x : Int)) default))),
   V.int IntKind.i64 (Reply.value (TMark.reply (List.getD (TState.marks s) (Int.toNat (↑x : Int)) default))),
   V.str (Reply.path (TMark.reply (List.getD (TState.marks s) (Int.toNat (↑x : Int)) default)))]
   2 1)))) ∧
   (pr110
   (decPReplyIn
   (V.ptr
   [V.int IntKind.i64 (TMark.client (List.getD (TState.marks s) (Int.toNat (↑x : Int)) default)),
   V.int IntKind.i64 (TMark.number (List.getD (TState.marks s) (Int.toNat (↑x : Int)) default)),
   V.int IntKind.i64 (Reply.code (TMark.reply (List.getD (TState.marks s) (Int.toNat (↑x : Int)) default))),
   V.int IntKind.i64 (Reply.value (TMark.reply (List.getD (TState.marks s) (Int.toNat (↑x : Int)) default))),
   V.str (Reply.path (TMark.reply (List.getD (TState.marks s) (Int.toNat (↑x : Int)) default)))]
   2 1))))) ∧
   ((tq (!b)) ∧
   (((true = true) →
   ((b = false) →
   ((!b) = true))) ∧
   (∀ b_1 : Bool,
   ((b_1 =
   bif b then true
   else
   !decide
   (replyOk
   (TMark.reply
   (decPReplyIn
   (V.ptr
   [V.int IntKind.i64 (TMark.client (List.getD (TState.marks s) (Int.toNat (↑x : Int)) default)),
   V.int IntKind.i64 (TMark.number (List.getD (TState.marks s) (Int.toNat (↑x : Int)) default)),
   V.int IntKind.i64
   (Reply.code (TMark.reply (List.getD (TState.marks s) (Int.toNat (↑x : Int)) default))),
   V.int IntKind.i64
   (Reply.value (TMark.reply (List.getD (TState.marks s) (Int.toNat (↑x : Int)) default))),
   V.str (Reply.path (TMark.reply (List.getD (TState.marks s) (Int.toNat (↑x : Int)) default)))]
   2 1))))) →
   (((b_1 = true) →
   (VLe (V.int IntKind.i64 (3 : Int)) (V.int IntKind.i64 (stateF s)))) ∧
   ((b_1 = false) →
   (((VLe (encPTState 1 s) (encPTState 1 (decPTState (encPTState 1 s)))) ∧
   (pr88 (decPTState (encPTState 1 s)) (TMark.client (List.getD (TState.marks s) (Int.toNat (↑x : Int)) default))
   (TMark.number (List.getD (TState.marks s) (Int.toNat (↑x : Int)) default)))) ∧
   ((((mkAt (TState.marks (decPTState (encPTState 1 s)))
   (TMark.client (List.getD (TState.marks s) (Int.toNat (↑x : Int)) default))
   (TMark.number (List.getD (TState.marks s) (Int.toNat (↑x : Int)) default)) !=
   (↑x : Int)) =
   true) →
   (VLe (V.int IntKind.i64 (6 : Int)) (V.int IntKind.i64 (stateF s)))) ∧
   (((mkAt (TState.marks (decPTState (encPTState 1 s)))
   (TMark.client (List.getD (TState.marks s) (Int.toNat (↑x : Int)) default))
   (TMark.number (List.getD (TState.marks s) (Int.toNat (↑x : Int)) default)) !=
   (↑x : Int)) =
   false) →
   ((inK IntKind.i64 ((↑x : Int) + (1 : Int))) ∧
   (∃ y : Nat, ((SLe (AS.mk [(0, encPTState 1 s), (5, V.int IntKind.i64 ((↑x : Int) + (1 : Int)))] [])
   (AS.mk [(0, encPTState 1 s), (5, V.int IntKind.i64 (↑y : Int))] [])) ∧
   (((y ≤ List.length (TState.marks s)) ∧
   (scanE (markE (TState.marks s)) y = (0 : Int))) ∧
   (List.length (TState.marks s) - y < List.length (TState.marks s) - x)))))))))))))))))))))))))))))) ∧
   ((decide ((↑x : Int) < (↑(List.length (TState.marks s)) : Int)) = false) →
   (VLe (V.int IntKind.i64 (0 : Int)) (V.int IntKind.i64 (stateF s))))))))))))))))))) := by
    obtain ⟨⟨hn, hnb⟩, hs, hk, hkb⟩ := hpre
    have hk' := hk
    unfold maxLen at hk'
    simp only [decL_Znode, decL_Session, dec_encReply, dec_encPTState, replyIn_eq]
    refine ⟨⟨VLe.refl _, hn⟩, fun h => vle_int (by unfold stateF; rw [if_pos (ne_of_bne h)]), fun h => ?_⟩
    have c1 := not_ne_of_bne h
    refine ⟨⟨VLe.refl _, hs⟩, fun h => vle_int (by unfold stateF; rw [if_neg c1, if_pos (ne_of_bne h)]), fun h => ?_⟩
    have c2 := not_ne_of_bne h
    refine ⟨trivial, fun h => ?_, fun h => ?_⟩
    · have c3 : ¬ inR s.now 0 9000 := by simpa using h
      exact vle_int (by unfold stateF; rw [if_neg c1, if_neg c2, if_pos c3])
    have c3 : inR s.now 0 9000 := by simpa using h
    refine ⟨fun h => ?_, fun h => ?_⟩
    · have c4 : 40 < s.marks.length := by have := of_decide_eq_true h; omega
      exact vle_int (by unfold stateF; rw [if_neg c1, if_neg c2, if_neg (not_not_intro c3), if_pos c4])
    have c4 : ¬ 40 < s.marks.length := by have := of_decide_eq_false h; omega
    refine ⟨⟨0, SLe.refl _, by omega, rfl⟩, ?_⟩
    rintro i ⟨hi, hz⟩
    refine ⟨fun h2 => ?_, fun h2 => ?_⟩
    · have hlt : i < s.marks.length := by have := of_decide_eq_true h2; omega
      have hbd : (s.marks.getD i default).bd := hkb _ (by simp [hlt])
      simp only [Int.toNat_natCast]
      have stop : ∀ c, c = markE s.marks i → c ≠ 0 → VLe (.int .i64 c) (.int .i64 (stateF s)) := fun c hc h0 => vle_int (by
        unfold stateF
        rw [if_neg c1, if_neg c2, if_neg (not_not_intro c3), if_neg c4, scanE_stop hz (by rw [← hc]; exact h0) _ hlt, hc])
      refine ⟨⟨by omega, by omega⟩, trivial, ?_⟩
      repeat (first | (refine And.intro (fun h _ => h) ?_) | (refine And.intro (fun _ h => h) ?_) | (refine And.intro ?aa ?_; case aa => (exact (tqI _))) | (refine And.intro ?aa ?_; case aa => (exact (fun _ => trivial))) | (refine And.intro ?aa ?_; case aa => (exact (fun _ => ⟨VLe.refl _, hbd⟩))) | (refine And.intro ?aa ?_; case aa => (intros; simp_all [pr67, pr108, pr109, pr52, pr54, pr110, pr88]; done)) | (refine And.intro ?aa ?_; case aa => (intros; exact inK64 (by omega))) | (refine And.intro ?aa ?_; case aa => (intros; simp only [decide_eq_true_eq] at *; omega)) | (intro q hq))
      rename_i q1 hq1
      have e0 : q = decide (¬ (inR (atMk s.marks i).client 1 9 ∧ inR (atMk s.marks i).number 1 99 ∧ replyOk (atMk s.marks i).reply)) := by
        rw [hq, hq1, Bool.eq_iff_iff, decide_eq_true_eq]
        by_cases a1 : inR (atMk s.marks i).client 1 9 <;> by_cases a2 : inR (atMk s.marks i).number 1 99 <;> by_cases a3 : replyOk (atMk s.marks i).reply <;> simp only [a1, a2, a3, decide_true, decide_false, Bool.not_true, Bool.not_false, cond_true, cond_false, and_true, true_and, and_false, false_and, not_true_eq_false, not_false_eq_true, Bool.false_eq_true]
      clear hq hq1
      rw [e0]
      refine ⟨fun h5 => stop _ (by unfold markE; rw [if_pos (of_decide_eq_true h5)]) (by decide), fun h5 => ?_⟩
      have e2 : markE s.marks i = if 0 ≤ mkAt (s.marks.take i) (atMk s.marks i).client (atMk s.marks i).number then 6 else 0 := if_neg (of_decide_eq_false h5)
      clear e0
      have hm := mkAt_take hlt
      refine ⟨⟨VLe.refl _, hk⟩, fun h6 => ?_, fun h6 => ⟨inK64 (by omega), i + 1, SLe.refl _, ⟨by omega, ?_⟩, by omega⟩⟩
      · exact stop _ (by rw [e2, if_pos (Classical.byContradiction fun g => ne_of_bne h6 (hm.2 g))]) (by decide)
      · exact scanE_next hz (by rw [e2, if_neg (hm.1 (Classical.not_not.1 (not_ne_of_bne h6)))])
    · have hge : i = s.marks.length := by have := of_decide_eq_false h2; omega
      exact vle_int (by unfold stateF; rw [if_neg c1, if_neg c2, if_neg (not_not_intro c3), if_neg c4, ← hge, hz])
  exact Eq.mp (by kernel_rfl) key
theorem so77 : Sound Tryd.prog 77 sp77 := by
  refine sound_of_body hmix (pol := 0) Tryd.func77 rfl (by kernel_rfl) fun args bin ob r bout hDe hob => ?_
  unfold sp77 at hDe
  split at hDe
  · rename_i a0
    cases hDe
    exact ⟨rfl, rfl, Nat.le_of_ble_eq_true (by kernel_rfl), cx77 (decPTState a0), Eq.mp (by kernel_rfl) htt, Eq.mp (by kernel_rfl) da77, Eq.mp (by kernel_rfl) (noM_sound (P := Tryd.prog)), by kernel_rfl, [encPTState 1 ((decPTState a0))], args_of_vles (⟨hob.1, trivial⟩), Eq.mp (by kernel_rfl) (bd77 (decPTState a0) (hob.2))⟩
  · cases hDe

/-! ### spec.StateFault -/
def pr36 (s : TState) : Prop := s.bd
noncomputable def rs36 (s : TState) : V := .int .i64 (stateF s)
noncomputable def sp36 : FSpec := fun args bin => match args, bin with
  | [a0], [] => some (VLe a0 (encTState 1 ((decTState a0))) ∧ pr36 (decTState a0), rs36 (decTState a0), [])
  | _, _ => none
noncomputable def D36 : Nat → Option (Bool × FSpec) := lk [(77, (false, sp77))]
theorem da36 : SoundAll Tryd.prog D36 := soundAll_cons so77 (soundAll_nil)
noncomputable def cx36 (s : TState) : Cx := ⟨tt, D36, Tryd.f36.ntmps, [0, 1, 2], [], [], fun _ => none, [], noM, []⟩
theorem bd36 (s : TState) (hpre : pr36 s) : bodyP (cx36 s) Tryd.f36 0 [encTState 1 (s)] (fun rr => VLe rr (rs36 s)) := by
  have key :
      (((VLe (encPTState 1 s) (encPTState 1 (decPTState (encPTState 1 s)))) ∧
   (pr77 (decPTState (encPTState 1 s)))) ∧
   (VLe (V.int IntKind.i64 (stateF (decPTState (encPTState 1 s)))) (V.int IntKind.i64 (stateF s)))) := by
    simp only [dec_encPTState]
    exact ⟨⟨VLe.refl _, hpre⟩, VLe.refl _⟩
  exact Eq.mp (by kernel_rfl) key
theorem so36 : Sound Tryd.prog 36 sp36 := by
  refine sound_of_body hmix (pol := 0) Tryd.func36 rfl (by kernel_rfl) fun args bin ob r bout hDe hob => ?_
  unfold sp36 at hDe
  split at hDe
  · rename_i a0
    cases hDe
    exact ⟨rfl, rfl, Nat.le_of_ble_eq_true (by kernel_rfl), cx36 (decTState a0), Eq.mp (by kernel_rfl) htt, Eq.mp (by kernel_rfl) da36, Eq.mp (by kernel_rfl) (noM_sound (P := Tryd.prog)), by kernel_rfl, [encTState 1 ((decTState a0))], args_of_vles (⟨hob.1, trivial⟩), Eq.mp (by kernel_rfl) (bd36 (decTState a0) (hob.2))⟩
  · cases hDe

end Go.Av
