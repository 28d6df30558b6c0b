/- Marks on a result that holds a message. -/
import Derived.Test.YtnfelcpanphhlaaGreatK2
namespace Go.Av
open Go.Proofs
set_option maxRecDepth 100000
set_option linter.unusedVariables false
set_option linter.unusedSimpArgs false

/-- A message with such lists, marked; what is told of one that is held against its marks. -/
noncomputable def heldM (m : Msg) (k : Int) : Int :=
  if m.certs = markC k m.certs.length ∧ m.refs = markI (k + 3 * m.certs.length) m.refs.length then k + 3 * m.certs.length + m.refs.length else -1
theorem heldM_cases (m : Msg) (k : Int) : heldM m k = k + 3 * m.certs.length + m.refs.length ∨ heldM m k = -1 := by unfold heldM; split <;> simp


/-! ### laws.markMsgResult -/
noncomputable def D40 : Nat → Option (Bool × FSpec) := lk [(86, (true, sp86))]
theorem da40 : SoundAll Tryz.prog D40 := soundAll_cons so86 (soundAll_nil)
noncomputable def cx40 (c0 : Int) (c1 : Int) (c2 : Int) (c3 : Int) (c4 : Int) (c5 : Int) (y0 : List Cert) (y1 : List Int) (k : Int) : Cx := ⟨tt, D40, Tryz.f40.ntmps, [0, 1, 2, 4], [], [], fun _ => none, [], noM, []⟩
def pr40 (n0 : Nat) (n1 : Nat) (k : Int) : Prop := 0 ≤ k ∧ k + 3 * n0 + n1 ≤ 4611686018427387904
theorem bd40 (c0 : Int) (c1 : Int) (c2 : Int) (c3 : Int) (c4 : Int) (c5 : Int) (y0 : List Cert) (y1 : List Int) (k : Int) (hpre : pr40 y0.length y1.length k) : bodyO (cx40 c0 c1 c2 c3 c4 c5 y0 y1 k) Tryz.f40 [] [.agg [.int .i64 (c0), .int .i64 (c1), .int .i64 (c2), .int .i64 (c3), .int .i64 (c4), .int .i64 (c5), .osl 0 y0.length, .osl 1 y1.length], .int .i64 k] [.arr 3 y0.length (gL (encCert 1) y0) tagS, .arr 1 y1.length (gL encI y1) tagS] (fun rr bs => VLe rr (.int .i64 (k + 3 * (y0.length : Int) + (y1.length : Int))) ∧ BinLe bs [.arr 3 y0.length (gL (encCert 1) (markC k y0.length)) tagS, .arr 1 y1.length (gL encI (markI (k + 3 * y0.length) y1.length)) tagS]) := by
  have key :
      ((((0 = 0) ∧
   ((3 = 3) ∧
   ((100 = 100) ∧
   ((List.length y0 = List.length y0) ∧
   (∃ y : List Cert, ((List.length y = List.length y0) ∧
   (∀ i : Nat,
   ((i < List.length y0) →
   (ELe (encCert 1 (List.getD y0 i default)) (encCert 1 (List.getD y i default))))))))))) ∧
   (((1 = 1) ∧
   ((1 = 1) ∧
   ((100 = 100) ∧
   ((List.length y1 = List.length y1) ∧
   (∃ y : List Int, ((List.length y = List.length y1) ∧
   (∀ i : Nat,
   ((i < List.length y1) →
   (ELe (V.int IntKind.i64 (List.getD y1 i default)) (V.int IntKind.i64 (List.getD y i default))))))))))) ∧
   (pr86 (List.length y0) (List.length y1) k))) ∧
   ((List.length y0 = List.length y0) ∧
   ((List.length y1 = List.length y1) ∧
   ((VLe (V.int IntKind.i64 (k + (3 : Int) * (↑(List.length y0) : Int) + (↑(List.length y1) : Int)))
   (V.int IntKind.i64 (k + (3 : Int) * (↑(List.length y0) : Int) + (↑(List.length y1) : Int)))) ∧
   ((BLe (Blk.arr 3 (List.length y0) (gL (encCert 1) (markC k (List.length y0))) 100)
   (Blk.arr 3 (List.length y0) (gL (encCert 1) (markC k (List.length y0))) 100)) ∧
   ((BLe
   (Blk.arr 1 (List.length y1) (gL encI (markI (k + (3 : Int) * (↑(List.length y0) : Int)) (List.length y1)))
   100)
   (Blk.arr 1 (List.length y1) (gL encI (markI (k + (3 : Int) * (↑(List.length y0) : Int)) (List.length y1)))
   100)) ∧
   (True))))))) := by
    unfold pr40 at hpre
    exact ⟨⟨⟨rfl, rfl, rfl, rfl, y0, rfl, fun _ _ => ELe.refl _⟩, ⟨rfl, rfl, rfl, rfl, y1, rfl, fun _ _ => ELe.refl _⟩, hpre⟩, rfl, rfl, VLe.refl _, BLe.refl _, BLe.refl _, trivial⟩
  exact Eq.mp (by kernel_rfl) key
noncomputable def sp40 : FSpec := fun args bin => match args, bin with
  | [.agg [.int .i64 (c0), .int .i64 (c1), .int .i64 (c2), .int .i64 (c3), .int .i64 (c4), .int .i64 (c5), .osl i0 m0, .osl i1 m1], .int .i64 k], [.arr s0 p0 g0 t0, .arr s1 p1 g1 t1] => some ((i0 = 0 ∧ s0 = 3 ∧ t0 = tagS ∧ p0 = m0 ∧ ∃ y : List Cert, y.length = m0 ∧ ∀ i, i < m0 → ELe (g0 i) (gL (encCert 1) y i)) ∧ (i1 = 1 ∧ s1 = 1 ∧ t1 = tagS ∧ p1 = m1 ∧ ∃ y : List Int, y.length = m1 ∧ ∀ i, i < m1 → ELe (g1 i) (gL encI y i)) ∧ pr40 m0 m1 k, .int .i64 (k + 3 * (m0 : Int) + (m1 : Int)), [.arr 3 m0 (gL (encCert 1) (markC k m0)) tagS, .arr 1 m1 (gL encI (markI (k + 3 * m0) m1)) tagS])
  | _, _ => none
theorem so40 : Sound Tryz.prog 40 sp40 := by
  refine sound_of_bodyO hmix (tpl := []) Tryz.func40 rfl (by kernel_rfl) fun args bin ob r bout hDe hob => ?_
  unfold sp40 at hDe
  split at hDe
  · rename_i c0 c1 c2 c3 c4 c5 i0 m0 i1 m1 k s0 p0 g0 t0 s1 p1 g1 t1
    cases hDe
    obtain ⟨⟨rfl, rfl, rfl, rfl, y0, rfl, h0⟩, ⟨rfl, rfl, rfl, rfl, y1, rfl, h1⟩, hpre⟩ := hob
    exact ⟨Nat.le_of_ble_eq_true (by kernel_rfl), cx40 c0 c1 c2 c3 c4 c5 y0 y1 k, Eq.mp (by kernel_rfl) htt, Eq.mp (by kernel_rfl) da40, Eq.mp (by kernel_rfl) (noM_sound (P := Tryz.prog)), by kernel_rfl, _, [.arr 3 y0.length (gL (encCert 1) y0) tagS, .arr 1 y1.length (gL encI y1) tagS], ArgsLe.refl _, ⟨ble_arr h0 (Or.inl rfl), ble_arr h1 (Or.inl rfl), trivial⟩, Eq.mp (by kernel_rfl) (bd40 c0 c1 c2 c3 c4 c5 y0 y1 k hpre)⟩
  · cases hDe

/-! ### laws.heldMsg -/
def pr87 (a : Msg) (k : Int) : Prop := 0 ≤ k ∧ k + 3 * a.certs.length + a.refs.length ≤ 4611686018427387904
noncomputable def rs87 (a : Msg) (k : Int) : V := .int .i64 (heldM a k)
noncomputable def sp87 : FSpec := fun args bin => match args, bin with
  | [a0, .int .i64 a1], [] => some (VLe a0 (encMsg 1 ((decMsg a0))) ∧ pr87 (decMsg a0) a1, rs87 (decMsg a0) a1, [])
  | _, _ => none
noncomputable def D87 : Nat → Option (Bool × FSpec) := lk [(126, (false, sp126)), (127, (false, sp127))]
theorem da87 : SoundAll Tryz.prog D87 := soundAll_cons so126 (soundAll_cons so127 (soundAll_nil))
noncomputable def cx87 (a : Msg) (k : Int) : Cx := ⟨tt, D87, Tryz.f87.ntmps, [0, 1, 2, 4, 10, 16], [], [], fun _ => none, [], noM, []⟩
theorem bd87 (a : Msg) (k : Int) (hpre : pr87 a k) : bodyP (cx87 a k) Tryz.f87 0 [encMsg 1 (a), .int .i64 (k)] (fun rr => VLe rr (rs87 a k)) := by
  have key :
      (((VLe (encL (encCert 1) 1 (Msg.certs a))
   (encL (encCert 1) 1 (decL decCert (encL (encCert 1) 1 (Msg.certs a))))) ∧
   (pr126 (decL decCert (encL (encCert 1) 1 (Msg.certs a))) k)) ∧
   (((decide (heldC (decL decCert (encL (encCert 1) 1 (Msg.certs a))) k < (0 : Int)) = true) →
   (VLe (V.int IntKind.i64 (-1 : Int)) (V.int IntKind.i64 (heldM a k)))) ∧
   ((decide (heldC (decL decCert (encL (encCert 1) 1 (Msg.certs a))) k < (0 : Int)) = false) →
   (((VLe (encL encI 1 (Msg.refs a)) (encL encI 1 (decL decI (encL encI 1 (Msg.refs a))))) ∧
   (pr127 (decL decI (encL encI 1 (Msg.refs a)))
   (heldC (decL decCert (encL (encCert 1) 1 (Msg.certs a))) k))) ∧
   (((decide
   (heldI (decL decI (encL encI 1 (Msg.refs a)))
   (heldC (decL decCert (encL (encCert 1) 1 (Msg.certs a))) k) <
   (0 : Int)) =
   true) →
   (VLe (V.int IntKind.i64 (-1 : Int)) (V.int IntKind.i64 (heldM a k)))) ∧
   ((decide
   (heldI (decL decI (encL encI 1 (Msg.refs a)))
   (heldC (decL decCert (encL (encCert 1) 1 (Msg.certs a))) k) <
   (0 : Int)) =
   false) →
   (VLe
   (V.int IntKind.i64
   (heldI (decL decI (encL encI 1 (Msg.refs a)))
   (heldC (decL decCert (encL (encCert 1) 1 (Msg.certs a))) k)))
   (V.int IntKind.i64 (heldM a k))))))))) := by
    have hc := heldC_cases a.certs k
    unfold pr87 at hpre
    simp only [decL_Cert, decL_ints]
    refine ⟨⟨VLe.refl _, by show 0 ≤ k ∧ _; omega⟩, fun h => vle_int ?_, fun h => ?_⟩
    · have h1 : heldC a.certs k < 0 := by simpa using h
      have h2 : ¬ a.certs = markC k a.certs.length := fun e => by
        unfold heldC at h1
        rw [if_pos e] at h1
        omega
      unfold heldM
      rw [if_neg fun g => h2 g.1]
    have h1 : ¬ heldC a.certs k < 0 := by simpa using h
    have h2 : a.certs = markC k a.certs.length := Classical.byContradiction fun e => by
      unfold heldC at h1
      rw [if_neg e] at h1
      omega
    have h3 : heldC a.certs k = k + 3 * a.certs.length := by omega
    rw [h3]
    have hi := heldI_cases a.refs (k + 3 * a.certs.length)
    refine ⟨⟨VLe.refl _, by show 0 ≤ k + 3 * (a.certs.length : Int) ∧ _; omega⟩, fun h => vle_int ?_, fun h => vle_int ?_⟩
    · have h4 : heldI a.refs (k + 3 * a.certs.length) < 0 := by simpa using h
      have h5 : ¬ a.refs = markI (k + 3 * a.certs.length) a.refs.length := fun e => by
        unfold heldI at h4
        rw [if_pos e] at h4
        omega
      unfold heldM
      rw [if_neg fun g => h5 g.2]
    · have h4 : ¬ heldI a.refs (k + 3 * a.certs.length) < 0 := by simpa using h
      have h5 : a.refs = markI (k + 3 * a.certs.length) a.refs.length := Classical.byContradiction fun e => by
        unfold heldI at h4
        rw [if_neg e] at h4
        omega
      unfold heldM
      rw [if_pos ⟨h2, h5⟩]
      omega
  exact Eq.mp (by kernel_rfl) key
theorem so87 : Sound Tryz.prog 87 sp87 := by
  refine sound_of_body hmix (pol := 0) Tryz.func87 rfl (by kernel_rfl) fun args bin ob r bout hDe hob => ?_
  unfold sp87 at hDe
  split at hDe
  · rename_i a0 a1
    cases hDe
    exact ⟨rfl, rfl, Nat.le_of_ble_eq_true (by kernel_rfl), cx87 (decMsg a0) a1, Eq.mp (by kernel_rfl) htt, Eq.mp (by kernel_rfl) da87, Eq.mp (by kernel_rfl) (noM_sound (P := Tryz.prog)), by kernel_rfl, [encMsg 1 ((decMsg a0)), .int .i64 (a1)], args_of_vles (⟨hob.1, VLe.refl _, trivial⟩), Eq.mp (by kernel_rfl) (bd87 (decMsg a0) a1 (hob.2))⟩
  · cases hDe

/-! ### laws.heldMsgResult -/
def pr41 (a : MsgResult) (k : Int) : Prop := 0 ≤ k ∧ k + 3 * a.msg.certs.length + a.msg.refs.length ≤ 4611686018427387904
noncomputable def rs41 (a : MsgResult) (k : Int) : V := .int .i64 (heldM a.msg k)
noncomputable def sp41 : FSpec := fun args bin => match args, bin with
  | [a0, .int .i64 a1], [] => some (VLe a0 (encMsgResult 1 ((decMsgResult a0))) ∧ pr41 (decMsgResult a0) a1, rs41 (decMsgResult a0) a1, [])
  | _, _ => none
noncomputable def D41 : Nat → Option (Bool × FSpec) := lk [(87, (false, sp87))]
theorem da41 : SoundAll Tryz.prog D41 := soundAll_cons so87 (soundAll_nil)
noncomputable def cx41 (a : MsgResult) (k : Int) : Cx := ⟨tt, D41, Tryz.f41.ntmps, [0, 1, 2, 4, 10], [], [], fun _ => none, [], noM, []⟩
theorem bd41 (a : MsgResult) (k : Int) (hpre : pr41 a k) : bodyP (cx41 a k) Tryz.f41 0 [encMsgResult 1 (a), .int .i64 (k)] (fun rr => VLe rr (rs41 a k)) := by
  have key :
      (((VLe (encMsg 1 (MsgResult.msg a)) (encMsg 1 (decMsg (encMsg 1 (MsgResult.msg a))))) ∧
   (pr87 (decMsg (encMsg 1 (MsgResult.msg a))) k)) ∧
   (((decide (heldM (decMsg (encMsg 1 (MsgResult.msg a))) k < (0 : Int)) = true) →
   (VLe (V.int IntKind.i64 (-1 : Int)) (V.int IntKind.i64 (heldM (MsgResult.msg a) k)))) ∧
   ((decide (heldM (decMsg (encMsg 1 (MsgResult.msg a))) k < (0 : Int)) = false) →
   (VLe (V.int IntKind.i64 (heldM (decMsg (encMsg 1 (MsgResult.msg a))) k))
   (V.int IntKind.i64 (heldM (MsgResult.msg a) k)))))) := by
    have hc := heldM_cases a.msg k
    unfold pr41 at hpre
    simp only [dec_encMsg]
    exact ⟨⟨VLe.refl _, hpre⟩, fun h => vle_int (by simp at h; omega), fun _ => VLe.refl _⟩
  exact Eq.mp (by kernel_rfl) key
theorem so41 : Sound Tryz.prog 41 sp41 := by
  refine sound_of_body hmix (pol := 0) Tryz.func41 rfl (by kernel_rfl) fun args bin ob r bout hDe hob => ?_
  unfold sp41 at hDe
  split at hDe
  · rename_i a0 a1
    cases hDe
    exact ⟨rfl, rfl, Nat.le_of_ble_eq_true (by kernel_rfl), cx41 (decMsgResult a0) a1, Eq.mp (by kernel_rfl) htt, Eq.mp (by kernel_rfl) da41, Eq.mp (by kernel_rfl) (noM_sound (P := Tryz.prog)), by kernel_rfl, [encMsgResult 1 ((decMsgResult a0)), .int .i64 (a1)], args_of_vles (⟨hob.1, VLe.refl _, trivial⟩), Eq.mp (by kernel_rfl) (bd41 (decMsgResult a0) a1 (hob.2))⟩
  · cases hDe

/-! ### laws.eqMsgResult -/
def pr38 (a : MsgResult) (b : MsgResult) : Prop := a.msg.bd
noncomputable def rs38 (a : MsgResult) (b : MsgResult) : V := .bool (decide (a = b))
noncomputable def sp38 : FSpec := fun args bin => match args, bin with
  | [a0, a1], [] => some (VLe a0 (encMsgResult 1 ((decMsgResult a0))) ∧ VLe a1 (encMsgResult 1 ((decMsgResult a1))) ∧ pr38 (decMsgResult a0) (decMsgResult a1), rs38 (decMsgResult a0) (decMsgResult a1), [])
  | _, _ => none
noncomputable def D38 : Nat → Option (Bool × FSpec) := lk [(67, (false, sp67))]
theorem da38 : SoundAll Tryz.prog D38 := soundAll_cons so67 (soundAll_nil)
noncomputable def cx38 (a : MsgResult) (b : MsgResult) : Cx := ⟨tt, D38, Tryz.f38.ntmps, [0, 1, 2, 3, 4, 9, 15], [], [], fun _ => none, [], noM, []⟩
theorem bd38 (a : MsgResult) (b : MsgResult) (hpre : pr38 a b) : bodyP (cx38 a b) Tryz.f38 0 [encMsgResult 1 (a), encMsgResult 1 (b)] (fun rr => VLe rr (rs38 a b)) := by
  have key :
      ((((MsgResult.code a != MsgResult.code b) = true) →
   (VLe (V.bool false) (V.bool (decide (a = b))))) ∧
   (((MsgResult.code a != MsgResult.code b) = false) →
   (((VLe (encMsg 1 (MsgResult.msg a)) (encMsg 1 (decMsg (encMsg 1 (MsgResult.msg a))))) ∧
   ((VLe (encMsg 1 (MsgResult.msg b)) (encMsg 1 (decMsg (encMsg 1 (MsgResult.msg b))))) ∧
   (pr67 (decMsg (encMsg 1 (MsgResult.msg a))) (decMsg (encMsg 1 (MsgResult.msg b)))))) ∧
   ((((!decide (decMsg (encMsg 1 (MsgResult.msg a)) = decMsg (encMsg 1 (MsgResult.msg b)))) = true) →
   (VLe (V.bool false) (V.bool (decide (a = b))))) ∧
   (((!decide (decMsg (encMsg 1 (MsgResult.msg a)) = decMsg (encMsg 1 (MsgResult.msg b)))) = false) →
   (VLe (V.bool true) (V.bool (decide (a = b))))))))) := by
    simp only [dec_encMsg]
    refine ⟨fun h => vle_bool ?_, fun h => ⟨⟨VLe.refl _, VLe.refl _, hpre⟩, fun h2 => vle_bool ?_, fun h2 => vle_bool ?_⟩⟩
    · have : a ≠ b := fun e => by subst e; simp at h
      simp [this]
    · have : a ≠ b := fun e => by subst e; simp at h2
      simp [this]
    · have h1 : a.code = b.code := by simpa using h
      have h3 : a.msg = b.msg := by simpa using h2
      have : a = b := by cases a; cases b; simp_all
      simp [this]
  exact Eq.mp (by kernel_rfl) key
theorem so38 : Sound Tryz.prog 38 sp38 := by
  refine sound_of_body hmix (pol := 0) Tryz.func38 rfl (by kernel_rfl) fun args bin ob r bout hDe hob => ?_
  unfold sp38 at hDe
  split at hDe
  · rename_i a0 a1
    cases hDe
    exact ⟨rfl, rfl, Nat.le_of_ble_eq_true (by kernel_rfl), cx38 (decMsgResult a0) (decMsgResult a1), Eq.mp (by kernel_rfl) htt, Eq.mp (by kernel_rfl) da38, Eq.mp (by kernel_rfl) (noM_sound (P := Tryz.prog)), by kernel_rfl, [encMsgResult 1 ((decMsgResult a0)), encMsgResult 1 ((decMsgResult a1))], args_of_vles (⟨hob.1, hob.2.1, trivial⟩), Eq.mp (by kernel_rfl) (bd38 (decMsgResult a0) (decMsgResult a1) (hob.2.2))⟩
  · cases hDe

end Go.Av
