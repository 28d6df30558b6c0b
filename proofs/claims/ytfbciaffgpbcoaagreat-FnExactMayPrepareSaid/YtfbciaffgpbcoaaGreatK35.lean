/- May a replica prepare? -/
import Derived.Test.YtfbciaffgpbcoaaGreatK21
import Derived.Test.YtfbciaffgpbcoaaGreatK33
namespace Go.Av
open Go.Proofs
set_option maxRecDepth 100000
set_option linter.unusedVariables false
set_option linter.unusedSimpArgs false

noncomputable def prepareF (f : Int) (l : List Msg) (r : Replica) (place : Int) : Int :=
  if ¬ (propOk f l place r.start ∧ (atM l place).view = r.view) then 1 else if sentAt l r 2 (atM l place).slot = true then 6 else 0
noncomputable def mayPrepareF (f : Int) (l : List Msg) (r : Replica) (place : Int) : Int :=
  if replicaFault f l r ≠ 0 then replicaFault f l r else prepareF f l r place

theorem sentB_at {l : List Msg} {r : Replica} {kind slot : Int} (h : slot ≠ 0) : sentB l r kind slot (-1) = sentAt l r kind slot := by
  unfold sentB sentAt isSent2 isSent
  congr 1
  funext m
  rw [decide_eq_decide]
  simp only [h, false_or]
  constructor
  · rintro ⟨c1, c2, c3, c4, _⟩
    exact ⟨c2, c1, c3, c4⟩
  · rintro ⟨c1, c2, c3, c4⟩
    exact ⟨c2, c1, c3, c4, Or.inl (by omega)⟩

/-! ### Replica).mayPrepare -/
def pr15 (r : Replica) (f : Int) (l : List Msg) (place : Int) : Prop := Right f l ∧ bdL l
noncomputable def rs15 (r : Replica) (f : Int) (l : List Msg) (place : Int) : V := .int .i64 (prepareF f l r place)
noncomputable def sp15 : FSpec := fun args bin => match args, bin with
  | [a0, .int .i64 a1, a2, .int .i64 a3], [] => some (VLe a0 (encPReplica 1 ((decPReplica a0))) ∧ VLe a2 (encL (encMsg 1) 1 (((decL decMsg) a2))) ∧ pr15 (decPReplica a0) a1 ((decL decMsg) a2) a3, rs15 (decPReplica a0) a1 ((decL decMsg) a2) a3, [])
  | _, _ => none
noncomputable def D15 : Nat → Option (Bool × FSpec) := lk [(28, (false, sp28)), (29, (false, sp29))]
theorem da15 : SoundAll Tryz.prog D15 := soundAll_cons so28 (soundAll_cons so29 (soundAll_nil))
noncomputable def cx15 (r : Replica) (f : Int) (l : List Msg) (place : Int) : Cx := ⟨tt, D15, Tryz.f15.ntmps, [0, 1, 2, 3, 8, 29, 37], [], [], fun _ => none, [], noM, []⟩
theorem bd15 (r : Replica) (f : Int) (l : List Msg) (place : Int) (hpre : pr15 r f l place) : bodyP (cx15 r f l place) Tryz.f15 0 [encPReplica 1 (r), .int .i64 (f), encL (encMsg 1) 1 (l), .int .i64 (place)] (fun rr => VLe rr (rs15 r f l place)) := by
  have key :
      (((VLe (encL (encMsg 1) 1 l)
   (encL (encMsg 1) 1 (decL decMsg (encL (encMsg 1) 1 l)))) ∧
   (pr28 f (decL decMsg (encL (encMsg 1) 1 l)) place (Replica.start r))) ∧
   ((tq (!!decide (propOk f (decL decMsg (encL (encMsg 1) 1 l)) place (Replica.start r)))) ∧
   ((tq (!!decide (propOk f (decL decMsg (encL (encMsg 1) 1 l)) place (Replica.start r)))) ∧
   ((((!!decide (propOk f (decL decMsg (encL (encMsg 1) 1 l)) place (Replica.start r))) = true) →
   (((0 : Int) ≤ place) ∧
   (place < (↑(List.length l) : Int)))) ∧
   ((tq (!!decide (propOk f (decL decMsg (encL (encMsg 1) 1 l)) place (Replica.start r)))) ∧
   ((tq (!!decide (propOk f (decL decMsg (encL (encMsg 1) 1 l)) place (Replica.start r)))) ∧
   ((tq (!!decide (propOk f (decL decMsg (encL (encMsg 1) 1 l)) place (Replica.start r)))) ∧
   ((tq (!!decide (propOk f (decL decMsg (encL (encMsg 1) 1 l)) place (Replica.start r)))) ∧
   ((tq (!!decide (propOk f (decL decMsg (encL (encMsg 1) 1 l)) place (Replica.start r)))) ∧
   ((tq (!!decide (propOk f (decL decMsg (encL (encMsg 1) 1 l)) place (Replica.start r)))) ∧
   ((tq (!!decide (propOk f (decL decMsg (encL (encMsg 1) 1 l)) place (Replica.start r)))) ∧
   (((true = true) →
   (((!decide (propOk f (decL decMsg (encL (encMsg 1) 1 l)) place (Replica.start r))) = false) →
   ((!!decide (propOk f (decL decMsg (encL (encMsg 1) 1 l)) place (Replica.start r))) = true))) ∧
   (∀ b : Bool,
   ((b =
   bif !decide (propOk f (decL decMsg (encL (encMsg 1) 1 l)) place (Replica.start r)) then true
   else Msg.view (List.getD l (Int.toNat place) default) != Replica.view r) →
   (((b = true) →
   (VLe (V.int IntKind.i64 (1 : Int)) (V.int IntKind.i64 (prepareF f l r place)))) ∧
   ((b = false) →
   ((((0 : Int) ≤ place) ∧
   (place < (↑(List.length l) : Int))) ∧
   (((VLe (encPReplica 1 r) (encPReplica 1 (decPReplica (encPReplica 1 r)))) ∧
   ((VLe (encL (encMsg 1) 1 l)
   (encL (encMsg 1) 1 (decL decMsg (encL (encMsg 1) 1 l)))) ∧
   (pr29 (decPReplica (encPReplica 1 r)) (decL decMsg (encL (encMsg 1) 1 l)) (2 : Int)
   (Msg.slot (List.getD l (Int.toNat place) default))))) ∧
   (((sentAt (decL decMsg (encL (encMsg 1) 1 l)) (decPReplica (encPReplica 1 r)) (2 : Int)
   (Msg.slot (List.getD l (Int.toNat place) default)) =
   true) →
   (VLe (V.int IntKind.i64 (6 : Int)) (V.int IntKind.i64 (prepareF f l r place)))) ∧
   ((sentAt (decL decMsg (encL (encMsg 1) 1 l)) (decPReplica (encPReplica 1 r)) (2 : Int)
   (Msg.slot (List.getD l (Int.toNat place) default)) =
   false) →
   (VLe (V.int IntKind.i64 (0 : Int)) (V.int IntKind.i64 (prepareF f l r place))))))))))))))))))))))) := by
    obtain ⟨hr, hl⟩ := hpre
    simp only [decL_Msg, dec_encPReplica]
    have hin : propOk f l place r.start → 0 ≤ place ∧ place < l.length := fun g => by
      have := g.1.1
      unfold inL inR at this
      omega
    refine ⟨⟨VLe.refl _, hr, hl⟩, ?_⟩
    repeat (first | (refine And.intro (fun h _ => h) ?_) | (refine And.intro (fun _ h => h) ?_) | (refine And.intro ?aa ?_; case aa => (exact (fun h => hin (by simpa using h)))) | (refine And.intro ?aa ?_; case aa => (intros; simp_all [pr28, pr29]; done)) | (refine And.intro ?aa ?_; case aa => (intros; exact inK64 (by omega))) | (refine And.intro ?aa ?_; case aa => (intros; simp only [decide_eq_true_eq] at *; omega)) | (intro q hq))
    have e0 : q = decide (¬ (propOk f l place r.start ∧ (atM l place).view = r.view)) := by
      rw [hq, Bool.eq_iff_iff, decide_eq_true_eq]
      by_cases a1 : propOk f l place r.start
      · simp [a1, atM]
      · simp [a1]
    clear hq
    rw [e0]
    refine ⟨fun h => vle_int (by unfold prepareF; rw [if_pos (of_decide_eq_true h)]), fun h => ?_⟩
    have h1 := Classical.not_not.1 (of_decide_eq_false h)
    have e1 : prepareF f l r place = if sentAt l r 2 (atM l place).slot = true then 6 else 0 := if_neg (not_not_intro h1)
    refine ⟨hin h1.1, ⟨VLe.refl _, VLe.refl _, hl.1⟩, fun h2 => vle_int ?_, fun h2 => vle_int ?_⟩
    · rw [e1]
      exact (if_pos h2).symm
    · rw [e1]
      refine (if_neg ?_).symm
      rw [show sentAt l r 2 (atM l place).slot = false from h2]
      decide
  exact Eq.mp (by kernel_rfl) key
theorem so15 : Sound Tryz.prog 15 sp15 := by
  refine sound_of_body hmix (pol := 0) Tryz.func15 rfl (by kernel_rfl) fun args bin ob r bout hDe hob => ?_
  unfold sp15 at hDe
  split at hDe
  · rename_i a0 a1 a2 a3
    cases hDe
    exact ⟨rfl, rfl, Nat.le_of_ble_eq_true (by kernel_rfl), cx15 (decPReplica a0) a1 ((decL decMsg) a2) a3, Eq.mp (by kernel_rfl) htt, Eq.mp (by kernel_rfl) da15, Eq.mp (by kernel_rfl) (noM_sound (P := Tryz.prog)), by kernel_rfl, [encPReplica 1 ((decPReplica a0)), .int .i64 (a1), encL (encMsg 1) 1 (((decL decMsg) a2)), .int .i64 (a3)], args_of_vles (⟨hob.1, VLe.refl _, hob.2.1, VLe.refl _, trivial⟩), Eq.mp (by kernel_rfl) (bd15 (decPReplica a0) a1 ((decL decMsg) a2) a3 (hob.2.2))⟩
  · cases hDe

/-! ### impl.MayPrepare -/
def pr8 (f : Int) (l : List Msg) (r : Replica) (place : Int) : Prop := bdL l
noncomputable def rs8 (f : Int) (l : List Msg) (r : Replica) (place : Int) : V := .int .i64 (mayPrepareF f l r place)
noncomputable def sp8 : FSpec := fun args bin => match args, bin with
  | [.int .i64 a0, a1, a2, .int .i64 a3], [] => some (VLe a1 (encL (encMsg 1) 1 (((decL decMsg) a1))) ∧ VLe a2 (encReplica 1 ((decReplica a2))) ∧ pr8 a0 ((decL decMsg) a1) (decReplica a2) a3, rs8 a0 ((decL decMsg) a1) (decReplica a2) a3, [])
  | _, _ => none
noncomputable def D8 : Nat → Option (Bool × FSpec) := lk [(14, (false, sp14)), (15, (false, sp15))]
theorem da8 : SoundAll Tryz.prog D8 := soundAll_cons so14 (soundAll_cons so15 (soundAll_nil))
noncomputable def cx8 (f : Int) (l : List Msg) (r : Replica) (place : Int) : Cx := ⟨tt, D8, Tryz.f8.ntmps, [0, 1, 2, 3, 6, 8, 9, 15], [], [], fun _ => none, [], noM, []⟩
theorem bd8 (f : Int) (l : List Msg) (r : Replica) (place : Int) (hpre : pr8 f l r place) : bodyP (cx8 f l r place) Tryz.f8 0 [.int .i64 (f), encL (encMsg 1) 1 (l), encReplica 1 (r), .int .i64 (place)] (fun rr => VLe rr (rs8 f l r place)) := by
  have key :
      (((VLe (encL (encMsg 1) 1 l)
   (encL (encMsg 1) 1 (decL decMsg (encL (encMsg 1) 1 l)))) ∧
   ((VLe (encReplica 1 r) (encReplica 1 (decReplica (encReplica 1 r)))) ∧
   (pr14 f (decL decMsg (encL (encMsg 1) 1 l)) (decReplica (encReplica 1 r))))) ∧
   ((((replicaFault f (decL decMsg (encL (encMsg 1) 1 l)) (decReplica (encReplica 1 r)) !=
   (0 : Int)) =
   true) →
   (VLe
   (V.int IntKind.i64
   (replicaFault f (decL decMsg (encL (encMsg 1) 1 l)) (decReplica (encReplica 1 r))))
   (V.int IntKind.i64 (mayPrepareF f l r place)))) ∧
   (((replicaFault f (decL decMsg (encL (encMsg 1) 1 l)) (decReplica (encReplica 1 r)) !=
   (0 : Int)) =
   false) →
   (((VLe (encPReplica 1 r) (encPReplica 1 (decPReplica (encPReplica 1 r)))) ∧
   ((VLe (encL (encMsg 1) 1 l)
   (encL (encMsg 1) 1 (decL decMsg (encL (encMsg 1) 1 l)))) ∧
   (pr15 (decPReplica (encPReplica 1 r)) f (decL decMsg (encL (encMsg 1) 1 l)) place))) ∧
   (VLe
   (V.int IntKind.i64
   (prepareF f (decL decMsg (encL (encMsg 1) 1 l)) (decPReplica (encPReplica 1 r)) place))
   (V.int IntKind.i64 (mayPrepareF f l r place))))))) := by
    simp only [decL_Msg, dec_encPReplica, dec_encReplica]
    refine ⟨⟨VLe.refl _, VLe.refl _, hpre⟩, fun h => ?_, fun h => ?_⟩
    · exact vle_int (by unfold mayPrepareF; rw [if_pos (by simpa using h)])
    · have h0 : replicaFault f l r = 0 := by simpa using h
      obtain ⟨hr, hv⟩ := replica_right h0
      exact ⟨⟨VLe.refl _, VLe.refl _, hr, hpre⟩, vle_int (by unfold mayPrepareF; rw [if_neg (not_not_intro h0)])⟩
  exact Eq.mp (by kernel_rfl) key
theorem so8 : Sound Tryz.prog 8 sp8 := by
  refine sound_of_body hmix (pol := 0) Tryz.func8 rfl (by kernel_rfl) fun args bin ob r bout hDe hob => ?_
  unfold sp8 at hDe
  split at hDe
  · rename_i a0 a1 a2 a3
    cases hDe
    exact ⟨rfl, rfl, Nat.le_of_ble_eq_true (by kernel_rfl), cx8 a0 ((decL decMsg) a1) (decReplica a2) a3, Eq.mp (by kernel_rfl) htt, Eq.mp (by kernel_rfl) da8, Eq.mp (by kernel_rfl) (noM_sound (P := Tryz.prog)), by kernel_rfl, [.int .i64 (a0), encL (encMsg 1) 1 (((decL decMsg) a1)), encReplica 1 ((decReplica a2)), .int .i64 (a3)], args_of_vles (⟨VLe.refl _, hob.1, hob.2.1, VLe.refl _, trivial⟩), Eq.mp (by kernel_rfl) (bd8 a0 ((decL decMsg) a1) (decReplica a2) a3 (hob.2.2))⟩
  · cases hDe

/-! ### spec.l11Prepare -/
def pr12 (f : Int) (l : List Msg) (r : Replica) (place : Int) : Prop := Right f l ∧ bdL l
noncomputable def rs12 (f : Int) (l : List Msg) (r : Replica) (place : Int) : V := .int .i64 (prepareF f l r place)
noncomputable def sp12 : FSpec := fun args bin => match args, bin with
  | [.int .i64 a0, a1, a2, .int .i64 a3], [] => some (VLe a1 (encL (encMsg 1) 1 (((decL decMsg) a1))) ∧ VLe a2 (encPReplica 1 ((decPReplica a2))) ∧ pr12 a0 ((decL decMsg) a1) (decPReplica a2) a3, rs12 a0 ((decL decMsg) a1) (decPReplica a2) a3, [])
  | _, _ => none
noncomputable def D12 : Nat → Option (Bool × FSpec) := lk [(21, (false, sp21)), (22, (false, sp22))]
theorem da12 : SoundAll Tryz.prog D12 := soundAll_cons so21 (soundAll_cons so22 (soundAll_nil))
noncomputable def cx12 (f : Int) (l : List Msg) (r : Replica) (place : Int) : Cx := ⟨tt, D12, Tryz.f12.ntmps, [0, 1, 2, 3, 8, 29, 37], [], [], fun _ => none, [], noM, []⟩
theorem bd12 (f : Int) (l : List Msg) (r : Replica) (place : Int) (hpre : pr12 f l r place) : bodyP (cx12 f l r place) Tryz.f12 0 [.int .i64 (f), encL (encMsg 1) 1 (l), encPReplica 1 (r), .int .i64 (place)] (fun rr => VLe rr (rs12 f l r place)) := by
  have key :
      (((VLe (encL (encMsg 1) 1 l)
   (encL (encMsg 1) 1 (decL decMsg (encL (encMsg 1) 1 l)))) ∧
   (pr21 f (decL decMsg (encL (encMsg 1) 1 l)) place (Replica.start r))) ∧
   ((tq (!!decide (propOk f (decL decMsg (encL (encMsg 1) 1 l)) place (Replica.start r)))) ∧
   ((tq (!!decide (propOk f (decL decMsg (encL (encMsg 1) 1 l)) place (Replica.start r)))) ∧
   ((((!!decide (propOk f (decL decMsg (encL (encMsg 1) 1 l)) place (Replica.start r))) = true) →
   (((0 : Int) ≤ place) ∧
   (place < (↑(List.length l) : Int)))) ∧
   ((tq (!!decide (propOk f (decL decMsg (encL (encMsg 1) 1 l)) place (Replica.start r)))) ∧
   ((tq (!!decide (propOk f (decL decMsg (encL (encMsg 1) 1 l)) place (Replica.start r)))) ∧
   ((tq (!!decide (propOk f (decL decMsg (encL (encMsg 1) 1 l)) place (Replica.start r)))) ∧
   ((tq (!!decide (propOk f (decL decMsg (encL (encMsg 1) 1 l)) place (Replica.start r)))) ∧
   ((tq (!!decide (propOk f (decL decMsg (encL (encMsg 1) 1 l)) place (Replica.start r)))) ∧
   ((tq (!!decide (propOk f (decL decMsg (encL (encMsg 1) 1 l)) place (Replica.start r)))) ∧
   ((tq (!!decide (propOk f (decL decMsg (encL (encMsg 1) 1 l)) place (Replica.start r)))) ∧
   (((true = true) →
   (((!decide (propOk f (decL decMsg (encL (encMsg 1) 1 l)) place (Replica.start r))) = false) →
   ((!!decide (propOk f (decL decMsg (encL (encMsg 1) 1 l)) place (Replica.start r))) = true))) ∧
   (∀ b : Bool,
   ((b =
   bif !decide (propOk f (decL decMsg (encL (encMsg 1) 1 l)) place (Replica.start r)) then true
   else Msg.view (List.getD l (Int.toNat place) default) != Replica.view r) →
   (((b = true) →
   (VLe (V.int IntKind.i64 (1 : Int)) (V.int IntKind.i64 (prepareF f l r place)))) ∧
   ((b = false) →
   ((((0 : Int) ≤ place) ∧
   (place < (↑(List.length l) : Int))) ∧
   (((VLe (encL (encMsg 1) 1 l)
   (encL (encMsg 1) 1 (decL decMsg (encL (encMsg 1) 1 l)))) ∧
   ((VLe (encPReplica 1 r) (encPReplica 1 (decPReplica (encPReplica 1 r)))) ∧
   (pr22 (decL decMsg (encL (encMsg 1) 1 l)) (decPReplica (encPReplica 1 r)) (2 : Int)
   (Msg.slot (List.getD l (Int.toNat place) default)) (-1 : Int)))) ∧
   (((sentB (decL decMsg (encL (encMsg 1) 1 l)) (decPReplica (encPReplica 1 r)) (2 : Int)
   (Msg.slot (List.getD l (Int.toNat place) default)) (-1 : Int) =
   true) →
   (VLe (V.int IntKind.i64 (6 : Int)) (V.int IntKind.i64 (prepareF f l r place)))) ∧
   ((sentB (decL decMsg (encL (encMsg 1) 1 l)) (decPReplica (encPReplica 1 r)) (2 : Int)
   (Msg.slot (List.getD l (Int.toNat place) default)) (-1 : Int) =
   false) →
   (VLe (V.int IntKind.i64 (0 : Int)) (V.int IntKind.i64 (prepareF f l r place))))))))))))))))))))))) := by
    obtain ⟨hr, hl⟩ := hpre
    simp only [decL_Msg, dec_encPReplica]
    have hin : propOk f l place r.start → 0 ≤ place ∧ place < l.length := fun g => by
      have := g.1.1
      unfold inL inR at this
      omega
    refine ⟨⟨VLe.refl _, hr, hl⟩, ?_⟩
    repeat (first | (refine And.intro (fun h _ => h) ?_) | (refine And.intro (fun _ h => h) ?_) | (refine And.intro ?aa ?_; case aa => (exact (fun h => hin (by simpa using h)))) | (refine And.intro ?aa ?_; case aa => (intros; simp_all [pr21, pr22]; done)) | (refine And.intro ?aa ?_; case aa => (intros; exact inK64 (by omega))) | (refine And.intro ?aa ?_; case aa => (intros; simp only [decide_eq_true_eq] at *; omega)) | (intro q hq))
    have e0 : q = decide (¬ (propOk f l place r.start ∧ (atM l place).view = r.view)) := by
      rw [hq, Bool.eq_iff_iff, decide_eq_true_eq]
      by_cases a1 : propOk f l place r.start
      · simp [a1, atM]
      · simp [a1]
    clear hq
    rw [e0]
    refine ⟨fun h => vle_int (by unfold prepareF; rw [if_pos (of_decide_eq_true h)]), fun h => ?_⟩
    have h1 := Classical.not_not.1 (of_decide_eq_false h)
    have e1 : prepareF f l r place = if sentAt l r 2 (atM l place).slot = true then 6 else 0 := if_neg (not_not_intro h1)
    have hs := (propRange hr h1.1.1).2
    unfold inR at hs
    rw [sentB_at (by omega)]
    refine ⟨hin h1.1, ⟨VLe.refl _, VLe.refl _, hl.1⟩, fun h2 => vle_int ?_, fun h2 => vle_int ?_⟩
    · rw [e1]
      exact (if_pos h2).symm
    · rw [e1]
      refine (if_neg ?_).symm
      rw [show sentAt l r 2 (atM l place).slot = false from h2]
      decide
  exact Eq.mp (by kernel_rfl) key
theorem so12 : Sound Tryz.prog 12 sp12 := by
  refine sound_of_body hmix (pol := 0) Tryz.func12 rfl (by kernel_rfl) fun args bin ob r bout hDe hob => ?_
  unfold sp12 at hDe
  split at hDe
  · rename_i a0 a1 a2 a3
    cases hDe
    exact ⟨rfl, rfl, Nat.le_of_ble_eq_true (by kernel_rfl), cx12 a0 ((decL decMsg) a1) (decPReplica a2) a3, Eq.mp (by kernel_rfl) htt, Eq.mp (by kernel_rfl) da12, Eq.mp (by kernel_rfl) (noM_sound (P := Tryz.prog)), by kernel_rfl, [.int .i64 (a0), encL (encMsg 1) 1 (((decL decMsg) a1)), encPReplica 1 ((decPReplica a2)), .int .i64 (a3)], args_of_vles (⟨VLe.refl _, hob.1, hob.2.1, VLe.refl _, trivial⟩), Eq.mp (by kernel_rfl) (bd12 a0 ((decL decMsg) a1) (decPReplica a2) a3 (hob.2.2))⟩
  · cases hDe

/-! ### spec.MayPrepare -/
def pr5 (f : Int) (l : List Msg) (r : Replica) (place : Int) : Prop := bdL l
noncomputable def rs5 (f : Int) (l : List Msg) (r : Replica) (place : Int) : V := .int .i64 (mayPrepareF f l r place)
noncomputable def sp5 : FSpec := fun args bin => match args, bin with
  | [.int .i64 a0, a1, a2, .int .i64 a3], [] => some (VLe a1 (encL (encMsg 1) 1 (((decL decMsg) a1))) ∧ VLe a2 (encReplica 1 ((decReplica a2))) ∧ pr5 a0 ((decL decMsg) a1) (decReplica a2) a3, rs5 a0 ((decL decMsg) a1) (decReplica a2) a3, [])
  | _, _ => none
noncomputable def D5 : Nat → Option (Bool × FSpec) := lk [(11, (false, sp11)), (12, (false, sp12))]
theorem da5 : SoundAll Tryz.prog D5 := soundAll_cons so11 (soundAll_cons so12 (soundAll_nil))
noncomputable def cx5 (f : Int) (l : List Msg) (r : Replica) (place : Int) : Cx := ⟨tt, D5, Tryz.f5.ntmps, [0, 1, 2, 3, 6, 8, 9, 14], [], [], fun _ => none, [], noM, []⟩
theorem bd5 (f : Int) (l : List Msg) (r : Replica) (place : Int) (hpre : pr5 f l r place) : bodyP (cx5 f l r place) Tryz.f5 0 [.int .i64 (f), encL (encMsg 1) 1 (l), encReplica 1 (r), .int .i64 (place)] (fun rr => VLe rr (rs5 f l r place)) := by
  have key :
      (((VLe (encL (encMsg 1) 1 l)
   (encL (encMsg 1) 1 (decL decMsg (encL (encMsg 1) 1 l)))) ∧
   ((VLe (encPReplica 1 r) (encPReplica 1 (decPReplica (encPReplica 1 r)))) ∧
   (pr11 f (decL decMsg (encL (encMsg 1) 1 l)) (decPReplica (encPReplica 1 r))))) ∧
   ((((replicaFault f (decL decMsg (encL (encMsg 1) 1 l)) (decPReplica (encPReplica 1 r)) !=
   (0 : Int)) =
   true) →
   (VLe
   (V.int IntKind.i64
   (replicaFault f (decL decMsg (encL (encMsg 1) 1 l)) (decPReplica (encPReplica 1 r))))
   (V.int IntKind.i64 (mayPrepareF f l r place)))) ∧
   (((replicaFault f (decL decMsg (encL (encMsg 1) 1 l)) (decPReplica (encPReplica 1 r)) !=
   (0 : Int)) =
   false) →
   (((VLe (encL (encMsg 1) 1 l)
   (encL (encMsg 1) 1 (decL decMsg (encL (encMsg 1) 1 l)))) ∧
   ((VLe (encPReplica 1 r) (encPReplica 1 (decPReplica (encPReplica 1 r)))) ∧
   (pr12 f (decL decMsg (encL (encMsg 1) 1 l)) (decPReplica (encPReplica 1 r)) place))) ∧
   (VLe
   (V.int IntKind.i64
   (prepareF f (decL decMsg (encL (encMsg 1) 1 l)) (decPReplica (encPReplica 1 r)) place))
   (V.int IntKind.i64 (mayPrepareF f l r place))))))) := by
    simp only [decL_Msg, dec_encPReplica, dec_encReplica]
    refine ⟨⟨VLe.refl _, VLe.refl _, hpre⟩, fun h => ?_, fun h => ?_⟩
    · exact vle_int (by unfold mayPrepareF; rw [if_pos (by simpa using h)])
    · have h0 : replicaFault f l r = 0 := by simpa using h
      obtain ⟨hr, hv⟩ := replica_right h0
      exact ⟨⟨VLe.refl _, VLe.refl _, hr, hpre⟩, vle_int (by unfold mayPrepareF; rw [if_neg (not_not_intro h0)])⟩
  exact Eq.mp (by kernel_rfl) key
theorem so5 : Sound Tryz.prog 5 sp5 := by
  refine sound_of_body hmix (pol := 0) Tryz.func5 rfl (by kernel_rfl) fun args bin ob r bout hDe hob => ?_
  unfold sp5 at hDe
  split at hDe
  · rename_i a0 a1 a2 a3
    cases hDe
    exact ⟨rfl, rfl, Nat.le_of_ble_eq_true (by kernel_rfl), cx5 a0 ((decL decMsg) a1) (decReplica a2) a3, Eq.mp (by kernel_rfl) htt, Eq.mp (by kernel_rfl) da5, Eq.mp (by kernel_rfl) (noM_sound (P := Tryz.prog)), by kernel_rfl, [.int .i64 (a0), encL (encMsg 1) 1 (((decL decMsg) a1)), encReplica 1 ((decReplica a2)), .int .i64 (a3)], args_of_vles (⟨VLe.refl _, hob.1, hob.2.1, VLe.refl _, trivial⟩), Eq.mp (by kernel_rfl) (bd5 a0 ((decL decMsg) a1) (decReplica a2) a3 (hob.2.2))⟩
  · cases hDe

end Go.Av
