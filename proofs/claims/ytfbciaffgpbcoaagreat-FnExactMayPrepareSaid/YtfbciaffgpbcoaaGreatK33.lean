/- May a proposal be made in its view? -/
import Derived.Test.YtfbciaffgpbcoaaGreatF2
import Derived.Test.YtfbciaffgpbcoaaGreatK30
namespace Go.Av
open Go.Proofs
set_option maxRecDepth 100000
set_option linter.unusedVariables false
set_option linter.unusedSimpArgs false

def valueOk (l : List Msg) (start slot value : Int) : Prop :=
  if start < 0 then 0 < value else if slot ≤ ((pickL l (atM l start).refs).length : Int) then value = (pickL l (atM l start).refs).getD (slot - 1).toNat default else 0 < value
noncomputable instance (l : List Msg) (a b c : Int) : Decidable (valueOk l a b c) := Classical.propDecidable _
def startOk (f : Int) (l : List Msg) (view start : Int) : Prop := if view = 0 then start = -1 else newOk f l start ∧ (atM l start).view = view
noncomputable instance (f : Int) (l : List Msg) (a b : Int) : Decidable (startOk f l a b) := Classical.propDecidable _
def propOk (f : Int) (l : List Msg) (place start : Int) : Prop :=
  isAt l place 1 ∧ (atM l place).sender = primaryF f (atM l place).view ∧ startOk f l (atM l place).view start ∧ valueOk l start (atM l place).slot (atM l place).value
noncomputable instance (f : Int) (l : List Msg) (a b : Int) : Decidable (propOk f l a b) := Classical.propDecidable _
/-- The places of a right new view are those of changes, and few. -/
theorem new_pick {f : Int} {l : List Msg} {k : Int} (hr : Right f l) (h : newOk f l k) : pickOk l (atM l k).refs ∧ (atM l k).refs.length ≤ 7 := by
  have hg := hr.memGood (atM_mem h.1.1)
  have hf : 1 ≤ f ∧ f ≤ 2 := by have := hr.okf; unfold okF at this; omega
  have hfew := hg.few
  unfold few at hfew
  refine ⟨fun r hr' => ?_, by omega⟩
  obtain ⟨j, hj, rfl⟩ := List.getElem_of_mem hr'
  have := (h.2.2.2.2 j hj).1.1
  simpa [hj] using this

theorem propRange {f : Int} {l : List Msg} {place : Int} (hr : Right f l) (h : isAt l place 1) : inR (l.getD place.toNat default).view 0 20 ∧ inR (l.getD place.toNat default).slot 1 30 := by
  have hg := hr.memGood (atM_mem h.1)
  have hra := hg.ranged
  have hk := h.2
  unfold atM at hra hk
  unfold ranged at hra
  exact ⟨hra.1, (hra.2.2 (by rw [hk]; unfold inR; omega)).1⟩


/-! ### spec.l10Value -/
def pr40 (l : List Msg) (start : Int) (slot : Int) (value : Int) : Prop := ∃ f, Right f l ∧ bdL l ∧ inR slot 1 30 ∧ (start = -1 ∨ newOk f l start)
noncomputable def rs40 (l : List Msg) (start : Int) (slot : Int) (value : Int) : V := .bool (decide (valueOk l start slot value))
noncomputable def sp40 : FSpec := fun args bin => match args, bin with
  | [a0, .int .i64 a1, .int .i64 a2, .int .i64 a3], [] => some (VLe a0 (encL (encMsg 1) 1 (((decL decMsg) a0))) ∧ pr40 ((decL decMsg) a0) a1 a2 a3, rs40 ((decL decMsg) a0) a1 a2 a3, [])
  | _, _ => none
noncomputable def D40 : Nat → Option (Bool × FSpec) := lk [(61, (false, sp61o))]
theorem da40 : SoundAll Tryz.prog D40 := soundAll_cons so61o (soundAll_nil)
noncomputable def cx40 (l : List Msg) (start : Int) (slot : Int) (value : Int) : Cx := ⟨tt, D40, Tryz.f40.ntmps, [0, 1, 2, 3, 8, 9, 11, 24], [], [], fun _ => none, [], noM, []⟩
theorem bd40 (l : List Msg) (start : Int) (slot : Int) (value : Int) (hpre : pr40 l start slot value) : bodyP (cx40 l start slot value) Tryz.f40 0 [encL (encMsg 1) 1 (l), .int .i64 (start), .int .i64 (slot), .int .i64 (value)] (fun rr => VLe rr (rs40 l start slot value)) := by
  have key :
      (((decide (start < (0 : Int)) = true) →
   (VLe (V.bool (decide (value > (0 : Int)))) (V.bool (decide (valueOk l start slot value))))) ∧
   ((decide (start < (0 : Int)) = false) →
   ((((0 : Int) ≤ start) ∧
   (start < (↑(List.length l) : Int))) ∧
   (((VLe (encL (encMsg 1) 1 l)
   (encL (encMsg 1) 1 (decL decMsg (encL (encMsg 1) 1 l)))) ∧
   ((VLe (encL encI 1 (Msg.refs (List.getD l (Int.toNat start) default)))
   (encL encI 1 (decL decI (encL encI 1 (Msg.refs (List.getD l (Int.toNat start) default)))))) ∧
   (pr61o (decL decMsg (encL (encMsg 1) 1 l))
   (decL decI (encL encI 1 (Msg.refs (List.getD l (Int.toNat start) default))))))) ∧
   (((decide
   (slot ≤
   (↑(List.length
   (ro61o (decL decMsg (encL (encMsg 1) 1 l))
   (decL decI (encL encI 1 (Msg.refs (List.getD l (Int.toNat start) default)))))) :
   Int)) =
   true) →
   ((inK IntKind.i64 (slot - (1 : Int))) ∧
   ((((0 : Int) ≤ slot - (1 : Int)) ∧
   (slot - (1 : Int) <
   (↑(List.length
   (ro61o (decL decMsg (encL (encMsg 1) 1 l))
   (decL decI (encL encI 1 (Msg.refs (List.getD l (Int.toNat start) default)))))) :
   Int))) ∧
   ((Int.toNat (slot - (1 : Int)) <
   List.length
   (ro61o (decL decMsg (encL (encMsg 1) 1 l))
   (decL decI (encL encI 1 (Msg.refs (List.getD l (Int.toNat start) default)))))) ∧
   (VLe
   (V.bool
   (value ==
   List.getD
   (ro61o (decL decMsg (encL (encMsg 1) 1 l))
   (decL decI (encL encI 1 (Msg.refs (List.getD l (Int.toNat start) default)))))
   (Int.toNat (slot - (1 : Int))) default))
   (V.bool (decide (valueOk l start slot value)))))))) ∧
   ((decide
   (slot ≤
   (↑(List.length
   (ro61o (decL decMsg (encL (encMsg 1) 1 l))
   (decL decI (encL encI 1 (Msg.refs (List.getD l (Int.toNat start) default)))))) :
   Int)) =
   false) →
   (VLe (V.bool (decide (value > (0 : Int)))) (V.bool (decide (valueOk l start slot value)))))))))) := by
    obtain ⟨f, hr, hl, hs, hn⟩ := hpre
    simp only [decL_Msg, decL_ints, ro61o]
    unfold inR at hs
    refine ⟨fun h => vle_bool ?_, fun h => ?_⟩
    · rw [Bool.eq_iff_iff, decide_eq_true_eq, decide_eq_true_eq]
      unfold valueOk
      rw [if_pos (of_decide_eq_true h)]
    have h1 := of_decide_eq_false h
    have h2 : newOk f l start := by
      rcases hn with hn | hn
      · omega
      · exact hn
    have h3 := h2.1.1
    unfold inL inR at h3
    obtain ⟨g1, g2⟩ := new_pick hr h2
    refine ⟨by omega, ⟨VLe.refl _, VLe.refl _, ⟨f, hr⟩, hl, g1, g2⟩, fun h4 => ?_, fun h4 => vle_bool ?_⟩
    · have h5 := of_decide_eq_true h4
      refine ⟨inK64 (by omega), by omega, by omega, vle_bool ?_⟩
      rw [Bool.eq_iff_iff, decide_eq_true_eq]
      unfold valueOk
      rw [if_neg h1]
      show _ ↔ if slot ≤ ((pickL l (l.getD start.toNat default).refs).length : Int) then _ else _
      rw [if_pos h5]
      exact beq_iff_eq
    · have h5 := of_decide_eq_false h4
      rw [Bool.eq_iff_iff, decide_eq_true_eq, decide_eq_true_eq]
      unfold valueOk
      rw [if_neg h1]
      show _ ↔ if slot ≤ ((pickL l (l.getD start.toNat default).refs).length : Int) then _ else _
      rw [if_neg h5]
  exact Eq.mp (by kernel_rfl) key
theorem so40 : Sound Tryz.prog 40 sp40 := by
  refine sound_of_body hmix (pol := 0) Tryz.func40 rfl (by kernel_rfl) fun args bin ob r bout hDe hob => ?_
  unfold sp40 at hDe
  split at hDe
  · rename_i a0 a1 a2 a3
    cases hDe
    exact ⟨rfl, rfl, Nat.le_of_ble_eq_true (by kernel_rfl), cx40 ((decL decMsg) a0) a1 a2 a3, Eq.mp (by kernel_rfl) htt, Eq.mp (by kernel_rfl) da40, Eq.mp (by kernel_rfl) (noM_sound (P := Tryz.prog)), by kernel_rfl, [encL (encMsg 1) 1 (((decL decMsg) a0)), .int .i64 (a1), .int .i64 (a2), .int .i64 (a3)], args_of_vles (⟨hob.1, VLe.refl _, VLe.refl _, VLe.refl _, trivial⟩), Eq.mp (by kernel_rfl) (bd40 ((decL decMsg) a0) a1 a2 a3 (hob.2))⟩
  · cases hDe

/-! ### spec.l10Propose -/
def pr21 (f : Int) (l : List Msg) (place : Int) (start : Int) : Prop := Right f l ∧ bdL l
noncomputable def rs21 (f : Int) (l : List Msg) (place : Int) (start : Int) : V := .bool (decide (propOk f l place start))
noncomputable def sp21 : FSpec := fun args bin => match args, bin with
  | [.int .i64 a0, a1, .int .i64 a2, .int .i64 a3], [] => some (VLe a1 (encL (encMsg 1) 1 (((decL decMsg) a1))) ∧ pr21 a0 ((decL decMsg) a1) a2 a3, rs21 a0 ((decL decMsg) a1) a2 a3, [])
  | _, _ => none
noncomputable def D21 : Nat → Option (Bool × FSpec) := lk [(38, (false, sp38)), (39, (false, sp39)), (36, (false, sp36)), (40, (false, sp40))]
theorem da21 : SoundAll Tryz.prog D21 := soundAll_cons so38 (soundAll_cons so39 (soundAll_cons so36 (soundAll_cons so40 (soundAll_nil))))
noncomputable def cx21 (f : Int) (l : List Msg) (place : Int) (start : Int) : Cx := ⟨tt, D21, Tryz.f21.ntmps, [0, 1, 2, 3, 8, 9, 13], [], [], fun _ => none, [], noM, []⟩
theorem bd21 (f : Int) (l : List Msg) (place : Int) (start : Int) (hpre : pr21 f l place start) : bodyP (cx21 f l place start) Tryz.f21 0 [.int .i64 (f), encL (encMsg 1) 1 (l), .int .i64 (place), .int .i64 (start)] (fun rr => VLe rr (rs21 f l place start)) := by
  have key :
      (((VLe (encL (encMsg 1) 1 l)
   (encL (encMsg 1) 1 (decL decMsg (encL (encMsg 1) 1 l)))) ∧
   (pr38 (decL decMsg (encL (encMsg 1) 1 l)) place (1 : Int))) ∧
   ((((!decide (isAt (decL decMsg (encL (encMsg 1) 1 l)) place (1 : Int))) = true) →
   (VLe (V.bool false) (V.bool (decide (propOk f l place start))))) ∧
   (((!decide (isAt (decL decMsg (encL (encMsg 1) 1 l)) place (1 : Int))) = false) →
   ((((0 : Int) ≤ place) ∧
   (place < (↑(List.length l) : Int))) ∧
   ((pr39 f (Msg.view (List.getD l (Int.toNat place) default))) ∧
   ((tq (Msg.sender (List.getD l (Int.toNat place) default) == primaryF f (Msg.view (List.getD l (Int.toNat place) default)))) ∧
   ((tq (Msg.sender (List.getD l (Int.toNat place) default) == primaryF f (Msg.view (List.getD l (Int.toNat place) default)))) ∧
   ((tq (Msg.sender (List.getD l (Int.toNat place) default) == primaryF f (Msg.view (List.getD l (Int.toNat place) default)))) ∧
   ((tq (Msg.sender (List.getD l (Int.toNat place) default) == primaryF f (Msg.view (List.getD l (Int.toNat place) default)))) ∧
   ((tq (Msg.sender (List.getD l (Int.toNat place) default) == primaryF f (Msg.view (List.getD l (Int.toNat place) default)))) ∧
   ((tq (Msg.sender (List.getD l (Int.toNat place) default) == primaryF f (Msg.view (List.getD l (Int.toNat place) default)))) ∧
   ((tq (Msg.sender (List.getD l (Int.toNat place) default) == primaryF f (Msg.view (List.getD l (Int.toNat place) default)))) ∧
   ((((Msg.sender (List.getD l (Int.toNat place) default) == primaryF f (Msg.view (List.getD l (Int.toNat place) default))) =
   true) →
   ((VLe (encL (encMsg 1) 1 l)
   (encL (encMsg 1) 1 (decL decMsg (encL (encMsg 1) 1 l)))) ∧
   (pr36 f (decL decMsg (encL (encMsg 1) 1 l)) (Msg.view (List.getD l (Int.toNat place) default)) start))) ∧
   (((true = true) →
   (((Msg.sender (List.getD l (Int.toNat place) default) == primaryF f (Msg.view (List.getD l (Int.toNat place) default))) =
   true) →
   ((Msg.sender (List.getD l (Int.toNat place) default) == primaryF f (Msg.view (List.getD l (Int.toNat place) default))) =
   true))) ∧
   (∀ b : Bool,
   ((b =
   bif
   Msg.sender (List.getD l (Int.toNat place) default) ==
   primaryF f (Msg.view (List.getD l (Int.toNat place) default)) then
   decide
   (if Msg.view (List.getD l (Int.toNat place) default) = (0 : Int) then start = (-1 : Int)
   else
   newOk f (decL decMsg (encL (encMsg 1) 1 l)) start ∧
   Msg.view (atM (decL decMsg (encL (encMsg 1) 1 l)) start) =
   Msg.view (List.getD l (Int.toNat place) default))
   else false) →
   ((tq (b)) ∧
   ((tq (b)) ∧
   ((tq (b)) ∧
   ((tq (b)) ∧
   ((tq (b)) ∧
   ((tq (b)) ∧
   ((tq (b)) ∧
   ((tq (b)) ∧
   ((tq (b)) ∧
   ((tq (b)) ∧
   (((b = true) →
   ((VLe (encL (encMsg 1) 1 l)
   (encL (encMsg 1) 1 (decL decMsg (encL (encMsg 1) 1 l)))) ∧
   (pr40 (decL decMsg (encL (encMsg 1) 1 l)) start (Msg.slot (List.getD l (Int.toNat place) default))
   (Msg.value (List.getD l (Int.toNat place) default))))) ∧
   (((true = true) →
   ((b = true) →
   (b = true))) ∧
   (∀ b_1 : Bool,
   ((b_1 =
   bif b then
   decide
   (valueOk (decL decMsg (encL (encMsg 1) 1 l)) start
   (Msg.slot (List.getD l (Int.toNat place) default)) (Msg.value (List.getD l (Int.toNat place) default)))
   else false) →
   (VLe (V.bool b_1) (V.bool (decide (propOk f l place start)))))))))))))))))))))))))))))))))) := by
    obtain ⟨hr, hl⟩ := hpre
    simp only [decL_Msg]
    refine ⟨⟨VLe.refl _, hr.len⟩, fun h => vle_bool ?_, fun h => ?_⟩
    · have h1 : ¬ isAt l place 1 := by
        intro g
        rw [decide_eq_true g] at h
        cases h
      symm
      exact decide_eq_false fun g => h1 g.1
    have h1 : isAt l place 1 := by
      apply Classical.byContradiction
      intro g
      rw [decide_eq_false g] at h
      cases h
    obtain ⟨hv, hsl⟩ := propRange hr h1
    have h3 := h1.1
    unfold inL inR at h3
    have hst : ∀ b : Bool, (b = bif (l.getD place.toNat default).sender == primaryF f (l.getD place.toNat default).view then decide (if (l.getD place.toNat default).view = 0 then start = -1 else newOk f l start ∧ (atM l start).view = (l.getD place.toNat default).view) else false) → b = true → VLe (encL (encMsg 1) 1 l) (encL (encMsg 1) 1 l) ∧ pr40 l start (l.getD place.toNat default).slot (l.getD place.toNat default).value := by
      intro b hb hb2
      refine ⟨VLe.refl _, f, hr, hl, hsl, ?_⟩
      rw [hb] at hb2
      cases hq : ((l.getD place.toNat default).sender == primaryF f (l.getD place.toNat default).view) with
      | false => rw [hq] at hb2; cases hb2
      | true =>
        rw [hq] at hb2
        have := of_decide_eq_true hb2
        split at this
        · exact Or.inl this
        · exact Or.inr this.1
    refine ⟨by omega, ⟨hr.okf, hv⟩, ?_⟩
    repeat (first | (refine And.intro (fun h _ => h) ?_) | (refine And.intro (fun _ h => h) ?_) | (refine And.intro ?aa ?_; case aa => (exact (fun _ => ⟨VLe.refl _, hr, hl⟩))) | (refine And.intro ?aa ?_; case aa => (exact (hst _ hq))) | (refine And.intro ?aa ?_; case aa => (intros; simp_all [pr38, pr39, pr36, pr40]; done)) | (refine And.intro ?aa ?_; case aa => (intros; exact inK64 (by omega))) | (refine And.intro ?aa ?_; case aa => (intros; simp only [decide_eq_true_eq] at *; omega)) | (intro q hq))
    subst_vars
    refine vle_bool ?_
    rw [Bool.eq_iff_iff, decide_eq_true_eq]
    unfold propOk startOk
    simp [h1, atM, and_assoc]
  exact Eq.mp (by kernel_rfl) key
theorem so21 : Sound Tryz.prog 21 sp21 := by
  refine sound_of_body hmix (pol := 0) Tryz.func21 rfl (by kernel_rfl) fun args bin ob r bout hDe hob => ?_
  unfold sp21 at hDe
  split at hDe
  · rename_i a0 a1 a2 a3
    cases hDe
    exact ⟨rfl, rfl, Nat.le_of_ble_eq_true (by kernel_rfl), cx21 a0 ((decL decMsg) a1) a2 a3, Eq.mp (by kernel_rfl) htt, Eq.mp (by kernel_rfl) da21, Eq.mp (by kernel_rfl) (noM_sound (P := Tryz.prog)), by kernel_rfl, [.int .i64 (a0), encL (encMsg 1) 1 (((decL decMsg) a1)), .int .i64 (a2), .int .i64 (a3)], args_of_vles (⟨VLe.refl _, hob.1, VLe.refl _, VLe.refl _, trivial⟩), Eq.mp (by kernel_rfl) (bd21 a0 ((decL decMsg) a1) a2 a3 (hob.2))⟩
  · cases hDe

/-! ### impl.proposeRight -/
def pr28 (f : Int) (l : List Msg) (place : Int) (start : Int) : Prop := Right f l ∧ bdL l
noncomputable def rs28 (f : Int) (l : List Msg) (place : Int) (start : Int) : V := .bool (decide (propOk f l place start))
noncomputable def sp28 : FSpec := fun args bin => match args, bin with
  | [.int .i64 a0, a1, .int .i64 a2, .int .i64 a3], [] => some (VLe a1 (encL (encMsg 1) 1 (((decL decMsg) a1))) ∧ pr28 a0 ((decL decMsg) a1) a2 a3, rs28 a0 ((decL decMsg) a1) a2 a3, [])
  | _, _ => none
noncomputable def D28 : Nat → Option (Bool × FSpec) := lk [(48, (false, sp48)), (51, (false, sp51)), (49, (false, sp49)), (52, (false, sp52o))]
theorem da28 : SoundAll Tryz.prog D28 := soundAll_cons so48 (soundAll_cons so51 (soundAll_cons so49 (soundAll_cons so52o (soundAll_nil))))
noncomputable def cx28 (f : Int) (l : List Msg) (place : Int) (start : Int) : Cx := ⟨tt, D28, Tryz.f28.ntmps, [0, 1, 2, 3, 8, 9, 10, 16, 32, 35, 57, 69], [], [], fun _ => none, [], noM, []⟩
theorem bd28 (f : Int) (l : List Msg) (place : Int) (start : Int) (hpre : pr28 f l place start) : bodyP (cx28 f l place start) Tryz.f28 0 [.int .i64 (f), encL (encMsg 1) 1 (l), .int .i64 (place), .int .i64 (start)] (fun rr => VLe rr (rs28 f l place start)) := by
  have key :
      ((inK IntKind.i64 ((↑(List.length l) : Int) - (1 : Int))) ∧
   ((pr48 place (0 : Int) ((↑(List.length l) : Int) - (1 : Int))) ∧
   ((((!decide (inR place (0 : Int) ((↑(List.length l) : Int) - (1 : Int)))) = true) →
   (VLe (V.bool false) (V.bool (decide (propOk f l place start))))) ∧
   (((!decide (inR place (0 : Int) ((↑(List.length l) : Int) - (1 : Int)))) = false) →
   ((((0 : Int) ≤ place) ∧
   (place < (↑(List.length l) : Int))) ∧
   ((tq (!Msg.kind (List.getD l (Int.toNat place) default) != (1 : Int))) ∧
   ((tq (!Msg.kind (List.getD l (Int.toNat place) default) != (1 : Int))) ∧
   ((tq (!Msg.kind (List.getD l (Int.toNat place) default) != (1 : Int))) ∧
   ((tq (!Msg.kind (List.getD l (Int.toNat place) default) != (1 : Int))) ∧
   ((((!Msg.kind (List.getD l (Int.toNat place) default) != (1 : Int)) = true) →
   (pr51 f (Msg.view (List.getD l (Int.toNat place) default)))) ∧
   ((tq (!Msg.kind (List.getD l (Int.toNat place) default) != (1 : Int))) ∧
   ((tq (!Msg.kind (List.getD l (Int.toNat place) default) != (1 : Int))) ∧
   (((true = true) →
   (((Msg.kind (List.getD l (Int.toNat place) default) != (1 : Int)) = false) →
   ((!Msg.kind (List.getD l (Int.toNat place) default) != (1 : Int)) = true))) ∧
   (∀ b : Bool,
   ((b =
   bif Msg.kind (List.getD l (Int.toNat place) default) != (1 : Int) then true
   else
   Msg.sender (List.getD l (Int.toNat place) default) != primaryF f (Msg.view (List.getD l (Int.toNat place) default))) →
   (((b = true) →
   (VLe (V.bool false) (V.bool (decide (propOk f l place start))))) ∧
   ((b = false) →
   ((((Msg.view (List.getD l (Int.toNat place) default) == (0 : Int)) = true) →
   ((tq (start == (-1 : Int))) ∧
   ((tq (start == (-1 : Int))) ∧
   (((true = true) →
   (((start == (-1 : Int)) = true) →
   ((start == (-1 : Int)) = true))) ∧
   (∀ b_1 : Bool,
   ((b_1 = bif start == (-1 : Int) then decide (Msg.value (List.getD l (Int.toNat place) default) > (0 : Int)) else false) →
   (VLe (V.bool b_1) (V.bool (decide (propOk f l place start)))))))))) ∧
   (((Msg.view (List.getD l (Int.toNat place) default) == (0 : Int)) = false) →
   (((VLe (encL (encMsg 1) 1 l)
   (encL (encMsg 1) 1 (decL decMsg (encL (encMsg 1) 1 l)))) ∧
   (pr49 f (decL decMsg (encL (encMsg 1) 1 l)) start)) ∧
   ((tq (!!decide (newOk f (decL decMsg (encL (encMsg 1) 1 l)) start))) ∧
   ((tq (!!decide (newOk f (decL decMsg (encL (encMsg 1) 1 l)) start))) ∧
   ((((!!decide (newOk f (decL decMsg (encL (encMsg 1) 1 l)) start)) = true) →
   (((0 : Int) ≤ start) ∧
   (start < (↑(List.length l) : Int)))) ∧
   ((tq (!!decide (newOk f (decL decMsg (encL (encMsg 1) 1 l)) start))) ∧
   ((tq (!!decide (newOk f (decL decMsg (encL (encMsg 1) 1 l)) start))) ∧
   ((tq (!!decide (newOk f (decL decMsg (encL (encMsg 1) 1 l)) start))) ∧
   ((tq (!!decide (newOk f (decL decMsg (encL (encMsg 1) 1 l)) start))) ∧
   ((tq (!!decide (newOk f (decL decMsg (encL (encMsg 1) 1 l)) start))) ∧
   (((true = true) →
   (((!decide (newOk f (decL decMsg (encL (encMsg 1) 1 l)) start)) = false) →
   ((!!decide (newOk f (decL decMsg (encL (encMsg 1) 1 l)) start)) = true))) ∧
   (∀ b_1 : Bool,
   ((b_1 =
   bif !decide (newOk f (decL decMsg (encL (encMsg 1) 1 l)) start) then true
   else Msg.view (List.getD l (Int.toNat start) default) != Msg.view (List.getD l (Int.toNat place) default)) →
   (((b_1 = true) →
   (VLe (V.bool false) (V.bool (decide (propOk f l place start))))) ∧
   ((b_1 = false) →
   ((((0 : Int) ≤ start) ∧
   (start < (↑(List.length l) : Int))) ∧
   (((VLe (encL (encMsg 1) 1 l)
   (encL (encMsg 1) 1 (decL decMsg (encL (encMsg 1) 1 l)))) ∧
   ((VLe (encL encI 1 (Msg.refs (List.getD l (Int.toNat start) default)))
   (encL encI 1 (decL decI (encL encI 1 (Msg.refs (List.getD l (Int.toNat start) default)))))) ∧
   (pr52o (decL decMsg (encL (encMsg 1) 1 l))
   (decL decI (encL encI 1 (Msg.refs (List.getD l (Int.toNat start) default))))))) ∧
   (((decide
   (Msg.slot (List.getD l (Int.toNat place) default) ≤
   (↑(List.length
   (ro52o (decL decMsg (encL (encMsg 1) 1 l))
   (decL decI (encL encI 1 (Msg.refs (List.getD l (Int.toNat start) default)))))) :
   Int)) =
   true) →
   ((inK IntKind.i64 (Msg.slot (List.getD l (Int.toNat place) default) - (1 : Int))) ∧
   ((((0 : Int) ≤ Msg.slot (List.getD l (Int.toNat place) default) - (1 : Int)) ∧
   (Msg.slot (List.getD l (Int.toNat place) default) - (1 : Int) <
   (↑(List.length
   (ro52o (decL decMsg (encL (encMsg 1) 1 l))
   (decL decI (encL encI 1 (Msg.refs (List.getD l (Int.toNat start) default)))))) :
   Int))) ∧
   ((Int.toNat (Msg.slot (List.getD l (Int.toNat place) default) - (1 : Int)) <
   List.length
   (ro52o (decL decMsg (encL (encMsg 1) 1 l))
   (decL decI (encL encI 1 (Msg.refs (List.getD l (Int.toNat start) default)))))) ∧
   (VLe
   (V.bool
   (Msg.value (List.getD l (Int.toNat place) default) ==
   List.getD
   (ro52o (decL decMsg (encL (encMsg 1) 1 l))
   (decL decI (encL encI 1 (Msg.refs (List.getD l (Int.toNat start) default)))))
   (Int.toNat (Msg.slot (List.getD l (Int.toNat place) default) - (1 : Int))) default))
   (V.bool (decide (propOk f l place start)))))))) ∧
   ((decide
   (Msg.slot (List.getD l (Int.toNat place) default) ≤
   (↑(List.length
   (ro52o (decL decMsg (encL (encMsg 1) 1 l))
   (decL decI (encL encI 1 (Msg.refs (List.getD l (Int.toNat start) default)))))) :
   Int)) =
   false) →
   (VLe (V.bool (decide (Msg.value (List.getD l (Int.toNat place) default) > (0 : Int))))
   (V.bool (decide (propOk f l place start))))))))))))))))))))))))))))))))))))))))) := by
    obtain ⟨hr, hl⟩ := hpre
    have h240 := hr.len
    simp only [decL_Msg, decL_ints, ro52o]
    refine ⟨inK64 (by omega), trivial, fun h => vle_bool ?_, fun h => ?_⟩
    · symm
      refine decide_eq_false fun g => ?_
      have : inR place 0 ((l.length : Int) - 1) := g.1.1
      rw [decide_eq_true this] at h
      cases h
    have hin : inR place 0 ((l.length : Int) - 1) := by
      apply Classical.byContradiction
      intro g
      rw [decide_eq_false g] at h
      cases h
    have hin' := hin
    unfold inR at hin'
    have hvw : inR (l.getD place.toNat default).view 0 20 := (hr.memGood (atM_mem (show inL l place from hin))).ranged.1
    refine ⟨by omega, ?_⟩
    repeat (first | (refine And.intro (fun h _ => h) ?_) | (refine And.intro (fun _ h => h) ?_) | (refine And.intro ?aa ?_; case aa => (exact (fun _ => ⟨hr.okf, hvw⟩))) | (refine And.intro ?aa ?_; case aa => (intros; simp_all [pr48, pr51, pr49, pr52o]; done)) | (refine And.intro ?aa ?_; case aa => (intros; exact inK64 (by omega))) | (refine And.intro ?aa ?_; case aa => (intros; simp only [decide_eq_true_eq] at *; omega)) | (intro q hq))
    have e0 : q = decide ((l.getD place.toNat default).kind ≠ 1 ∨ (l.getD place.toNat default).sender ≠ primaryF f (l.getD place.toNat default).view) := by
      subst_vars
      rw [Bool.eq_iff_iff, decide_eq_true_eq]
      simp
    clear hq
    refine ⟨fun h2 => vle_bool ?_, fun h2 => ?_⟩
    · rw [e0] at h2
      have h3 := of_decide_eq_true h2
      symm
      exact decide_eq_false fun g => h3.elim (fun a => a g.1.2) fun a => a g.2.1
    rw [e0] at h2
    have h4 := of_decide_eq_false h2
    have hk : (l.getD place.toNat default).kind = 1 := Classical.byContradiction fun a => h4 (Or.inl a)
    have hp : (l.getD place.toNat default).sender = primaryF f (l.getD place.toNat default).view := Classical.byContradiction fun a => h4 (Or.inr a)
    have hat : isAt l place 1 := ⟨hin, hk⟩
    obtain ⟨_, hsl⟩ := propRange hr hat
    unfold inR at hsl
    have hpo : propOk f l place start ↔ startOk f l (l.getD place.toNat default).view start ∧ valueOk l start (l.getD place.toNat default).slot (l.getD place.toNat default).value := ⟨fun g => ⟨g.2.2.1, g.2.2.2⟩, fun g => ⟨hat, hp, g.1, g.2⟩⟩
    clear e0 h4 h2
    refine ⟨fun h2 => ?_, fun h2 => ?_⟩
    · have hv0 : (l.getD place.toNat default).view = 0 := eq_of_beq h2
      repeat (first | (refine And.intro (fun h _ => h) ?_) | (refine And.intro (fun _ h => h) ?_) | (refine And.intro ?aa ?_; case aa => (exact trivial)) | (refine And.intro ?aa ?_; case aa => (intros; simp_all [pr48, pr51, pr49, pr52o]; done)) | (refine And.intro ?aa ?_; case aa => (intros; exact inK64 (by omega))) | (refine And.intro ?aa ?_; case aa => (intros; simp only [decide_eq_true_eq] at *; omega)) | (intro q hq))
      subst_vars
      refine vle_bool ?_
      rw [Bool.eq_iff_iff, decide_eq_true_eq, hpo]
      unfold startOk valueOk
      rw [if_pos hv0]
      by_cases a1 : start = -1
      · have : start < 0 := by omega
        simp [a1]
      · simp [a1]
    have hv0 : ¬ (l.getD place.toNat default).view = 0 := fun e => by rw [e] at h2; cases h2
    have hnin : (!!decide (newOk f l start)) = true → 0 ≤ start ∧ start < l.length := by
      intro g
      have g2 : newOk f l start := by
        rw [Bool.not_not] at g
        exact of_decide_eq_true g
      have := g2.1.1
      unfold inL inR at this
      omega
    refine ⟨⟨VLe.refl _, hr, hl⟩, ?_⟩
    repeat (first | (refine And.intro (fun h _ => h) ?_) | (refine And.intro (fun _ h => h) ?_) | (refine And.intro ?aa ?_; case aa => (exact hnin)) | (refine And.intro ?aa ?_; case aa => (intros; simp_all [pr48, pr51, pr49, pr52o]; done)) | (refine And.intro ?aa ?_; case aa => (intros; exact inK64 (by omega))) | (refine And.intro ?aa ?_; case aa => (intros; simp only [decide_eq_true_eq] at *; omega)) | (intro q hq))
    have e1 : q = decide (¬ newOk f l start ∨ (l.getD start.toNat default).view ≠ (l.getD place.toNat default).view) := by
      subst_vars
      rw [Bool.eq_iff_iff, decide_eq_true_eq]
      by_cases a1 : newOk f l start <;> simp [a1]
    clear hq
    have hso : startOk f l (l.getD place.toNat default).view start ↔ newOk f l start ∧ (l.getD start.toNat default).view = (l.getD place.toNat default).view := by
      unfold startOk
      rw [if_neg hv0]
      exact Iff.rfl
    refine ⟨fun h3 => vle_bool ?_, fun h3 => ?_⟩
    · rw [e1] at h3
      have h5 := of_decide_eq_true h3
      symm
      refine decide_eq_false fun g => ?_
      have g1 := hso.1 (hpo.1 g).1
      exact h5.elim (fun a => a g1.1) fun a => a g1.2
    rw [e1] at h3
    have h5 := of_decide_eq_false h3
    have hn : newOk f l start := Classical.byContradiction fun a => h5 (Or.inl a)
    have hvv : (l.getD start.toNat default).view = (l.getD place.toNat default).view := Classical.byContradiction fun a => h5 (Or.inr a)
    have hni := hn.1.1
    unfold inL inR at hni
    obtain ⟨g1, g2⟩ := new_pick hr hn
    have hs0 : ¬ start < 0 := by omega
    have hpv : propOk f l place start ↔ valueOk l start (l.getD place.toNat default).slot (l.getD place.toNat default).value := by
      rw [hpo]
      exact ⟨fun g => g.2, fun g => ⟨hso.2 ⟨hn, hvv⟩, g⟩⟩
    refine ⟨by omega, ⟨VLe.refl _, VLe.refl _, ⟨f, hr⟩, hl, g1, g2⟩, fun h6 => ?_, fun h6 => ?_⟩
    · have h7 := of_decide_eq_true h6
      refine ⟨inK64 (by omega), by omega, by omega, vle_bool ?_⟩
      rw [Bool.eq_iff_iff, decide_eq_true_eq, hpv]
      unfold valueOk
      rw [if_neg hs0]
      show _ ↔ if (l.getD place.toNat default).slot ≤ ((pickL l (l.getD start.toNat default).refs).length : Int) then _ else _
      rw [if_pos h7]
      exact beq_iff_eq
    · have h7 := of_decide_eq_false h6
      refine vle_bool ?_
      rw [Bool.eq_iff_iff, decide_eq_true_eq, decide_eq_true_eq, hpv]
      unfold valueOk
      rw [if_neg hs0]
      show _ ↔ if (l.getD place.toNat default).slot ≤ ((pickL l (l.getD start.toNat default).refs).length : Int) then _ else _
      rw [if_neg h7]
  exact Eq.mp (by kernel_rfl) key
theorem so28 : Sound Tryz.prog 28 sp28 := by
  refine sound_of_body hmix (pol := 0) Tryz.func28 rfl (by kernel_rfl) fun args bin ob r bout hDe hob => ?_
  unfold sp28 at hDe
  split at hDe
  · rename_i a0 a1 a2 a3
    cases hDe
    exact ⟨rfl, rfl, Nat.le_of_ble_eq_true (by kernel_rfl), cx28 a0 ((decL decMsg) a1) a2 a3, Eq.mp (by kernel_rfl) htt, Eq.mp (by kernel_rfl) da28, Eq.mp (by kernel_rfl) (noM_sound (P := Tryz.prog)), by kernel_rfl, [.int .i64 (a0), encL (encMsg 1) 1 (((decL decMsg) a1)), .int .i64 (a2), .int .i64 (a3)], args_of_vles (⟨VLe.refl _, hob.1, VLe.refl _, VLe.refl _, trivial⟩), Eq.mp (by kernel_rfl) (bd28 a0 ((decL decMsg) a1) a2 a3 (hob.2))⟩
  · cases hDe

end Go.Av
