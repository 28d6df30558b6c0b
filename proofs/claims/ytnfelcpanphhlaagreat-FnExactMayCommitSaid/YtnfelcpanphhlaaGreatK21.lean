/- May a replica commit? -/
import Derived.Test.YtnfelcpanphhlaaGreatK20
namespace Go.Av
open Go.Proofs
set_option maxRecDepth 100000
set_option linter.unusedVariables false
set_option linter.unusedSimpArgs false

/-- A pointer to a pointer to a replica; a pointer to the function that asks for a slot. -/
abbrev RefReplica := Replica
def encPRefReplica (t : Nat) (x : Replica) : V := .ptr [encPReplica t x] 0 t
def decPRefReplica : V → Replica
  | .ptr [c] _ _ => decPReplica c
  | _ => default
@[simp] theorem dec_encPRefReplica (t : Nat) (x : Replica) : decPRefReplica (encPRefReplica t x) = x := dec_encPReplica t x
abbrev Fslot := Int
def encPFslot (t : Nat) (x : Int) : V := .ptr [.fn 148 [encPInt t x]] 0 t
def decPFslot : V → Int
  | .ptr [.fn _ [c]] _ _ => decPInt c
  | _ => default
@[simp] theorem dec_encPFslot (t : Nat) (x : Int) : decPFslot (encPFslot t x) = x := rfl

theorem nd {p : Prop} [Decidable p] (h : (!decide p) = true) : ¬ p := by simpa using h
theorem pd {p : Prop} [Decidable p] (h : (!decide p) = false) : p := by simpa using h
theorem replica_right {f : Int} {l : List Msg} {r : Replica} (h : replicaFault f l r = 0) : Right f l ∧ inR r.view 0 20 := by
  unfold replicaFault at h
  split at h
  · contradiction
  · rename_i h0
    refine ⟨right_of (Classical.not_not.1 h0), ?_⟩
    unfold repF at h
    split at h
    · simp at h
    · rename_i h1
      exact (Classical.not_not.1 h1).2.1
/-- Did a replica send a message of a slot in its view? -/
noncomputable def isSent (r : Replica) (kind slot : Int) (m : Msg) : Bool := decide (m.sender = r.id ∧ m.kind = kind ∧ m.view = r.view ∧ m.slot = slot)
noncomputable def sentAt (l : List Msg) (r : Replica) (kind slot : Int) : Bool := l.any (isSent r kind slot)
noncomputable def commitF (f : Int) (l : List Msg) (r : Replica) (slot value : Int) : Int :=
  if ¬ (inR slot 1 30 ∧ inR value 0 12) then 3 else if ¬ (r.view = 0 ∨ r.start ≠ -1) then 8
  else if ¬ enough f l 2 ⟨slot, r.view, value⟩ then 10 else if sentAt l r 3 slot = true then 6 else 0
noncomputable def mayCommitF (f : Int) (l : List Msg) (r : Replica) (slot value : Int) : Int :=
  if replicaFault f l r ≠ 0 then replicaFault f l r else commitF f l r slot value


/-! ### Replica).isIn -/
def pr118 (r : Replica) : Prop := True
noncomputable def rs118 (r : Replica) : V := .bool (decide (r.view = 0 ∨ r.start ≠ -1))
noncomputable def sp118 : FSpec := fun args bin => match args, bin with
  | [a0], [] => some (VLe a0 (encPReplica 1 ((decPReplica a0))) ∧ pr118 (decPReplica a0), rs118 (decPReplica a0), [])
  | _, _ => none
noncomputable def D118 : Nat → Option (Bool × FSpec) := lk []
theorem da118 : SoundAll Tryz.prog D118 := soundAll_nil
noncomputable def cx118 (r : Replica) : Cx := ⟨tt, D118, Tryz.f118.ntmps, [0, 2], [], [], fun _ => none, [], noM, []⟩
theorem bd118 (r : Replica) (hpre : pr118 r) : bodyP (cx118 r) Tryz.f118 0 [encPReplica 1 (r)] (fun rr => VLe rr (rs118 r)) := by
  have key :
      ((tq (!Replica.view r == (0 : Int))) ∧
   ((tq (!Replica.view r == (0 : Int))) ∧
   ((tq (!Replica.view r == (0 : Int))) ∧
   ((tq (!Replica.view r == (0 : Int))) ∧
   (((true = true) →
   (((Replica.view r == (0 : Int)) = false) →
   ((!Replica.view r == (0 : Int)) = true))) ∧
   (∀ b : Bool,
   ((b = bif Replica.view r == (0 : Int) then true else Replica.start r != (-1 : Int)) →
   (VLe (V.bool b) (V.bool (decide (Replica.view r = (0 : Int) ∨ Replica.start r ≠ (-1 : Int)))))))))))) := by
    repeat (first | (refine And.intro (fun h _ => h) ?_) | (refine And.intro (fun _ h => h) ?_) | (refine And.intro ?aa ?_; case aa => (exact trivial)) | (refine And.intro ?aa ?_; case aa => (intros; simp_all []; done)) | (refine And.intro ?aa ?_; case aa => (intros; exact inK64 (by omega))) | (refine And.intro ?aa ?_; case aa => (intros; simp only [decide_eq_true_eq] at *; omega)) | (intro q hq))
    subst_vars
    refine vle_bool ?_
    rw [Bool.eq_iff_iff, decide_eq_true_eq]
    by_cases a1 : r.view = 0 <;> simp [a1]
  exact Eq.mp (by kernel_rfl) key
theorem so118 : Sound Tryz.prog 118 sp118 := by
  refine sound_of_body hmix (pol := 0) Tryz.func118 rfl (by kernel_rfl) fun args bin ob r bout hDe hob => ?_
  unfold sp118 at hDe
  split at hDe
  · rename_i a0
    cases hDe
    exact ⟨rfl, rfl, Nat.le_of_ble_eq_true (by kernel_rfl), cx118 (decPReplica a0), Eq.mp (by kernel_rfl) htt, Eq.mp (by kernel_rfl) da118, Eq.mp (by kernel_rfl) (noM_sound (P := Tryz.prog)), by kernel_rfl, [encPReplica 1 ((decPReplica a0))], args_of_vles (⟨hob.1, trivial⟩), Eq.mp (by kernel_rfl) (bd118 (decPReplica a0) (hob.2))⟩
  · cases hDe

/-! ### Replica).atSlot$1 -/
def pr148 (m : Msg) (slot : Int) : Prop := True
noncomputable def rs148 (m : Msg) (slot : Int) : V := .bool (decide (m.slot = slot))
noncomputable def sp148 : FSpec := fun args bin => match args, bin with
  | [a0, a1], [] => some (VLe a0 (encMsg 1 ((decMsg a0))) ∧ VLe a1 (encPInt 1 ((decPInt a1))) ∧ pr148 (decMsg a0) (decPInt a1), rs148 (decMsg a0) (decPInt a1), [])
  | _, _ => none
noncomputable def D148 : Nat → Option (Bool × FSpec) := lk []
theorem da148 : SoundAll Tryz.prog D148 := soundAll_nil
noncomputable def cx148 (m : Msg) (slot : Int) : Cx := ⟨tt, D148, Tryz.f148.ntmps, [0, 1, 2, 3], [], [], fun _ => none, [], noM, []⟩
theorem bd148 (m : Msg) (slot : Int) (hpre : pr148 m slot) : bodyP (cx148 m slot) Tryz.f148 0 [encMsg 1 (m), encPInt 1 (slot)] (fun rr => VLe rr (rs148 m slot)) := by
  have key :
      (VLe (V.bool (Msg.slot m == slot)) (V.bool (decide (Msg.slot m = slot)))) := by
    exact vle_bool (by rw [Bool.eq_iff_iff, decide_eq_true_eq]; simp)
  exact Eq.mp (by kernel_rfl) key
theorem so148 : Sound Tryz.prog 148 sp148 := by
  refine sound_of_body hmix (pol := 0) Tryz.func148 rfl (by kernel_rfl) fun args bin ob r bout hDe hob => ?_
  unfold sp148 at hDe
  split at hDe
  · rename_i a0 a1
    cases hDe
    exact ⟨rfl, rfl, Nat.le_of_ble_eq_true (by kernel_rfl), cx148 (decMsg a0) (decPInt a1), Eq.mp (by kernel_rfl) htt, Eq.mp (by kernel_rfl) da148, Eq.mp (by kernel_rfl) (noM_sound (P := Tryz.prog)), by kernel_rfl, [encMsg 1 ((decMsg a0)), encPInt 1 ((decPInt a1))], args_of_vles (⟨hob.1, hob.2.1, trivial⟩), Eq.mp (by kernel_rfl) (bd148 (decMsg a0) (decPInt a1) (hob.2.2))⟩
  · cases hDe

/-! ### Replica).sent$1 -/
def pr161 (m : Msg) (r : RefReplica) (kind : Int) (is_ : Fslot) : Prop := True
noncomputable def rs161 (m : Msg) (r : RefReplica) (kind : Int) (is_ : Fslot) : V := .bool (isSent r kind is_ m)
noncomputable def sp161 : FSpec := fun args bin => match args, bin with
  | [a0, a1, a2, a3], [] => some (VLe a0 (encMsg 1 ((decMsg a0))) ∧ VLe a1 (encPRefReplica 1 ((decPRefReplica a1))) ∧ VLe a2 (encPInt 1 ((decPInt a2))) ∧ VLe a3 (encPFslot 1 ((decPFslot a3))) ∧ pr161 (decMsg a0) (decPRefReplica a1) (decPInt a2) (decPFslot a3), rs161 (decMsg a0) (decPRefReplica a1) (decPInt a2) (decPFslot a3), [])
  | _, _ => none
noncomputable def D161 : Nat → Option (Bool × FSpec) := lk [(148, (false, sp148))]
theorem da161 : SoundAll Tryz.prog D161 := soundAll_cons so148 (soundAll_nil)
noncomputable def cx161 (m : Msg) (r : RefReplica) (kind : Int) (is_ : Fslot) : Cx := ⟨tt, D161, Tryz.f161.ntmps, [0, 1, 2, 3, 4, 5], [], [], fun _ => none, [], noM, []⟩
theorem bd161 (m : Msg) (r : RefReplica) (kind : Int) (is_ : Fslot) (hpre : pr161 m r kind is_) : bodyP (cx161 m r kind is_) Tryz.f161 0 [encMsg 1 (m), encPRefReplica 1 (r), encPInt 1 (kind), encPFslot 1 (is_)] (fun rr => VLe rr (rs161 m r kind is_)) := by
  have key :
      ((tq (Msg.sender m == Replica.id r)) ∧
   ((tq (Msg.sender m == Replica.id r)) ∧
   ((tq (Msg.sender m == Replica.id r)) ∧
   (((true = true) →
   (((Msg.sender m == Replica.id r) = true) →
   ((Msg.sender m == Replica.id r) = true))) ∧
   (∀ b : Bool,
   ((b = bif Msg.sender m == Replica.id r then Msg.kind m == kind else false) →
   ((tq (b)) ∧
   ((tq (b)) ∧
   ((tq (b)) ∧
   ((tq (b)) ∧
   ((tq (b)) ∧
   ((tq (b)) ∧
   (((true = true) →
   ((b = true) →
   (b = true))) ∧
   (∀ b_1 : Bool,
   ((b_1 = bif b then Msg.view m == Replica.view r else false) →
   ((tq (b_1)) ∧
   ((tq (b_1)) ∧
   (((b_1 = true) →
   ((VLe (encMsg 1 m) (encMsg 1 (decMsg (encMsg 1 m)))) ∧
   ((VLe (V.ptr [V.int IntKind.i64 is_] 0 1)
   (encPInt 1 (decPInt (V.ptr [V.int IntKind.i64 is_] 0 1)))) ∧
   (pr148 (decMsg (encMsg 1 m)) (decPInt (V.ptr [V.int IntKind.i64 is_] 0 1)))))) ∧
   (((true = true) →
   ((b_1 = true) →
   (b_1 = true))) ∧
   (∀ b_2 : Bool,
   ((b_2 =
   bif b_1 then
   decide (Msg.slot (decMsg (encMsg 1 m)) = decPInt (V.ptr [V.int IntKind.i64 is_] 0 1))
   else false) →
   (VLe (V.bool b_2) (V.bool (isSent r kind is_ m)))))))))))))))))))))))) := by
    simp only [dec_encMsg, dec_encPRefReplica, decPInt_ptr, dec_encPFslot]
    repeat (first | (refine And.intro (fun h _ => h) ?_) | (refine And.intro (fun _ h => h) ?_) | (refine And.intro ?aa ?_; case aa => (exact fun _ => ⟨VLe.refl _, VLe.refl _, trivial⟩)) | (refine And.intro ?aa ?_; case aa => (intros; simp_all [pr148]; done)) | (refine And.intro ?aa ?_; case aa => (intros; exact inK64 (by omega))) | (refine And.intro ?aa ?_; case aa => (intros; simp only [decide_eq_true_eq] at *; omega)) | (intro q hq))
    subst_vars
    refine vle_bool ?_
    unfold isSent
    rw [Bool.eq_iff_iff, decide_eq_true_eq]
    by_cases a1 : m.sender = r.id <;> by_cases a2 : m.kind = kind <;> by_cases a3 : m.view = r.view <;> simp [a1, a2, a3]
  exact Eq.mp (by kernel_rfl) key
theorem so161 : Sound Tryz.prog 161 sp161 := by
  refine sound_of_body hmix (pol := 0) Tryz.func161 rfl (by kernel_rfl) fun args bin ob r bout hDe hob => ?_
  unfold sp161 at hDe
  split at hDe
  · rename_i a0 a1 a2 a3
    cases hDe
    exact ⟨rfl, rfl, Nat.le_of_ble_eq_true (by kernel_rfl), cx161 (decMsg a0) (decPRefReplica a1) (decPInt a2) (decPFslot a3), Eq.mp (by kernel_rfl) htt, Eq.mp (by kernel_rfl) da161, Eq.mp (by kernel_rfl) (noM_sound (P := Tryz.prog)), by kernel_rfl, [encMsg 1 ((decMsg a0)), encPRefReplica 1 ((decPRefReplica a1)), encPInt 1 ((decPInt a2)), encPFslot 1 ((decPFslot a3))], args_of_vles (⟨hob.1, hob.2.1, hob.2.2.1, hob.2.2.2.1, trivial⟩), Eq.mp (by kernel_rfl) (bd161 (decMsg a0) (decPRefReplica a1) (decPInt a2) (decPFslot a3) (hob.2.2.2.2))⟩
  · cases hDe

/-! ### slices.IndexFunc(()loop.example/g00369/impl.Msg,loop.example/g00369/impl.Msg)@Replica).sent$1 -/
def pr131_161 (xs : List Msg) (r : RefReplica) (kind : Int) (is_ : Fslot) : Prop := xs.length ≤ maxLen ∧ (True)
noncomputable def rs131_161 (xs : List Msg) (r : RefReplica) (kind : Int) (is_ : Fslot) : V := .int .i64 (idxF (fun m => isSent r kind is_ m) xs)
noncomputable def sp131_161 : FSpec := fun args bin => match args, bin with
  | [a0, .fn 161 [a1, a2, a3]], [] => some (VLe a0 (encL (encMsg 1) 1 (((decL decMsg) a0))) ∧ VLe a1 (encPRefReplica 1 ((decPRefReplica a1))) ∧ VLe a2 (encPInt 1 ((decPInt a2))) ∧ VLe a3 (encPFslot 1 ((decPFslot a3))) ∧ pr131_161 ((decL decMsg) a0) (decPRefReplica a1) (decPInt a2) (decPFslot a3), rs131_161 ((decL decMsg) a0) (decPRefReplica a1) (decPInt a2) (decPFslot a3), [])
  | _, _ => none
noncomputable def in131_161_2 (xs : List Msg) (r : RefReplica) (kind : Int) (is_ : Fslot) : LoopInv :=
  ⟨Nat, fun i => ⟨[(0, encL (encMsg 1) 1 xs), (1, .fn 161 [encPRefReplica 1 (r), encPInt 1 (kind), encPFslot 1 (is_)]), (7, .int .i64 xs.length), (8, .int .i64 i)], []⟩,
    fun i => i ≤ xs.length ∧ ∀ j, j < i → (fun m => isSent r kind is_ m) (xs.getD j default) = false, fun i => xs.length - i⟩
noncomputable def iv131_161 (xs : List Msg) (r : RefReplica) (kind : Int) (is_ : Fslot) : Nat → Option LoopInv := fun rg_ => match rg_ with
  | 2 => some (in131_161_2 xs r kind is_)
  | _ => none
noncomputable def D131_161 : Nat → Option (Bool × FSpec) := lk [(161, (false, sp161))]
theorem da131_161 : SoundAll Tryz.prog D131_161 := soundAll_cons so161 (soundAll_nil)
noncomputable def cx131_161 (xs : List Msg) (r : RefReplica) (kind : Int) (is_ : Fslot) : Cx := ⟨tt, D131_161, Tryz.f131.ntmps, [0, 1, 4, 5, 7, 8, 9, 16], [(2, ⟨[(0, none), (1, none), (7, none), (8, none)], []⟩)], [], iv131_161 xs r kind is_, [], noM, []⟩
theorem bd131_161 (xs : List Msg) (r : RefReplica) (kind : Int) (is_ : Fslot) (hpre : pr131_161 xs r kind is_) : bodyP (cx131_161 xs r kind is_) Tryz.f131 0 [encL (encMsg 1) 1 (xs), .fn 161 [encPRefReplica 1 (r), encPInt 1 (kind), encPFslot 1 (is_)]] (fun rr => VLe rr (rs131_161 xs r kind is_)) := by
  have key :
      ((∃ x : Nat, ((SLe
   (AS.mk
   [(0, encL (encMsg 1) 1 xs),
   (1, V.fn (161 : FuncId) [encPRefReplica 1 r, encPInt 1 kind, encPFslot 1 is_]),
   (7, V.int IntKind.i64 (↑(List.length xs) : Int)), (8, V.int IntKind.i64 (0 : Int))]
   [])
   (AS.mk
   [(0, encL (encMsg 1) 1 xs),
   (1, V.fn (161 : FuncId) [encPRefReplica 1 r, encPInt 1 kind, encPFslot 1 is_]),
   (7, V.int IntKind.i64 (↑(List.length xs) : Int)), (8, V.int IntKind.i64 (↑x : Int))]
   [])) ∧
   ((x ≤ List.length xs) ∧
   (∀ j : Nat,
   ((j < x) →
   (isSent r kind is_ (List.getD xs j default) = false)))))) ∧
   (∀ x : Nat,
   (((x ≤ List.length xs) ∧
   (∀ j : Nat,
   ((j < x) →
   (isSent r kind is_ (List.getD xs j default) = false)))) →
   (((decide ((↑x : Int) < (↑(List.length xs) : Int)) = true) →
   ((((0 : Int) ≤ (↑x : Int)) ∧
   ((↑x : Int) < (↑(List.length xs) : Int))) ∧
   (((VLe (encMsg 1 (List.getD xs (Int.toNat (↑x : Int)) default))
   (encMsg 1 (decMsg (encMsg 1 (List.getD xs (Int.toNat (↑x : Int)) default))))) ∧
   ((VLe (V.ptr [encPReplica 1 r] 0 1)
   (encPRefReplica 1 (decPRefReplica (V.ptr [encPReplica 1 r] 0 1)))) ∧
   ((VLe (V.ptr [V.int IntKind.i64 kind] 0 1)
   (encPInt 1 (decPInt (V.ptr [V.int IntKind.i64 kind] 0 1)))) ∧
   ((VLe (V.ptr [V.fn (148 : FuncId) [encPInt 1 is_]] 0 1)
   (encPFslot 1 (decPFslot (V.ptr [V.fn (148 : FuncId) [encPInt 1 is_]] 0 1)))) ∧
   (pr161 (decMsg (encMsg 1 (List.getD xs (Int.toNat (↑x : Int)) default)))
   (decPRefReplica (V.ptr [encPReplica 1 r] 0 1))
   (decPInt (V.ptr [V.int IntKind.i64 kind] 0 1))
   (decPFslot (V.ptr [V.fn (148 : FuncId) [encPInt 1 is_]] 0 1))))))) ∧
   (((isSent (decPRefReplica (V.ptr [encPReplica 1 r] 0 1))
   (decPInt (V.ptr [V.int IntKind.i64 kind] 0 1))
   (decPFslot (V.ptr [V.fn (148 : FuncId) [encPInt 1 is_]] 0 1))
   (decMsg (encMsg 1 (List.getD xs (Int.toNat (↑x : Int)) default))) =
   true) →
   (VLe (V.int IntKind.i64 (↑x : Int)) (V.int IntKind.i64 (idxF (fun (m : Msg) ↦ isSent r kind is_ m) xs)))) ∧
   ((isSent (decPRefReplica (V.ptr [encPReplica 1 r] 0 1))
   (decPInt (V.ptr [V.int IntKind.i64 kind] 0 1))
   (decPFslot (V.ptr [V.fn (148 : FuncId) [encPInt 1 is_]] 0 1))
   (decMsg (encMsg 1 (List.getD xs (Int.toNat (↑x : Int)) default))) =
   false) →
   ((inK IntKind.i64 ((↑x : Int) + (1 : Int))) ∧
   (∃ y : Nat, ((SLe
   (AS.mk
   [(0, encL (encMsg 1) 1 xs),
   (1, V.fn (161 : FuncId) [encPRefReplica 1 r, encPInt 1 kind, encPFslot 1 is_]),
   (7, V.int IntKind.i64 (↑(List.length xs) : Int)), (8, V.int IntKind.i64 ((↑x : Int) + (1 : Int)))]
   [])
   (AS.mk
   [(0, encL (encMsg 1) 1 xs),
   (1, V.fn (161 : FuncId) [encPRefReplica 1 r, encPInt 1 kind, encPFslot 1 is_]),
   (7, V.int IntKind.i64 (↑(List.length xs) : Int)), (8, V.int IntKind.i64 (↑y : Int))]
   [])) ∧
   (((y ≤ List.length xs) ∧
   (∀ j : Nat,
   ((j < y) →
   (isSent r kind is_ (List.getD xs j default) = false)))) ∧
   (List.length xs - y < List.length xs - x)))))))))) ∧
   ((decide ((↑x : Int) < (↑(List.length xs) : Int)) = false) →
   (VLe (V.int IntKind.i64 (-1 : Int)) (V.int IntKind.i64 (idxF (fun (m : Msg) ↦ isSent r kind is_ m) xs)))))))) := by
    obtain ⟨hlen, hp⟩ := hpre
    unfold maxLen at hlen
    refine ⟨⟨0, SLe.refl _, by omega, fun j hj => absurd hj (Nat.not_lt_zero j)⟩, ?_⟩
    rintro i ⟨hi, hj⟩
    refine ⟨fun h => ?_, fun h => ?_⟩
    · have hlt : i < xs.length := by simpa using h
      have hin : xs.getD i default ∈ xs := by simp [hlt]
      simp only [Int.toNat_natCast, dec_encMsg, dec_encPMsg, dec_encPInt, decL_Msg, dec_encPRefReplica, decPInt_ptr, dec_encPFslot]
      refine ⟨⟨by omega, by omega⟩, ⟨VLe.refl _, VLe.refl _, VLe.refl _, VLe.refl _, trivial⟩, fun h2 => vle_int (idxF_some hlt hj h2).symm, fun h2 => ⟨inK64 (by omega), i + 1, SLe.refl _, ⟨by omega, fun j h3 => ?_⟩, by omega⟩⟩
      rcases Nat.lt_or_ge j i with h4 | h4
      · exact hj j h4
      · have : j = i := by omega
        subst this
        exact h2
    · have hge : i = xs.length := by simp at h; omega
      exact vle_int (idxF_none fun j h3 => hj j (by omega)).symm
  exact Eq.mp (by kernel_rfl) key
theorem so131_161 : Sound Tryz.prog 131 sp131_161 := by
  refine sound_of_body hmix (pol := 0) Tryz.func131 rfl (by kernel_rfl) fun args bin ob r bout hDe hob => ?_
  unfold sp131_161 at hDe
  split at hDe
  · rename_i a0 a1 a2 a3
    cases hDe
    exact ⟨rfl, rfl, Nat.le_of_ble_eq_true (by kernel_rfl), cx131_161 ((decL decMsg) a0) (decPRefReplica a1) (decPInt a2) (decPFslot a3), Eq.mp (by kernel_rfl) htt, Eq.mp (by kernel_rfl) da131_161, Eq.mp (by kernel_rfl) (noM_sound (P := Tryz.prog)), by kernel_rfl, [encL (encMsg 1) 1 (((decL decMsg) a0)), .fn 161 [encPRefReplica 1 ((decPRefReplica a1)), encPInt 1 ((decPInt a2)), encPFslot 1 ((decPFslot a3))]], args_of_vles (⟨hob.1, vle_fn ⟨hob.2.1, hob.2.2.1, hob.2.2.2.1, trivial⟩, trivial⟩), Eq.mp (by kernel_rfl) (bd131_161 ((decL decMsg) a0) (decPRefReplica a1) (decPInt a2) (decPFslot a3) (hob.2.2.2.2))⟩
  · cases hDe

/-! ### slices.ContainsFunc(()loop.example/g00369/impl.Msg,loop.example/g00369/impl.Msg)@Replica).sent$1 -/
def pr160_161 (xs : List Msg) (r : RefReplica) (kind : Int) (is_ : Fslot) : Prop := xs.length ≤ maxLen ∧ (True)
noncomputable def rs160_161 (xs : List Msg) (r : RefReplica) (kind : Int) (is_ : Fslot) : V := .bool (xs.any (fun m => isSent r kind is_ m))
noncomputable def sp160_161 : FSpec := fun args bin => match args, bin with
  | [a0, .fn 161 [a1, a2, a3]], [] => some (VLe a0 (encL (encMsg 1) 1 (((decL decMsg) a0))) ∧ VLe a1 (encPRefReplica 1 ((decPRefReplica a1))) ∧ VLe a2 (encPInt 1 ((decPInt a2))) ∧ VLe a3 (encPFslot 1 ((decPFslot a3))) ∧ pr160_161 ((decL decMsg) a0) (decPRefReplica a1) (decPInt a2) (decPFslot a3), rs160_161 ((decL decMsg) a0) (decPRefReplica a1) (decPInt a2) (decPFslot a3), [])
  | _, _ => none
noncomputable def D160_161 : Nat → Option (Bool × FSpec) := lk [(131, (false, sp131_161))]
theorem da160_161 : SoundAll Tryz.prog D160_161 := soundAll_cons so131_161 (soundAll_nil)
noncomputable def cx160_161 (xs : List Msg) (r : RefReplica) (kind : Int) (is_ : Fslot) : Cx := ⟨tt, D160_161, Tryz.f160.ntmps, [0, 1, 4], [], [], fun _ => none, [], noM, []⟩
theorem bd160_161 (xs : List Msg) (r : RefReplica) (kind : Int) (is_ : Fslot) (hpre : pr160_161 xs r kind is_) : bodyP (cx160_161 xs r kind is_) Tryz.f160 0 [encL (encMsg 1) 1 (xs), .fn 161 [encPRefReplica 1 (r), encPInt 1 (kind), encPFslot 1 (is_)]] (fun rr => VLe rr (rs160_161 xs r kind is_)) := by
  have key :
      (((VLe (encL (encMsg 1) 1 xs)
   (encL (encMsg 1) 1 (decL decMsg (encL (encMsg 1) 1 xs)))) ∧
   ((VLe (V.ptr [encPReplica 1 r] 0 1)
   (encPRefReplica 1 (decPRefReplica (V.ptr [encPReplica 1 r] 0 1)))) ∧
   ((VLe (V.ptr [V.int IntKind.i64 kind] 0 1)
   (encPInt 1 (decPInt (V.ptr [V.int IntKind.i64 kind] 0 1)))) ∧
   ((VLe (V.ptr [V.fn (148 : FuncId) [encPInt 1 is_]] 0 1)
   (encPFslot 1 (decPFslot (V.ptr [V.fn (148 : FuncId) [encPInt 1 is_]] 0 1)))) ∧
   (pr131_161 (decL decMsg (encL (encMsg 1) 1 xs))
   (decPRefReplica (V.ptr [encPReplica 1 r] 0 1))
   (decPInt (V.ptr [V.int IntKind.i64 kind] 0 1))
   (decPFslot (V.ptr [V.fn (148 : FuncId) [encPInt 1 is_]] 0 1))))))) ∧
   (VLe
   (V.bool
   (decide
   (idxF
   (fun (m : Msg) ↦
   isSent (decPRefReplica (V.ptr [encPReplica 1 r] 0 1))
   (decPInt (V.ptr [V.int IntKind.i64 kind] 0 1))
   (decPFslot (V.ptr [V.fn (148 : FuncId) [encPInt 1 is_]] 0 1)) m)
   (decL decMsg (encL (encMsg 1) 1 xs)) ≥
   (0 : Int))))
   (V.bool (List.any xs fun (m : Msg) ↦ isSent r kind is_ m)))) := by
    simp only [decL_ints, decL_Msg, dec_encPMsg, dec_encMsg, dec_encPInt, decL_Msg, dec_encPRefReplica, decPInt_ptr, dec_encPFslot]
    refine ⟨?_, vle_bool (idxF_nonneg _ _)⟩
    repeat' (first | exact VLe.refl _ | exact hpre | apply And.intro)
  exact Eq.mp (by kernel_rfl) key
theorem so160_161 : Sound Tryz.prog 160 sp160_161 := by
  refine sound_of_body hmix (pol := 0) Tryz.func160 rfl (by kernel_rfl) fun args bin ob r bout hDe hob => ?_
  unfold sp160_161 at hDe
  split at hDe
  · rename_i a0 a1 a2 a3
    cases hDe
    exact ⟨rfl, rfl, Nat.le_of_ble_eq_true (by kernel_rfl), cx160_161 ((decL decMsg) a0) (decPRefReplica a1) (decPInt a2) (decPFslot a3), Eq.mp (by kernel_rfl) htt, Eq.mp (by kernel_rfl) da160_161, Eq.mp (by kernel_rfl) (noM_sound (P := Tryz.prog)), by kernel_rfl, [encL (encMsg 1) 1 (((decL decMsg) a0)), .fn 161 [encPRefReplica 1 ((decPRefReplica a1)), encPInt 1 ((decPInt a2)), encPFslot 1 ((decPFslot a3))]], args_of_vles (⟨hob.1, vle_fn ⟨hob.2.1, hob.2.2.1, hob.2.2.2.1, trivial⟩, trivial⟩), Eq.mp (by kernel_rfl) (bd160_161 ((decL decMsg) a0) (decPRefReplica a1) (decPInt a2) (decPFslot a3) (hob.2.2.2.2))⟩
  · cases hDe

/-! ### Replica).sent -/
def pr147 (r : Replica) (l : List Msg) (kind : Int) (slot : Int) : Prop := l.length ≤ maxLen
noncomputable def rs147 (r : Replica) (l : List Msg) (kind : Int) (slot : Int) : V := .bool (sentAt l r kind slot)
noncomputable def sp147 : FSpec := fun args bin => match args, bin with
  | [a0, a1, .int .i64 a2, .fn 148 [a3]], [] => some (VLe a0 (encPReplica 1 ((decPReplica a0))) ∧ VLe a1 (encL (encMsg 1) 1 (((decL decMsg) a1))) ∧ VLe a3 (encPInt 1 ((decPInt a3))) ∧ pr147 (decPReplica a0) ((decL decMsg) a1) a2 (decPInt a3), rs147 (decPReplica a0) ((decL decMsg) a1) a2 (decPInt a3), [])
  | _, _ => none
noncomputable def D147 : Nat → Option (Bool × FSpec) := lk [(160, (false, sp160_161))]
theorem da147 : SoundAll Tryz.prog D147 := soundAll_cons so160_161 (soundAll_nil)
noncomputable def cx147 (r : Replica) (l : List Msg) (kind : Int) (slot : Int) : Cx := ⟨tt, D147, Tryz.f147.ntmps, [0, 1, 2, 3, 4, 6, 7, 8], [], [], fun _ => none, [], noM, []⟩
theorem bd147 (r : Replica) (l : List Msg) (kind : Int) (slot : Int) (hpre : pr147 r l kind slot) : bodyP (cx147 r l kind slot) Tryz.f147 0 [encPReplica 1 (r), encL (encMsg 1) 1 (l), .int .i64 (kind), .fn 148 [encPInt 1 (slot)]] (fun rr => VLe rr (rs147 r l kind slot)) := by
  have key :
      (((VLe (encL (encMsg 1) 1 l)
   (encL (encMsg 1) 1 (decL decMsg (encL (encMsg 1) 1 l)))) ∧
   ((VLe (V.ptr [encPReplica 1 r] 0 1)
   (encPRefReplica 1 (decPRefReplica (V.ptr [encPReplica 1 r] 0 1)))) ∧
   ((VLe (V.ptr [V.int IntKind.i64 kind] 0 1)
   (encPInt 1 (decPInt (V.ptr [V.int IntKind.i64 kind] 0 1)))) ∧
   ((VLe (V.ptr [V.fn (148 : FuncId) [V.ptr [V.int IntKind.i64 slot] 0 1]] 0 1)
   (encPFslot 1
   (decPFslot (V.ptr [V.fn (148 : FuncId) [V.ptr [V.int IntKind.i64 slot] 0 1]] 0 1)))) ∧
   (pr160_161 (decL decMsg (encL (encMsg 1) 1 l))
   (decPRefReplica (V.ptr [encPReplica 1 r] 0 1))
   (decPInt (V.ptr [V.int IntKind.i64 kind] 0 1))
   (decPFslot (V.ptr [V.fn (148 : FuncId) [V.ptr [V.int IntKind.i64 slot] 0 1]] 0 1))))))) ∧
   (VLe
   (V.bool
   (List.any (decL decMsg (encL (encMsg 1) 1 l)) fun (m : Msg) ↦
   isSent (decPRefReplica (V.ptr [encPReplica 1 r] 0 1))
   (decPInt (V.ptr [V.int IntKind.i64 kind] 0 1))
   (decPFslot
   (V.ptr [V.fn (148 : FuncId) [V.ptr [V.int IntKind.i64 slot] 0 1]] 0 1))
   m))
   (V.bool (sentAt l r kind slot)))) := by
    simp only [decL_Msg, dec_encPReplica, decPInt_ptr]
    exact ⟨⟨VLe.refl _, VLe.refl _, VLe.refl _, VLe.refl _, hpre, trivial⟩, VLe.refl _⟩
  exact Eq.mp (by kernel_rfl) key
theorem so147 : Sound Tryz.prog 147 sp147 := by
  refine sound_of_body hmix (pol := 0) Tryz.func147 rfl (by kernel_rfl) fun args bin ob r bout hDe hob => ?_
  unfold sp147 at hDe
  split at hDe
  · rename_i a0 a1 a2 a3
    cases hDe
    exact ⟨rfl, rfl, Nat.le_of_ble_eq_true (by kernel_rfl), cx147 (decPReplica a0) ((decL decMsg) a1) a2 (decPInt a3), Eq.mp (by kernel_rfl) htt, Eq.mp (by kernel_rfl) da147, Eq.mp (by kernel_rfl) (noM_sound (P := Tryz.prog)), by kernel_rfl, [encPReplica 1 ((decPReplica a0)), encL (encMsg 1) 1 (((decL decMsg) a1)), .int .i64 (a2), .fn 148 [encPInt 1 ((decPInt a3))]], args_of_vles (⟨hob.1, hob.2.1, VLe.refl _, vle_fn ⟨hob.2.2.1, trivial⟩, trivial⟩), Eq.mp (by kernel_rfl) (bd147 (decPReplica a0) ((decL decMsg) a1) a2 (decPInt a3) (hob.2.2.2))⟩
  · cases hDe

/-! ### Replica).atSlot -/
def pr119 (r : Replica) (l : List Msg) (kind : Int) (slot : Int) : Prop := l.length ≤ maxLen
noncomputable def rs119 (r : Replica) (l : List Msg) (kind : Int) (slot : Int) : V := .bool (sentAt l r kind slot)
noncomputable def sp119 : FSpec := fun args bin => match args, bin with
  | [a0, a1, .int .i64 a2, .int .i64 a3], [] => some (VLe a0 (encPReplica 1 ((decPReplica a0))) ∧ VLe a1 (encL (encMsg 1) 1 (((decL decMsg) a1))) ∧ pr119 (decPReplica a0) ((decL decMsg) a1) a2 a3, rs119 (decPReplica a0) ((decL decMsg) a1) a2 a3, [])
  | _, _ => none
noncomputable def D119 : Nat → Option (Bool × FSpec) := lk [(147, (false, sp147))]
theorem da119 : SoundAll Tryz.prog D119 := soundAll_cons so147 (soundAll_nil)
noncomputable def cx119 (r : Replica) (l : List Msg) (kind : Int) (slot : Int) : Cx := ⟨tt, D119, Tryz.f119.ntmps, [0, 1, 2, 3, 7, 8], [], [], fun _ => none, [], noM, []⟩
theorem bd119 (r : Replica) (l : List Msg) (kind : Int) (slot : Int) (hpre : pr119 r l kind slot) : bodyP (cx119 r l kind slot) Tryz.f119 0 [encPReplica 1 (r), encL (encMsg 1) 1 (l), .int .i64 (kind), .int .i64 (slot)] (fun rr => VLe rr (rs119 r l kind slot)) := by
  have key :
      (((VLe (encPReplica 1 r) (encPReplica 1 (decPReplica (encPReplica 1 r)))) ∧
   ((VLe (encL (encMsg 1) 1 l)
   (encL (encMsg 1) 1 (decL decMsg (encL (encMsg 1) 1 l)))) ∧
   ((VLe (V.ptr [V.int IntKind.i64 slot] 0 1)
   (encPInt 1 (decPInt (V.ptr [V.int IntKind.i64 slot] 0 1)))) ∧
   (pr147 (decPReplica (encPReplica 1 r)) (decL decMsg (encL (encMsg 1) 1 l)) kind
   (decPInt (V.ptr [V.int IntKind.i64 slot] 0 1)))))) ∧
   (VLe
   (V.bool
   (sentAt (decL decMsg (encL (encMsg 1) 1 l)) (decPReplica (encPReplica 1 r)) kind
   (decPInt (V.ptr [V.int IntKind.i64 slot] 0 1))))
   (V.bool (sentAt l r kind slot)))) := by
    simp only [decL_Msg, dec_encPReplica, decPInt_ptr]
    exact ⟨⟨VLe.refl _, VLe.refl _, VLe.refl _, hpre⟩, VLe.refl _⟩
  exact Eq.mp (by kernel_rfl) key
theorem so119 : Sound Tryz.prog 119 sp119 := by
  refine sound_of_body hmix (pol := 0) Tryz.func119 rfl (by kernel_rfl) fun args bin ob r bout hDe hob => ?_
  unfold sp119 at hDe
  split at hDe
  · rename_i a0 a1 a2 a3
    cases hDe
    exact ⟨rfl, rfl, Nat.le_of_ble_eq_true (by kernel_rfl), cx119 (decPReplica a0) ((decL decMsg) a1) a2 a3, Eq.mp (by kernel_rfl) htt, Eq.mp (by kernel_rfl) da119, Eq.mp (by kernel_rfl) (noM_sound (P := Tryz.prog)), by kernel_rfl, [encPReplica 1 ((decPReplica a0)), encL (encMsg 1) 1 (((decL decMsg) a1)), .int .i64 (a2), .int .i64 (a3)], args_of_vles (⟨hob.1, hob.2.1, VLe.refl _, VLe.refl _, trivial⟩), Eq.mp (by kernel_rfl) (bd119 (decPReplica a0) ((decL decMsg) a1) a2 a3 (hob.2.2))⟩
  · cases hDe

/-! ### Replica).mayCommit -/
def pr69 (r : Replica) (f : Int) (l : List Msg) (slot : Int) (value : Int) : Prop := Right f l ∧ bdL l ∧ inR r.view 0 20
noncomputable def rs69 (r : Replica) (f : Int) (l : List Msg) (slot : Int) (value : Int) : V := .int .i64 (commitF f l r slot value)
noncomputable def sp69 : FSpec := fun args bin => match args, bin with
  | [a0, .int .i64 a1, a2, .int .i64 a3, .int .i64 a4], [] => some (VLe a0 (encPReplica 1 ((decPReplica a0))) ∧ VLe a2 (encL (encMsg 1) 1 (((decL decMsg) a2))) ∧ pr69 (decPReplica a0) a1 ((decL decMsg) a2) a3 a4, rs69 (decPReplica a0) a1 ((decL decMsg) a2) a3 a4, [])
  | _, _ => none
noncomputable def D69 : Nat → Option (Bool × FSpec) := lk [(116, (false, sp116)), (117, (false, sp117)), (118, (false, sp118)), (102, (false, sp102)), (119, (false, sp119))]
theorem da69 : SoundAll Tryz.prog D69 := soundAll_cons so116 (soundAll_cons so117 (soundAll_cons so118 (soundAll_cons so102 (soundAll_cons so119 (soundAll_nil)))))
noncomputable def cx69 (r : Replica) (f : Int) (l : List Msg) (slot : Int) (value : Int) : Cx := ⟨tt, D69, Tryz.f69.ntmps, [0, 1, 2, 3, 4, 10, 11, 20, 24, 36], [], [], fun _ => none, [], noM, []⟩
theorem bd69 (r : Replica) (f : Int) (l : List Msg) (slot : Int) (value : Int) (hpre : pr69 r f l slot value) : bodyP (cx69 r f l slot value) Tryz.f69 0 [encPReplica 1 (r), .int .i64 (f), encL (encMsg 1) 1 (l), .int .i64 (slot), .int .i64 (value)] (fun rr => VLe rr (rs69 r f l slot value)) := by
  have key :
      ((pr116 slot) ∧
   ((tq (!!decide (inR slot (1 : Int) (30 : Int)))) ∧
   ((((!!decide (inR slot (1 : Int) (30 : Int))) = true) →
   (pr117 value)) ∧
   ((tq (!!decide (inR slot (1 : Int) (30 : Int)))) ∧
   (((true = true) →
   (((!decide (inR slot (1 : Int) (30 : Int))) = false) →
   ((!!decide (inR slot (1 : Int) (30 : Int))) = true))) ∧
   (∀ b : Bool,
   ((b = bif !decide (inR slot (1 : Int) (30 : Int)) then true else !decide (inR value (0 : Int) (12 : Int))) →
   (((b = true) →
   (VLe (V.int IntKind.i64 (3 : Int)) (V.int IntKind.i64 (commitF f l r slot value)))) ∧
   ((b = false) →
   (((VLe (encPReplica 1 r) (encPReplica 1 (decPReplica (encPReplica 1 r)))) ∧
   (pr118 (decPReplica (encPReplica 1 r)))) ∧
   ((((!decide
   (Replica.view (decPReplica (encPReplica 1 r)) = (0 : Int) ∨
   Replica.start (decPReplica (encPReplica 1 r)) ≠ (-1 : Int))) =
   true) →
   (VLe (V.int IntKind.i64 (8 : Int)) (V.int IntKind.i64 (commitF f l r slot value)))) ∧
   (((!decide
   (Replica.view (decPReplica (encPReplica 1 r)) = (0 : Int) ∨
   Replica.start (decPReplica (encPReplica 1 r)) ≠ (-1 : Int))) =
   false) →
   (((VLe (encL (encMsg 1) 1 l)
   (encL (encMsg 1) 1 (decL decMsg (encL (encMsg 1) 1 l)))) ∧
   ((VLe (V.agg [V.int IntKind.i64 slot, V.int IntKind.i64 (Replica.view r), V.int IntKind.i64 value])
   (encCert 1
   (decCert (V.agg [V.int IntKind.i64 slot, V.int IntKind.i64 (Replica.view r), V.int IntKind.i64 value])))) ∧
   (pr102 f (decL decMsg (encL (encMsg 1) 1 l))
   (decCert (V.agg [V.int IntKind.i64 slot, V.int IntKind.i64 (Replica.view r), V.int IntKind.i64 value]))))) ∧
   ((((!decide
   (certOk f (decL decMsg (encL (encMsg 1) 1 l))
   (decCert (V.agg [V.int IntKind.i64 slot, V.int IntKind.i64 (Replica.view r), V.int IntKind.i64 value])))) =
   true) →
   (VLe (V.int IntKind.i64 (10 : Int)) (V.int IntKind.i64 (commitF f l r slot value)))) ∧
   (((!decide
   (certOk f (decL decMsg (encL (encMsg 1) 1 l))
   (decCert (V.agg [V.int IntKind.i64 slot, V.int IntKind.i64 (Replica.view r), V.int IntKind.i64 value])))) =
   false) →
   (((VLe (encPReplica 1 r) (encPReplica 1 (decPReplica (encPReplica 1 r)))) ∧
   ((VLe (encL (encMsg 1) 1 l)
   (encL (encMsg 1) 1 (decL decMsg (encL (encMsg 1) 1 l)))) ∧
   (pr119 (decPReplica (encPReplica 1 r)) (decL decMsg (encL (encMsg 1) 1 l)) (3 : Int) slot))) ∧
   (((sentAt (decL decMsg (encL (encMsg 1) 1 l)) (decPReplica (encPReplica 1 r)) (3 : Int) slot = true) →
   (VLe (V.int IntKind.i64 (6 : Int)) (V.int IntKind.i64 (commitF f l r slot value)))) ∧
   ((sentAt (decL decMsg (encL (encMsg 1) 1 l)) (decPReplica (encPReplica 1 r)) (3 : Int) slot =
   false) →
   (VLe (V.int IntKind.i64 (0 : Int)) (V.int IntKind.i64 (commitF f l r slot value))))))))))))))))))))) := by
    obtain ⟨hr, hl, hv⟩ := hpre
    simp only [decL_Msg, dec_encPReplica, decPInt_ptr]
    have ed : decCert (.agg [.int .i64 slot, .int .i64 r.view, .int .i64 value]) = ⟨slot, r.view, value⟩ := rfl
    simp only [ed]
    have ec : inR slot 1 30 ∧ inR value 0 12 → (certOk f l ⟨slot, r.view, value⟩ ↔ enough f l 2 ⟨slot, r.view, value⟩) := fun a1 => by
      unfold certOk enough
      rw [votes_eq hr (Or.inl rfl) ⟨slot, r.view, value⟩]
      exact ⟨fun g => g.2.2.2, fun g => ⟨a1.1, hv, a1.2, g⟩⟩
    repeat (first | (refine And.intro (fun h _ => h) ?_) | (refine And.intro (fun _ h => h) ?_) | (refine And.intro ?aa ?_; case aa => (exact trivial)) | (refine And.intro ?aa ?_; case aa => (exact fun _ => trivial)) | (refine And.intro ?aa ?_; case aa => (intros; simp_all [pr116, pr117, pr118, pr102, pr119]; done)) | (refine And.intro ?aa ?_; case aa => (intros; exact inK64 (by omega))) | (refine And.intro ?aa ?_; case aa => (intros; simp only [decide_eq_true_eq] at *; omega)) | (intro q hq))
    have e0 : q = decide (¬ (inR slot 1 30 ∧ inR value 0 12)) := by
      subst_vars
      rw [Bool.eq_iff_iff, decide_eq_true_eq]
      by_cases a1 : inR slot 1 30 <;> by_cases a2 : inR value 0 12 <;> simp [a1, a2]
    clear hq
    subst e0
    unfold commitF
    refine ⟨fun h => ?_, fun h => ?_⟩
    · rw [if_pos (of_decide_eq_true h)]; exact VLe.refl _
    have g1 := of_decide_eq_false h
    rw [if_neg g1]
    refine ⟨⟨VLe.refl _, trivial⟩, fun h2 => ?_, fun h2 => ?_⟩
    · rw [if_pos (nd h2)]; exact VLe.refl _
    rw [if_neg (not_not_intro (pd h2))]
    refine ⟨⟨VLe.refl _, VLe.refl _, hr.okf, hr.len, hl⟩, fun h3 => ?_, fun h3 => ?_⟩
    · rw [if_pos (mt (ec (Classical.not_not.1 g1)).2 (nd h3))]; exact VLe.refl _
    rw [if_neg (not_not_intro ((ec (Classical.not_not.1 g1)).1 (pd h3)))]
    refine ⟨⟨VLe.refl _, VLe.refl _, hl.1⟩, fun h4 => ?_, fun h4 => ?_⟩
    · rw [if_pos h4]; exact VLe.refl _
    · rw [if_neg (by simp [h4])]; exact VLe.refl _
  exact Eq.mp (by kernel_rfl) key
theorem so69 : Sound Tryz.prog 69 sp69 := by
  refine sound_of_body hmix (pol := 0) Tryz.func69 rfl (by kernel_rfl) fun args bin ob r bout hDe hob => ?_
  unfold sp69 at hDe
  split at hDe
  · rename_i a0 a1 a2 a3 a4
    cases hDe
    exact ⟨rfl, rfl, Nat.le_of_ble_eq_true (by kernel_rfl), cx69 (decPReplica a0) a1 ((decL decMsg) a2) a3 a4, Eq.mp (by kernel_rfl) htt, Eq.mp (by kernel_rfl) da69, Eq.mp (by kernel_rfl) (noM_sound (P := Tryz.prog)), by kernel_rfl, [encPReplica 1 ((decPReplica a0)), .int .i64 (a1), encL (encMsg 1) 1 (((decL decMsg) a2)), .int .i64 (a3), .int .i64 (a4)], args_of_vles (⟨hob.1, VLe.refl _, hob.2.1, VLe.refl _, VLe.refl _, trivial⟩), Eq.mp (by kernel_rfl) (bd69 (decPReplica a0) a1 ((decL decMsg) a2) a3 a4 (hob.2.2))⟩
  · cases hDe

/-! ### impl.MayCommit -/
def pr27 (f : Int) (l : List Msg) (r : Replica) (slot : Int) (value : Int) : Prop := bdL l
noncomputable def rs27 (f : Int) (l : List Msg) (r : Replica) (slot : Int) (value : Int) : V := .int .i64 (mayCommitF f l r slot value)
noncomputable def sp27 : FSpec := fun args bin => match args, bin with
  | [.int .i64 a0, a1, a2, .int .i64 a3, .int .i64 a4], [] => some (VLe a1 (encL (encMsg 1) 1 (((decL decMsg) a1))) ∧ VLe a2 (encReplica 1 ((decReplica a2))) ∧ pr27 a0 ((decL decMsg) a1) (decReplica a2) a3 a4, rs27 a0 ((decL decMsg) a1) (decReplica a2) a3 a4, [])
  | _, _ => none
noncomputable def D27 : Nat → Option (Bool × FSpec) := lk [(24, (false, sp24)), (69, (false, sp69))]
theorem da27 : SoundAll Tryz.prog D27 := soundAll_cons so24 (soundAll_cons so69 (soundAll_nil))
noncomputable def cx27 (f : Int) (l : List Msg) (r : Replica) (slot : Int) (value : Int) : Cx := ⟨tt, D27, Tryz.f27.ntmps, [0, 1, 2, 3, 4, 7, 10, 11, 17], [], [], fun _ => none, [], noM, []⟩
theorem bd27 (f : Int) (l : List Msg) (r : Replica) (slot : Int) (value : Int) (hpre : pr27 f l r slot value) : bodyP (cx27 f l r slot value) Tryz.f27 0 [.int .i64 (f), encL (encMsg 1) 1 (l), encReplica 1 (r), .int .i64 (slot), .int .i64 (value)] (fun rr => VLe rr (rs27 f l r slot value)) := by
  have key :
      (((VLe (encL (encMsg 1) 1 l)
   (encL (encMsg 1) 1 (decL decMsg (encL (encMsg 1) 1 l)))) ∧
   ((VLe (encReplica 1 r) (encReplica 1 (decReplica (encReplica 1 r)))) ∧
   (pr24 f (decL decMsg (encL (encMsg 1) 1 l)) (decReplica (encReplica 1 r))))) ∧
   ((((replicaFault f (decL decMsg (encL (encMsg 1) 1 l)) (decReplica (encReplica 1 r)) !=
   (0 : Int)) =
   true) →
   (VLe
   (V.int IntKind.i64
   (replicaFault f (decL decMsg (encL (encMsg 1) 1 l)) (decReplica (encReplica 1 r))))
   (V.int IntKind.i64 (mayCommitF f l r slot value)))) ∧
   (((replicaFault f (decL decMsg (encL (encMsg 1) 1 l)) (decReplica (encReplica 1 r)) !=
   (0 : Int)) =
   false) →
   (((VLe (encPReplica 1 r) (encPReplica 1 (decPReplica (encPReplica 1 r)))) ∧
   ((VLe (encL (encMsg 1) 1 l)
   (encL (encMsg 1) 1 (decL decMsg (encL (encMsg 1) 1 l)))) ∧
   (pr69 (decPReplica (encPReplica 1 r)) f (decL decMsg (encL (encMsg 1) 1 l)) slot value))) ∧
   (VLe
   (V.int IntKind.i64
   (commitF f (decL decMsg (encL (encMsg 1) 1 l)) (decPReplica (encPReplica 1 r)) slot value))
   (V.int IntKind.i64 (mayCommitF f l r slot value))))))) := by
    simp only [decL_Msg, dec_encPReplica, dec_encReplica]
    refine ⟨⟨VLe.refl _, VLe.refl _, hpre⟩, fun h => ?_, fun h => ?_⟩
    · exact vle_int (by unfold mayCommitF; rw [if_pos (by simpa using h)])
    · have h0 : replicaFault f l r = 0 := by simpa using h
      obtain ⟨hr, hv⟩ := replica_right h0
      exact ⟨⟨VLe.refl _, VLe.refl _, hr, hpre, hv⟩, vle_int (by unfold mayCommitF; rw [if_neg (not_not_intro h0)])⟩
  exact Eq.mp (by kernel_rfl) key
theorem so27 : Sound Tryz.prog 27 sp27 := by
  refine sound_of_body hmix (pol := 0) Tryz.func27 rfl (by kernel_rfl) fun args bin ob r bout hDe hob => ?_
  unfold sp27 at hDe
  split at hDe
  · rename_i a0 a1 a2 a3 a4
    cases hDe
    exact ⟨rfl, rfl, Nat.le_of_ble_eq_true (by kernel_rfl), cx27 a0 ((decL decMsg) a1) (decReplica a2) a3 a4, Eq.mp (by kernel_rfl) htt, Eq.mp (by kernel_rfl) da27, Eq.mp (by kernel_rfl) (noM_sound (P := Tryz.prog)), by kernel_rfl, [.int .i64 (a0), encL (encMsg 1) 1 (((decL decMsg) a1)), encReplica 1 ((decReplica a2)), .int .i64 (a3), .int .i64 (a4)], args_of_vles (⟨VLe.refl _, hob.1, hob.2.1, VLe.refl _, VLe.refl _, trivial⟩), Eq.mp (by kernel_rfl) (bd27 a0 ((decL decMsg) a1) (decReplica a2) a3 a4 (hob.2.2))⟩
  · cases hDe

/-! ### spec.l11In -/
def pr113 (r : Replica) : Prop := True
noncomputable def rs113 (r : Replica) : V := .bool (decide (r.view = 0 ∨ r.start ≠ -1))
noncomputable def sp113 : FSpec := fun args bin => match args, bin with
  | [a0], [] => some (VLe a0 (encPReplica 1 ((decPReplica a0))) ∧ pr113 (decPReplica a0), rs113 (decPReplica a0), [])
  | _, _ => none
noncomputable def D113 : Nat → Option (Bool × FSpec) := lk []
theorem da113 : SoundAll Tryz.prog D113 := soundAll_nil
noncomputable def cx113 (r : Replica) : Cx := ⟨tt, D113, Tryz.f113.ntmps, [0, 2], [], [], fun _ => none, [], noM, []⟩
theorem bd113 (r : Replica) (hpre : pr113 r) : bodyP (cx113 r) Tryz.f113 0 [encPReplica 1 (r)] (fun rr => VLe rr (rs113 r)) := by
  have key :
      ((tq (!Replica.view r == (0 : Int))) ∧
   ((tq (!Replica.view r == (0 : Int))) ∧
   ((tq (!Replica.view r == (0 : Int))) ∧
   ((tq (!Replica.view r == (0 : Int))) ∧
   (((true = true) →
   (((Replica.view r == (0 : Int)) = false) →
   ((!Replica.view r == (0 : Int)) = true))) ∧
   (∀ b : Bool,
   ((b = bif Replica.view r == (0 : Int) then true else Replica.start r != (-1 : Int)) →
   (VLe (V.bool b) (V.bool (decide (Replica.view r = (0 : Int) ∨ Replica.start r ≠ (-1 : Int)))))))))))) := by
    repeat (first | (refine And.intro (fun h _ => h) ?_) | (refine And.intro (fun _ h => h) ?_) | (refine And.intro ?aa ?_; case aa => (exact trivial)) | (refine And.intro ?aa ?_; case aa => (intros; simp_all []; done)) | (refine And.intro ?aa ?_; case aa => (intros; exact inK64 (by omega))) | (refine And.intro ?aa ?_; case aa => (intros; simp only [decide_eq_true_eq] at *; omega)) | (intro q hq))
    subst_vars
    refine vle_bool ?_
    rw [Bool.eq_iff_iff, decide_eq_true_eq]
    by_cases a1 : r.view = 0 <;> simp [a1]
  exact Eq.mp (by kernel_rfl) key
theorem so113 : Sound Tryz.prog 113 sp113 := by
  refine sound_of_body hmix (pol := 0) Tryz.func113 rfl (by kernel_rfl) fun args bin ob r bout hDe hob => ?_
  unfold sp113 at hDe
  split at hDe
  · rename_i a0
    cases hDe
    exact ⟨rfl, rfl, Nat.le_of_ble_eq_true (by kernel_rfl), cx113 (decPReplica a0), Eq.mp (by kernel_rfl) htt, Eq.mp (by kernel_rfl) da113, Eq.mp (by kernel_rfl) (noM_sound (P := Tryz.prog)), by kernel_rfl, [encPReplica 1 ((decPReplica a0))], args_of_vles (⟨hob.1, trivial⟩), Eq.mp (by kernel_rfl) (bd113 (decPReplica a0) (hob.2))⟩
  · cases hDe

/-! ### spec.l11Slot -/
def pr112 (slot : Int) (value : Int) : Prop := True
noncomputable def rs112 (slot : Int) (value : Int) : V := .bool (decide (inR slot 1 30 ∧ inR value 0 12))
noncomputable def sp112 : FSpec := fun args bin => match args, bin with
  | [.int .i64 a0, .int .i64 a1], [] => some (pr112 a0 a1, rs112 a0 a1, [])
  | _, _ => none
noncomputable def D112 : Nat → Option (Bool × FSpec) := lk [(52, (false, sp52))]
theorem da112 : SoundAll Tryz.prog D112 := soundAll_cons so52 (soundAll_nil)
noncomputable def cx112 (slot : Int) (value : Int) : Cx := ⟨tt, D112, Tryz.f112.ntmps, [0, 1, 4], [], [], fun _ => none, [], noM, []⟩
theorem bd112 (slot : Int) (value : Int) (hpre : pr112 slot value) : bodyP (cx112 slot value) Tryz.f112 0 [.int .i64 (slot), .int .i64 (value)] (fun rr => VLe rr (rs112 slot value)) := by
  have key :
      ((pr52 slot (1 : Int) (30 : Int)) ∧
   ((tq (decide (inR slot (1 : Int) (30 : Int)))) ∧
   (((decide (inR slot (1 : Int) (30 : Int)) = true) →
   (pr52 value (0 : Int) (12 : Int))) ∧
   (((true = true) →
   ((decide (inR slot (1 : Int) (30 : Int)) = true) →
   (decide (inR slot (1 : Int) (30 : Int)) = true))) ∧
   (∀ b : Bool,
   ((b = bif decide (inR slot (1 : Int) (30 : Int)) then decide (inR value (0 : Int) (12 : Int)) else false) →
   (VLe (V.bool b) (V.bool (decide (inR slot (1 : Int) (30 : Int) ∧ inR value (0 : Int) (12 : Int))))))))))) := by
    repeat (first | (refine And.intro (fun h _ => h) ?_) | (refine And.intro (fun _ h => h) ?_) | (refine And.intro ?aa ?_; case aa => (exact trivial)) | (refine And.intro ?aa ?_; case aa => (exact fun _ => trivial)) | (refine And.intro ?aa ?_; case aa => (intros; simp_all [pr52]; done)) | (refine And.intro ?aa ?_; case aa => (intros; exact inK64 (by omega))) | (refine And.intro ?aa ?_; case aa => (intros; simp only [decide_eq_true_eq] at *; omega)) | (intro q hq))
    subst_vars
    refine vle_bool ?_
    rw [Bool.eq_iff_iff, decide_eq_true_eq]
    by_cases a1 : inR slot 1 30 <;> by_cases a2 : inR value 0 12 <;> simp [a1, a2]
  exact Eq.mp (by kernel_rfl) key
theorem so112 : Sound Tryz.prog 112 sp112 := by
  refine sound_of_body hmix (pol := 0) Tryz.func112 rfl (by kernel_rfl) fun args bin ob r bout hDe hob => ?_
  unfold sp112 at hDe
  split at hDe
  · rename_i a0 a1
    cases hDe
    exact ⟨rfl, rfl, Nat.le_of_ble_eq_true (by kernel_rfl), cx112 a0 a1, Eq.mp (by kernel_rfl) htt, Eq.mp (by kernel_rfl) da112, Eq.mp (by kernel_rfl) (noM_sound (P := Tryz.prog)), by kernel_rfl, [.int .i64 (a0), .int .i64 (a1)], args_of_vles (⟨VLe.refl _, VLe.refl _, trivial⟩), Eq.mp (by kernel_rfl) (bd112 a0 a1 (hob))⟩
  · cases hDe

noncomputable def isSent2 (r : Replica) (kind slot value : Int) (m : Msg) : Bool := decide (m.kind = kind ∧ m.sender = r.id ∧ m.view = r.view ∧ (slot = 0 ∨ m.slot = slot) ∧ (value < 0 ∨ m.value = value))
noncomputable def sentB (l : List Msg) (r : Replica) (kind slot value : Int) : Bool := l.any (isSent2 r kind slot value)

/-! ### spec.l11Sent -/
def pr115 (l : List Msg) (r : Replica) (kind : Int) (slot : Int) (value : Int) : Prop := l.length ≤ maxLen
noncomputable def rs115 (l : List Msg) (r : Replica) (kind : Int) (slot : Int) (value : Int) : V := .bool (sentB l r kind slot value)
noncomputable def sp115 : FSpec := fun args bin => match args, bin with
  | [a0, a1, .int .i64 a2, .int .i64 a3, .int .i64 a4], [] => some (VLe a0 (encL (encMsg 1) 1 (((decL decMsg) a0))) ∧ VLe a1 (encPReplica 1 ((decPReplica a1))) ∧ pr115 ((decL decMsg) a0) (decPReplica a1) a2 a3 a4, rs115 ((decL decMsg) a0) (decPReplica a1) a2 a3 a4, [])
  | _, _ => none
noncomputable def in115_2 (l : List Msg) (r : Replica) (kind : Int) (slot : Int) (value : Int) : LoopInv :=
  ⟨Nat, fun i => ⟨[(0, encL (encMsg 1) 1 l), (1, encPReplica 1 r), (2, .int .i64 kind), (3, .int .i64 slot), (4, .int .i64 value), (11, .int .i64 i)], []⟩,
    fun i => i ≤ l.length ∧ ∀ j, j < i → isSent2 r kind slot value (l.getD j default) = false, fun i => l.length - i⟩
noncomputable def iv115 (l : List Msg) (r : Replica) (kind : Int) (slot : Int) (value : Int) : Nat → Option LoopInv := fun rg_ => match rg_ with
  | 2 => some (in115_2 l r kind slot value)
  | _ => none
noncomputable def D115 : Nat → Option (Bool × FSpec) := lk []
theorem da115 : SoundAll Tryz.prog D115 := soundAll_nil
noncomputable def cx115 (l : List Msg) (r : Replica) (kind : Int) (slot : Int) (value : Int) : Cx := ⟨tt, D115, Tryz.f115.ntmps, [0, 1, 2, 3, 4, 10, 11, 12, 16, 73], [(2, ⟨[(0, none), (1, none), (2, none), (3, none), (4, none), (11, none)], []⟩)], [], iv115 l r kind slot value, [], noM, []⟩
theorem bd115 (l : List Msg) (r : Replica) (kind : Int) (slot : Int) (value : Int) (hpre : pr115 l r kind slot value) : bodyP (cx115 l r kind slot value) Tryz.f115 0 [encL (encMsg 1) 1 (l), encPReplica 1 (r), .int .i64 (kind), .int .i64 (slot), .int .i64 (value)] (fun rr => VLe rr (rs115 l r kind slot value)) := by
  have key :
      ((∃ x : Nat, ((SLe
   (AS.mk
   [(0, encL (encMsg 1) 1 l), (1, encPReplica 1 r),
   (2, V.int IntKind.i64 kind), (3, V.int IntKind.i64 slot), (4, V.int IntKind.i64 value),
   (11, V.int IntKind.i64 (0 : Int))]
   [])
   (AS.mk
   [(0, encL (encMsg 1) 1 l), (1, encPReplica 1 r),
   (2, V.int IntKind.i64 kind), (3, V.int IntKind.i64 slot), (4, V.int IntKind.i64 value),
   (11, V.int IntKind.i64 (↑x : Int))]
   [])) ∧
   ((x ≤ List.length l) ∧
   (∀ j : Nat,
   ((j < x) →
   (isSent2 r kind slot value (List.getD l j default) = false)))))) ∧
   (∀ x : Nat,
   (((x ≤ List.length l) ∧
   (∀ j : Nat,
   ((j < x) →
   (isSent2 r kind slot value (List.getD l j default) = false)))) →
   (((decide ((↑x : Int) < (↑(List.length l) : Int)) = true) →
   ((((0 : Int) ≤ (↑x : Int)) ∧
   ((↑x : Int) < (↑(List.length l) : Int))) ∧
   ((tq (Msg.kind (List.getD l (Int.toNat (↑x : Int)) default) == kind)) ∧
   ((tq (Msg.kind (List.getD l (Int.toNat (↑x : Int)) default) == kind)) ∧
   ((tq (Msg.kind (List.getD l (Int.toNat (↑x : Int)) default) == kind)) ∧
   ((tq (Msg.kind (List.getD l (Int.toNat (↑x : Int)) default) == kind)) ∧
   ((tq (Msg.kind (List.getD l (Int.toNat (↑x : Int)) default) == kind)) ∧
   ((tq (Msg.kind (List.getD l (Int.toNat (↑x : Int)) default) == kind)) ∧
   ((tq (Msg.kind (List.getD l (Int.toNat (↑x : Int)) default) == kind)) ∧
   ((tq (Msg.kind (List.getD l (Int.toNat (↑x : Int)) default) == kind)) ∧
   (((true = true) →
   (((Msg.kind (List.getD l (Int.toNat (↑x : Int)) default) == kind) = true) →
   ((Msg.kind (List.getD l (Int.toNat (↑x : Int)) default) == kind) = true))) ∧
   (∀ b : Bool,
   ((b =
   bif Msg.kind (List.getD l (Int.toNat (↑x : Int)) default) == kind then
   Msg.sender (List.getD l (Int.toNat (↑x : Int)) default) == Replica.id r
   else false) →
   ((tq (b)) ∧
   ((tq (b)) ∧
   ((tq (b)) ∧
   ((tq (b)) ∧
   ((tq (b)) ∧
   ((tq (b)) ∧
   ((tq (b)) ∧
   ((tq (b)) ∧
   (((true = true) →
   ((b = true) →
   (b = true))) ∧
   (∀ b_1 : Bool,
   ((b_1 = bif b then Msg.view (List.getD l (Int.toNat (↑x : Int)) default) == Replica.view r else false) →
   ((tq (b_1)) ∧
   ((tq (b_1)) ∧
   ((tq (b_1 && !slot == (0 : Int))) ∧
   ((tq (b_1 && !slot == (0 : Int))) ∧
   ((tq (b_1 && !slot == (0 : Int))) ∧
   ((tq (b_1 && !slot == (0 : Int))) ∧
   ((tq (b_1 && !slot == (0 : Int))) ∧
   ((tq (b_1)) ∧
   (((b_1 = true) →
   ((b_1 = true) →
   (((slot == (0 : Int)) = false) →
   ((b_1 && !slot == (0 : Int)) = true)))) ∧
   (∀ b_2 : Bool,
   ((b_2 = bif slot == (0 : Int) then true else Msg.slot (List.getD l (Int.toNat (↑x : Int)) default) == slot) →
   (((true = true) →
   ((b_1 = true) →
   (b_1 = true))) ∧
   (∀ b_3 : Bool,
   ((b_3 = bif b_1 then b_2 else false) →
   ((tq (b_3)) ∧
   ((tq (b_3)) ∧
   ((tq (b_3 && !decide (value < (0 : Int)))) ∧
   ((tq (b_3 && !decide (value < (0 : Int)))) ∧
   ((tq (b_3 && !decide (value < (0 : Int)))) ∧
   ((tq (b_3 && !decide (value < (0 : Int)))) ∧
   ((tq (b_3 && !decide (value < (0 : Int)))) ∧
   ((tq (b_3)) ∧
   (((b_3 = true) →
   ((b_3 = true) →
   ((decide (value < (0 : Int)) = false) →
   ((b_3 && !decide (value < (0 : Int))) = true)))) ∧
   (∀ b_4 : Bool,
   ((b_4 = bif decide (value < (0 : Int)) then true else Msg.value (List.getD l (Int.toNat (↑x : Int)) default) == value) →
   (((true = true) →
   ((b_3 = true) →
   (b_3 = true))) ∧
   (∀ b_5 : Bool,
   ((b_5 = bif b_3 then b_4 else false) →
   (((b_5 = true) →
   (VLe (V.bool true) (V.bool (sentB l r kind slot value)))) ∧
   ((b_5 = false) →
   ((inK IntKind.i64 ((↑x : Int) + (1 : Int))) ∧
   (∃ y : Nat, ((SLe
   (AS.mk
   [(0, encL (encMsg 1) 1 l), (1, encPReplica 1 r),
   (2, V.int IntKind.i64 kind), (3, V.int IntKind.i64 slot), (4, V.int IntKind.i64 value),
   (11, V.int IntKind.i64 ((↑x : Int) + (1 : Int)))]
   [])
   (AS.mk
   [(0, encL (encMsg 1) 1 l), (1, encPReplica 1 r),
   (2, V.int IntKind.i64 kind), (3, V.int IntKind.i64 slot), (4, V.int IntKind.i64 value),
   (11, V.int IntKind.i64 (↑y : Int))]
   [])) ∧
   (((y ≤ List.length l) ∧
   (∀ j : Nat,
   ((j < y) →
   (isSent2 r kind slot value (List.getD l j default) = false)))) ∧
   (List.length l - y < List.length l - x))))))))))))))))))))))))))))))))))))))))))))))))))))))))))) ∧
   ((decide ((↑x : Int) < (↑(List.length l) : Int)) = false) →
   (VLe (V.bool false) (V.bool (sentB l r kind slot value)))))))) := by
    unfold pr115 maxLen at hpre
    simp only [decL_Msg, dec_encPReplica]
    refine ⟨⟨0, SLe.refl _, by omega, fun j hj => absurd hj (Nat.not_lt_zero j)⟩, ?_⟩
    rintro i ⟨hi, hj⟩
    refine ⟨fun h => ?_, fun h => ?_⟩
    · have hlt : i < l.length := by simpa using h
      simp only [Int.toNat_natCast]
      refine ⟨by omega, ?_⟩
      repeat (first | (refine And.intro (fun h _ => h) ?_) | (refine And.intro (fun _ h => h) ?_) | (refine And.intro ?aa ?_; case aa => (exact trivial)) | (refine And.intro ?aa ?_; case aa => (intros; simp_all []; done)) | (refine And.intro ?aa ?_; case aa => (intros; exact inK64 (by omega))) | (refine And.intro ?aa ?_; case aa => (intros; simp only [decide_eq_true_eq] at *; omega)) | (intro q hq))
      have e0 : q = isSent2 r kind slot value (l.getD i default) := by
        subst_vars
        unfold isSent2
        rw [Bool.eq_iff_iff, decide_eq_true_eq]
        by_cases a1 : (l.getD i default).kind = kind <;> by_cases a2 : (l.getD i default).sender = r.id <;> by_cases a3 : (l.getD i default).view = r.view <;> by_cases a4 : slot = 0 <;> by_cases a5 : value < 0 <;> simp_all
      clear hq
      refine ⟨fun h2 => vle_bool ?_, fun h2 => ⟨inK64 (by omega), i + 1, SLe.refl _, ⟨by omega, fun j h3 => ?_⟩, by omega⟩⟩
      · rw [e0] at h2
        symm
        exact List.any_eq_true.2 ⟨l.getD i default, by simp [hlt], h2⟩
      · rcases Nat.lt_or_ge j i with h4 | h4
        · exact hj j h4
        · have : j = i := by omega
          subst this
          rw [← e0]; exact h2
    · have hge : i = l.length := by simp at h; omega
      refine vle_bool ?_
      symm
      refine List.any_eq_false.2 fun m hm => ?_
      obtain ⟨j, hj2, rfl⟩ := List.getElem_of_mem hm
      have := hj j (by omega)
      simpa [hj2] using this
  exact Eq.mp (by kernel_rfl) key
theorem so115 : Sound Tryz.prog 115 sp115 := by
  refine sound_of_body hmix (pol := 0) Tryz.func115 rfl (by kernel_rfl) fun args bin ob r bout hDe hob => ?_
  unfold sp115 at hDe
  split at hDe
  · rename_i a0 a1 a2 a3 a4
    cases hDe
    exact ⟨rfl, rfl, Nat.le_of_ble_eq_true (by kernel_rfl), cx115 ((decL decMsg) a0) (decPReplica a1) a2 a3 a4, Eq.mp (by kernel_rfl) htt, Eq.mp (by kernel_rfl) da115, Eq.mp (by kernel_rfl) (noM_sound (P := Tryz.prog)), by kernel_rfl, [encL (encMsg 1) 1 (((decL decMsg) a0)), encPReplica 1 ((decPReplica a1)), .int .i64 (a2), .int .i64 (a3), .int .i64 (a4)], args_of_vles (⟨hob.1, hob.2.1, VLe.refl _, VLe.refl _, VLe.refl _, trivial⟩), Eq.mp (by kernel_rfl) (bd115 ((decL decMsg) a0) (decPReplica a1) a2 a3 a4 (hob.2.2))⟩
  · cases hDe

/-! ### spec.l11Commit -/
def pr68 (f : Int) (l : List Msg) (r : Replica) (slot : Int) (value : Int) : Prop := Right f l ∧ bdL l
noncomputable def rs68 (f : Int) (l : List Msg) (r : Replica) (slot : Int) (value : Int) : V := .int .i64 (commitF f l r slot value)
noncomputable def sp68 : FSpec := fun args bin => match args, bin with
  | [.int .i64 a0, a1, a2, .int .i64 a3, .int .i64 a4], [] => some (VLe a1 (encL (encMsg 1) 1 (((decL decMsg) a1))) ∧ VLe a2 (encPReplica 1 ((decPReplica a2))) ∧ pr68 a0 ((decL decMsg) a1) (decPReplica a2) a3 a4, rs68 a0 ((decL decMsg) a1) (decPReplica a2) a3 a4, [])
  | _, _ => none
noncomputable def D68 : Nat → Option (Bool × FSpec) := lk [(112, (false, sp112)), (113, (false, sp113)), (114, (false, sp114)), (115, (false, sp115))]
theorem da68 : SoundAll Tryz.prog D68 := soundAll_cons so112 (soundAll_cons so113 (soundAll_cons so114 (soundAll_cons so115 (soundAll_nil))))
noncomputable def cx68 (f : Int) (l : List Msg) (r : Replica) (slot : Int) (value : Int) : Cx := ⟨tt, D68, Tryz.f68.ntmps, [0, 1, 2, 3, 4, 10, 14, 17, 28, 32], [], [], fun _ => none, [], noM, []⟩
theorem bd68 (f : Int) (l : List Msg) (r : Replica) (slot : Int) (value : Int) (hpre : pr68 f l r slot value) : bodyP (cx68 f l r slot value) Tryz.f68 0 [.int .i64 (f), encL (encMsg 1) 1 (l), encPReplica 1 (r), .int .i64 (slot), .int .i64 (value)] (fun rr => VLe rr (rs68 f l r slot value)) := by
  have key :
      ((pr112 slot value) ∧
   ((((!decide (inR slot (1 : Int) (30 : Int) ∧ inR value (0 : Int) (12 : Int))) = true) →
   (VLe (V.int IntKind.i64 (3 : Int)) (V.int IntKind.i64 (commitF f l r slot value)))) ∧
   (((!decide (inR slot (1 : Int) (30 : Int) ∧ inR value (0 : Int) (12 : Int))) = false) →
   (((VLe (encPReplica 1 r) (encPReplica 1 (decPReplica (encPReplica 1 r)))) ∧
   (pr113 (decPReplica (encPReplica 1 r)))) ∧
   ((((!decide
   (Replica.view (decPReplica (encPReplica 1 r)) = (0 : Int) ∨
   Replica.start (decPReplica (encPReplica 1 r)) ≠ (-1 : Int))) =
   true) →
   (VLe (V.int IntKind.i64 (8 : Int)) (V.int IntKind.i64 (commitF f l r slot value)))) ∧
   (((!decide
   (Replica.view (decPReplica (encPReplica 1 r)) = (0 : Int) ∨
   Replica.start (decPReplica (encPReplica 1 r)) ≠ (-1 : Int))) =
   false) →
   (((VLe (encL (encMsg 1) 1 l)
   (encL (encMsg 1) 1 (decL decMsg (encL (encMsg 1) 1 l)))) ∧
   ((VLe (V.agg [V.int IntKind.i64 slot, V.int IntKind.i64 (Replica.view r), V.int IntKind.i64 value])
   (encCert 1
   (decCert (V.agg [V.int IntKind.i64 slot, V.int IntKind.i64 (Replica.view r), V.int IntKind.i64 value])))) ∧
   (pr114 f (decL decMsg (encL (encMsg 1) 1 l)) (2 : Int)
   (decCert (V.agg [V.int IntKind.i64 slot, V.int IntKind.i64 (Replica.view r), V.int IntKind.i64 value]))))) ∧
   ((((!decide
   ((2 : Int) * f + (1 : Int) ≤
   (↑(List.length
   (votesF f (decL decMsg (encL (encMsg 1) 1 l)) (2 : Int)
   (decCert
   (V.agg [V.int IntKind.i64 slot, V.int IntKind.i64 (Replica.view r), V.int IntKind.i64 value])))) :
   Int))) =
   true) →
   (VLe (V.int IntKind.i64 (10 : Int)) (V.int IntKind.i64 (commitF f l r slot value)))) ∧
   (((!decide
   ((2 : Int) * f + (1 : Int) ≤
   (↑(List.length
   (votesF f (decL decMsg (encL (encMsg 1) 1 l)) (2 : Int)
   (decCert
   (V.agg [V.int IntKind.i64 slot, V.int IntKind.i64 (Replica.view r), V.int IntKind.i64 value])))) :
   Int))) =
   false) →
   (((VLe (encL (encMsg 1) 1 l)
   (encL (encMsg 1) 1 (decL decMsg (encL (encMsg 1) 1 l)))) ∧
   ((VLe (encPReplica 1 r) (encPReplica 1 (decPReplica (encPReplica 1 r)))) ∧
   (pr115 (decL decMsg (encL (encMsg 1) 1 l)) (decPReplica (encPReplica 1 r)) (3 : Int) slot
   (-1 : Int)))) ∧
   (((sentB (decL decMsg (encL (encMsg 1) 1 l)) (decPReplica (encPReplica 1 r)) (3 : Int) slot
   (-1 : Int) =
   true) →
   (VLe (V.int IntKind.i64 (6 : Int)) (V.int IntKind.i64 (commitF f l r slot value)))) ∧
   ((sentB (decL decMsg (encL (encMsg 1) 1 l)) (decPReplica (encPReplica 1 r)) (3 : Int) slot
   (-1 : Int) =
   false) →
   (VLe (V.int IntKind.i64 (0 : Int)) (V.int IntKind.i64 (commitF f l r slot value))))))))))))))) := by
    obtain ⟨hr, hl⟩ := hpre
    simp only [decL_Msg, dec_encPReplica]
    have ed : decCert (.agg [.int .i64 slot, .int .i64 r.view, .int .i64 value]) = ⟨slot, r.view, value⟩ := rfl
    simp only [ed]
    have es : inR slot 1 30 → sentB l r 3 slot (-1) = sentAt l r 3 slot := fun a => by
      unfold sentB sentAt isSent2 isSent
      congr 1
      funext m
      rw [decide_eq_decide]
      have : slot ≠ 0 := by unfold inR at a; omega
      simp only [this, false_or]
      constructor
      · rintro ⟨c1, c2, c3, c4, _⟩; exact ⟨c2, c1, c3, c4⟩
      · rintro ⟨c1, c2, c3, c4⟩; exact ⟨c2, c1, c3, c4, Or.inl (by omega)⟩
    unfold commitF
    refine ⟨trivial, fun h => ?_, fun h => ?_⟩
    · rw [if_pos (nd h)]; exact VLe.refl _
    rw [if_neg (not_not_intro (pd h))]
    refine ⟨⟨VLe.refl _, trivial⟩, fun h2 => ?_, fun h2 => ?_⟩
    · rw [if_pos (nd h2)]; exact VLe.refl _
    rw [if_neg (not_not_intro (pd h2))]
    refine ⟨⟨VLe.refl _, VLe.refl _, hr.okf, hl⟩, fun h3 => ?_, fun h3 => ?_⟩
    · have g3 : ¬ enough f l 2 ⟨slot, r.view, value⟩ := by
        have := nd h3
        exact this
      rw [if_pos g3]; exact VLe.refl _
    have g3 : enough f l 2 ⟨slot, r.view, value⟩ := by
      have := pd h3
      exact this
    rw [if_neg (not_not_intro g3), es (pd h).1]
    refine ⟨⟨VLe.refl _, VLe.refl _, hl.1⟩, fun h4 => ?_, fun h4 => ?_⟩
    · rw [if_pos h4]; exact VLe.refl _
    · rw [if_neg (by simp [h4])]; exact VLe.refl _
  exact Eq.mp (by kernel_rfl) key
theorem so68 : Sound Tryz.prog 68 sp68 := by
  refine sound_of_body hmix (pol := 0) Tryz.func68 rfl (by kernel_rfl) fun args bin ob r bout hDe hob => ?_
  unfold sp68 at hDe
  split at hDe
  · rename_i a0 a1 a2 a3 a4
    cases hDe
    exact ⟨rfl, rfl, Nat.le_of_ble_eq_true (by kernel_rfl), cx68 a0 ((decL decMsg) a1) (decPReplica a2) a3 a4, Eq.mp (by kernel_rfl) htt, Eq.mp (by kernel_rfl) da68, Eq.mp (by kernel_rfl) (noM_sound (P := Tryz.prog)), by kernel_rfl, [.int .i64 (a0), encL (encMsg 1) 1 (((decL decMsg) a1)), encPReplica 1 ((decPReplica a2)), .int .i64 (a3), .int .i64 (a4)], args_of_vles (⟨VLe.refl _, hob.1, hob.2.1, VLe.refl _, VLe.refl _, trivial⟩), Eq.mp (by kernel_rfl) (bd68 a0 ((decL decMsg) a1) (decPReplica a2) a3 a4 (hob.2.2))⟩
  · cases hDe

/-! ### spec.MayCommit -/
def pr26 (f : Int) (l : List Msg) (r : Replica) (slot : Int) (value : Int) : Prop := bdL l
noncomputable def rs26 (f : Int) (l : List Msg) (r : Replica) (slot : Int) (value : Int) : V := .int .i64 (mayCommitF f l r slot value)
noncomputable def sp26 : FSpec := fun args bin => match args, bin with
  | [.int .i64 a0, a1, a2, .int .i64 a3, .int .i64 a4], [] => some (VLe a1 (encL (encMsg 1) 1 (((decL decMsg) a1))) ∧ VLe a2 (encReplica 1 ((decReplica a2))) ∧ pr26 a0 ((decL decMsg) a1) (decReplica a2) a3 a4, rs26 a0 ((decL decMsg) a1) (decReplica a2) a3 a4, [])
  | _, _ => none
noncomputable def D26 : Nat → Option (Bool × FSpec) := lk [(63, (false, sp63)), (68, (false, sp68))]
theorem da26 : SoundAll Tryz.prog D26 := soundAll_cons so63 (soundAll_cons so68 (soundAll_nil))
noncomputable def cx26 (f : Int) (l : List Msg) (r : Replica) (slot : Int) (value : Int) : Cx := ⟨tt, D26, Tryz.f26.ntmps, [0, 1, 2, 3, 4, 7, 10, 11, 16], [], [], fun _ => none, [], noM, []⟩
theorem bd26 (f : Int) (l : List Msg) (r : Replica) (slot : Int) (value : Int) (hpre : pr26 f l r slot value) : bodyP (cx26 f l r slot value) Tryz.f26 0 [.int .i64 (f), encL (encMsg 1) 1 (l), encReplica 1 (r), .int .i64 (slot), .int .i64 (value)] (fun rr => VLe rr (rs26 f l r slot value)) := by
  have key :
      (((VLe (encL (encMsg 1) 1 l)
   (encL (encMsg 1) 1 (decL decMsg (encL (encMsg 1) 1 l)))) ∧
   ((VLe (encPReplica 1 r) (encPReplica 1 (decPReplica (encPReplica 1 r)))) ∧
   (pr63 f (decL decMsg (encL (encMsg 1) 1 l)) (decPReplica (encPReplica 1 r))))) ∧
   ((((replicaFault f (decL decMsg (encL (encMsg 1) 1 l)) (decPReplica (encPReplica 1 r)) !=
   (0 : Int)) =
   true) →
   (VLe
   (V.int IntKind.i64
   (replicaFault f (decL decMsg (encL (encMsg 1) 1 l)) (decPReplica (encPReplica 1 r))))
   (V.int IntKind.i64 (mayCommitF f l r slot value)))) ∧
   (((replicaFault f (decL decMsg (encL (encMsg 1) 1 l)) (decPReplica (encPReplica 1 r)) !=
   (0 : Int)) =
   false) →
   (((VLe (encL (encMsg 1) 1 l)
   (encL (encMsg 1) 1 (decL decMsg (encL (encMsg 1) 1 l)))) ∧
   ((VLe (encPReplica 1 r) (encPReplica 1 (decPReplica (encPReplica 1 r)))) ∧
   (pr68 f (decL decMsg (encL (encMsg 1) 1 l)) (decPReplica (encPReplica 1 r)) slot value))) ∧
   (VLe
   (V.int IntKind.i64
   (commitF f (decL decMsg (encL (encMsg 1) 1 l)) (decPReplica (encPReplica 1 r)) slot value))
   (V.int IntKind.i64 (mayCommitF f l r slot value))))))) := by
    simp only [decL_Msg, dec_encPReplica, dec_encReplica]
    refine ⟨⟨VLe.refl _, VLe.refl _, hpre⟩, fun h => ?_, fun h => ?_⟩
    · exact vle_int (by unfold mayCommitF; rw [if_pos (by simpa using h)])
    · have h0 : replicaFault f l r = 0 := by simpa using h
      obtain ⟨hr, hv⟩ := replica_right h0
      exact ⟨⟨VLe.refl _, VLe.refl _, hr, hpre⟩, vle_int (by unfold mayCommitF; rw [if_neg (not_not_intro h0)])⟩
  exact Eq.mp (by kernel_rfl) key
theorem so26 : Sound Tryz.prog 26 sp26 := by
  refine sound_of_body hmix (pol := 0) Tryz.func26 rfl (by kernel_rfl) fun args bin ob r bout hDe hob => ?_
  unfold sp26 at hDe
  split at hDe
  · rename_i a0 a1 a2 a3 a4
    cases hDe
    exact ⟨rfl, rfl, Nat.le_of_ble_eq_true (by kernel_rfl), cx26 a0 ((decL decMsg) a1) (decReplica a2) a3 a4, Eq.mp (by kernel_rfl) htt, Eq.mp (by kernel_rfl) da26, Eq.mp (by kernel_rfl) (noM_sound (P := Tryz.prog)), by kernel_rfl, [.int .i64 (a0), encL (encMsg 1) 1 (((decL decMsg) a1)), encReplica 1 ((decReplica a2)), .int .i64 (a3), .int .i64 (a4)], args_of_vles (⟨VLe.refl _, hob.1, hob.2.1, VLe.refl _, VLe.refl _, trivial⟩), Eq.mp (by kernel_rfl) (bd26 a0 ((decL decMsg) a1) (decReplica a2) a3 a4 (hob.2.2))⟩
  · cases hDe

end Go.Av
