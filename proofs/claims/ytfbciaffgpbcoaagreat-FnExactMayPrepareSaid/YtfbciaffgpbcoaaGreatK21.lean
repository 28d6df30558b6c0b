/- May a replica commit? -/
import Derived.Test.YtfbciaffgpbcoaaGreatK20
namespace Go.Av
open Go.Proofs
set_option maxRecDepth 100000
set_option linter.unusedVariables false
set_option linter.unusedSimpArgs false

/-- A pointer to a pointer to a replica; a pointer to the function that asks for a slot. -/
abbrev RefReplica := Replica
def encPRefReplica (t : Nat) (x : Replica) : V := .ptr [encPReplica t x] 0 t
def decPRefReplica : V → Replica
  | .ptr [c] _ _ => decPReplica c
  | _ => default
@[simp] theorem dec_encPRefReplica (t : Nat) (x : Replica) : decPRefReplica (encPRefReplica t x) = x := dec_encPReplica t x
abbrev Fslot := Int
def encPFslot (t : Nat) (x : Int) : V := .ptr [.fn 54 [encPInt t x]] 0 t
def decPFslot : V → Int
  | .ptr [.fn _ [c]] _ _ => decPInt c
  | _ => default
@[simp] theorem dec_encPFslot (t : Nat) (x : Int) : decPFslot (encPFslot t x) = x := rfl

/-- Did a replica send a message of a slot in its view? -/
noncomputable def isSent (r : Replica) (kind slot : Int) (m : Msg) : Bool := decide (m.sender = r.id ∧ m.kind = kind ∧ m.view = r.view ∧ m.slot = slot)
noncomputable def sentAt (l : List Msg) (r : Replica) (kind slot : Int) : Bool := l.any (isSent r kind slot)
noncomputable def commitF (f : Int) (l : List Msg) (r : Replica) (slot value : Int) : Int :=
  if ¬ (inR slot 1 30 ∧ inR value 0 12) then 3 else if ¬ (r.view = 0 ∨ r.start ≠ -1) then 8
  else if ¬ enough f l 2 ⟨slot, r.view, value⟩ then 10 else if sentAt l r 3 slot = true then 6 else 0
noncomputable def mayCommitF (f : Int) (l : List Msg) (r : Replica) (slot value : Int) : Int :=
  if replicaFault f l r ≠ 0 then replicaFault f l r else commitF f l r slot value


/-! ### Replica).atSlot$1 -/
def pr54 (m : Msg) (slot : Int) : Prop := True
noncomputable def rs54 (m : Msg) (slot : Int) : V := .bool (decide (m.slot = slot))
noncomputable def sp54 : FSpec := fun args bin => match args, bin with
  | [a0, a1], [] => some (VLe a0 (encMsg 1 ((decMsg a0))) ∧ VLe a1 (encPInt 1 ((decPInt a1))) ∧ pr54 (decMsg a0) (decPInt a1), rs54 (decMsg a0) (decPInt a1), [])
  | _, _ => none
noncomputable def D54 : Nat → Option (Bool × FSpec) := lk []
theorem da54 : SoundAll Tryz.prog D54 := soundAll_nil
noncomputable def cx54 (m : Msg) (slot : Int) : Cx := ⟨tt, D54, Tryz.f54.ntmps, [0, 1, 2, 3], [], [], fun _ => none, [], noM, []⟩
theorem bd54 (m : Msg) (slot : Int) (hpre : pr54 m slot) : bodyP (cx54 m slot) Tryz.f54 0 [encMsg 1 (m), encPInt 1 (slot)] (fun rr => VLe rr (rs54 m slot)) := by
  have key :
      (VLe (V.bool (Msg.slot m == slot)) (V.bool (decide (Msg.slot m = slot)))) := by
    exact vle_bool (by rw [Bool.eq_iff_iff, decide_eq_true_eq]; simp)
  exact Eq.mp (by kernel_rfl) key
theorem so54 : Sound Tryz.prog 54 sp54 := by
  refine sound_of_body hmix (pol := 0) Tryz.func54 rfl (by kernel_rfl) fun args bin ob r bout hDe hob => ?_
  unfold sp54 at hDe
  split at hDe
  · rename_i a0 a1
    cases hDe
    exact ⟨rfl, rfl, Nat.le_of_ble_eq_true (by kernel_rfl), cx54 (decMsg a0) (decPInt a1), Eq.mp (by kernel_rfl) htt, Eq.mp (by kernel_rfl) da54, Eq.mp (by kernel_rfl) (noM_sound (P := Tryz.prog)), by kernel_rfl, [encMsg 1 ((decMsg a0)), encPInt 1 ((decPInt a1))], args_of_vles (⟨hob.1, hob.2.1, trivial⟩), Eq.mp (by kernel_rfl) (bd54 (decMsg a0) (decPInt a1) (hob.2.2))⟩
  · cases hDe

/-! ### Replica).sent$1 -/
def pr80 (m : Msg) (r : RefReplica) (kind : Int) (is_ : Fslot) : Prop := True
noncomputable def rs80 (m : Msg) (r : RefReplica) (kind : Int) (is_ : Fslot) : V := .bool (isSent r kind is_ m)
noncomputable def sp80 : FSpec := fun args bin => match args, bin with
  | [a0, a1, a2, a3], [] => some (VLe a0 (encMsg 1 ((decMsg a0))) ∧ VLe a1 (encPRefReplica 1 ((decPRefReplica a1))) ∧ VLe a2 (encPInt 1 ((decPInt a2))) ∧ VLe a3 (encPFslot 1 ((decPFslot a3))) ∧ pr80 (decMsg a0) (decPRefReplica a1) (decPInt a2) (decPFslot a3), rs80 (decMsg a0) (decPRefReplica a1) (decPInt a2) (decPFslot a3), [])
  | _, _ => none
noncomputable def D80 : Nat → Option (Bool × FSpec) := lk [(54, (false, sp54))]
theorem da80 : SoundAll Tryz.prog D80 := soundAll_cons so54 (soundAll_nil)
noncomputable def cx80 (m : Msg) (r : RefReplica) (kind : Int) (is_ : Fslot) : Cx := ⟨tt, D80, Tryz.f80.ntmps, [0, 1, 2, 3, 4, 5], [], [], fun _ => none, [], noM, []⟩
theorem bd80 (m : Msg) (r : RefReplica) (kind : Int) (is_ : Fslot) (hpre : pr80 m r kind is_) : bodyP (cx80 m r kind is_) Tryz.f80 0 [encMsg 1 (m), encPRefReplica 1 (r), encPInt 1 (kind), encPFslot 1 (is_)] (fun rr => VLe rr (rs80 m r kind is_)) := by
  have key :
      ((tq (Msg.sender m == Replica.id r)) ∧
   ((tq (Msg.sender m == Replica.id r)) ∧
   ((tq (Msg.sender m == Replica.id r)) ∧
   (((true = true) →
   (((Msg.sender m == Replica.id r) = true) →
   ((Msg.sender m == Replica.id r) = true))) ∧
   (∀ b : Bool,
   ((b = bif Msg.sender m == Replica.id r then Msg.kind m == kind else false) →
   ((tq (b)) ∧
   ((tq (b)) ∧
   ((tq (b)) ∧
   ((tq (b)) ∧
   ((tq (b)) ∧
   ((tq (b)) ∧
   (((true = true) →
   ((b = true) →
   (b = true))) ∧
   (∀ b_1 : Bool,
   ((b_1 = bif b then Msg.view m == Replica.view r else false) →
   ((tq (b_1)) ∧
   ((tq (b_1)) ∧
   (((b_1 = true) →
   ((VLe (encMsg 1 m) (encMsg 1 (decMsg (encMsg 1 m)))) ∧
   ((VLe (V.ptr [V.int IntKind.i64 is_] 0 1)
   (encPInt 1 (decPInt (V.ptr [V.int IntKind.i64 is_] 0 1)))) ∧
   (pr54 (decMsg (encMsg 1 m)) (decPInt (V.ptr [V.int IntKind.i64 is_] 0 1)))))) ∧
   (((true = true) →
   ((b_1 = true) →
   (b_1 = true))) ∧
   (∀ b_2 : Bool,
   ((b_2 =
   bif b_1 then
   decide (Msg.slot (decMsg (encMsg 1 m)) = decPInt (V.ptr [V.int IntKind.i64 is_] 0 1))
   else false) →
   (VLe (V.bool b_2) (V.bool (isSent r kind is_ m)))))))))))))))))))))))) := by
    simp only [dec_encMsg, dec_encPRefReplica, decPInt_ptr, dec_encPFslot]
    repeat (first | (refine And.intro (fun h _ => h) ?_) | (refine And.intro (fun _ h => h) ?_) | (refine And.intro ?aa ?_; case aa => (exact fun _ => ⟨VLe.refl _, VLe.refl _, trivial⟩)) | (refine And.intro ?aa ?_; case aa => (intros; simp_all [pr54]; done)) | (refine And.intro ?aa ?_; case aa => (intros; exact inK64 (by omega))) | (refine And.intro ?aa ?_; case aa => (intros; simp only [decide_eq_true_eq] at *; omega)) | (intro q hq))
    subst_vars
    refine vle_bool ?_
    unfold isSent
    rw [Bool.eq_iff_iff, decide_eq_true_eq]
    by_cases a1 : m.sender = r.id <;> by_cases a2 : m.kind = kind <;> by_cases a3 : m.view = r.view <;> simp [a1, a2, a3]
  exact Eq.mp (by kernel_rfl) key
theorem so80 : Sound Tryz.prog 80 sp80 := by
  refine sound_of_body hmix (pol := 0) Tryz.func80 rfl (by kernel_rfl) fun args bin ob r bout hDe hob => ?_
  unfold sp80 at hDe
  split at hDe
  · rename_i a0 a1 a2 a3
    cases hDe
    exact ⟨rfl, rfl, Nat.le_of_ble_eq_true (by kernel_rfl), cx80 (decMsg a0) (decPRefReplica a1) (decPInt a2) (decPFslot a3), Eq.mp (by kernel_rfl) htt, Eq.mp (by kernel_rfl) da80, Eq.mp (by kernel_rfl) (noM_sound (P := Tryz.prog)), by kernel_rfl, [encMsg 1 ((decMsg a0)), encPRefReplica 1 ((decPRefReplica a1)), encPInt 1 ((decPInt a2)), encPFslot 1 ((decPFslot a3))], args_of_vles (⟨hob.1, hob.2.1, hob.2.2.1, hob.2.2.2.1, trivial⟩), Eq.mp (by kernel_rfl) (bd80 (decMsg a0) (decPRefReplica a1) (decPInt a2) (decPFslot a3) (hob.2.2.2.2))⟩
  · cases hDe

/-! ### slices.IndexFunc(()loop.example/g00369/impl.Msg,loop.example/g00369/impl.Msg)@Replica).sent$1 -/
def pr71_80 (xs : List Msg) (r : RefReplica) (kind : Int) (is_ : Fslot) : Prop := xs.length ≤ maxLen ∧ (True)
noncomputable def rs71_80 (xs : List Msg) (r : RefReplica) (kind : Int) (is_ : Fslot) : V := .int .i64 (idxF (fun m => isSent r kind is_ m) xs)
noncomputable def sp71_80 : FSpec := fun args bin => match args, bin with
  | [a0, .fn 80 [a1, a2, a3]], [] => some (VLe a0 (encL (encMsg 1) 1 (((decL decMsg) a0))) ∧ VLe a1 (encPRefReplica 1 ((decPRefReplica a1))) ∧ VLe a2 (encPInt 1 ((decPInt a2))) ∧ VLe a3 (encPFslot 1 ((decPFslot a3))) ∧ pr71_80 ((decL decMsg) a0) (decPRefReplica a1) (decPInt a2) (decPFslot a3), rs71_80 ((decL decMsg) a0) (decPRefReplica a1) (decPInt a2) (decPFslot a3), [])
  | _, _ => none
noncomputable def in71_80_2 (xs : List Msg) (r : RefReplica) (kind : Int) (is_ : Fslot) : LoopInv :=
  ⟨Nat, fun i => ⟨[(0, encL (encMsg 1) 1 xs), (1, .fn 80 [encPRefReplica 1 (r), encPInt 1 (kind), encPFslot 1 (is_)]), (7, .int .i64 xs.length), (8, .int .i64 i)], []⟩,
    fun i => i ≤ xs.length ∧ ∀ j, j < i → (fun m => isSent r kind is_ m) (xs.getD j default) = false, fun i => xs.length - i⟩
noncomputable def iv71_80 (xs : List Msg) (r : RefReplica) (kind : Int) (is_ : Fslot) : Nat → Option LoopInv := fun rg_ => match rg_ with
  | 2 => some (in71_80_2 xs r kind is_)
  | _ => none
noncomputable def D71_80 : Nat → Option (Bool × FSpec) := lk [(80, (false, sp80))]
theorem da71_80 : SoundAll Tryz.prog D71_80 := soundAll_cons so80 (soundAll_nil)
noncomputable def cx71_80 (xs : List Msg) (r : RefReplica) (kind : Int) (is_ : Fslot) : Cx := ⟨tt, D71_80, Tryz.f71.ntmps, [0, 1, 4, 5, 7, 8, 9, 16], [(2, ⟨[(0, none), (1, none), (7, none), (8, none)], []⟩)], [], iv71_80 xs r kind is_, [], noM, []⟩
theorem bd71_80 (xs : List Msg) (r : RefReplica) (kind : Int) (is_ : Fslot) (hpre : pr71_80 xs r kind is_) : bodyP (cx71_80 xs r kind is_) Tryz.f71 0 [encL (encMsg 1) 1 (xs), .fn 80 [encPRefReplica 1 (r), encPInt 1 (kind), encPFslot 1 (is_)]] (fun rr => VLe rr (rs71_80 xs r kind is_)) := by
  have key :
      ((∃ x : Nat, ((SLe
   (AS.mk
   [(0, encL (encMsg 1) 1 xs),
   (1, V.fn (80 : FuncId) [encPRefReplica 1 r, encPInt 1 kind, encPFslot 1 is_]),
   (7, V.int IntKind.i64 (↑(List.length xs) : Int)), (8, V.int IntKind.i64 (0 : Int))]
   [])
   (AS.mk
   [(0, encL (encMsg 1) 1 xs),
   (1, V.fn (80 : FuncId) [encPRefReplica 1 r, encPInt 1 kind, encPFslot 1 is_]),
   (7, V.int IntKind.i64 (↑(List.length xs) : Int)), (8, V.int IntKind.i64 (↑x : Int))]
   [])) ∧
   ((x ≤ List.length xs) ∧
   (∀ j : Nat,
   ((j < x) →
   (isSent r kind is_ (List.getD xs j default) = false)))))) ∧
   (∀ x : Nat,
   (((x ≤ List.length xs) ∧
   (∀ j : Nat,
   ((j < x) →
   (isSent r kind is_ (List.getD xs j default) = false)))) →
   (((decide ((↑x : Int) < (↑(List.length xs) : Int)) = true) →
   ((((0 : Int) ≤ (↑x : Int)) ∧
   ((↑x : Int) < (↑(List.length xs) : Int))) ∧
   (((VLe (encMsg 1 (List.getD xs (Int.toNat (↑x : Int)) default))
   (encMsg 1 (decMsg (encMsg 1 (List.getD xs (Int.toNat (↑x : Int)) default))))) ∧
   ((VLe (V.ptr [encPReplica 1 r] 0 1)
   (encPRefReplica 1 (decPRefReplica (V.ptr [encPReplica 1 r] 0 1)))) ∧
   ((VLe (V.ptr [V.int IntKind.i64 kind] 0 1)
   (encPInt 1 (decPInt (V.ptr [V.int IntKind.i64 kind] 0 1)))) ∧
   ((VLe (V.ptr [V.fn (54 : FuncId) [encPInt 1 is_]] 0 1)
   (encPFslot 1 (decPFslot (V.ptr [V.fn (54 : FuncId) [encPInt 1 is_]] 0 1)))) ∧
   (pr80 (decMsg (encMsg 1 (List.getD xs (Int.toNat (↑x : Int)) default)))
   (decPRefReplica (V.ptr [encPReplica 1 r] 0 1))
   (decPInt (V.ptr [V.int IntKind.i64 kind] 0 1))
   (decPFslot (V.ptr [V.fn (54 : FuncId) [encPInt 1 is_]] 0 1))))))) ∧
   (((isSent (decPRefReplica (V.ptr [encPReplica 1 r] 0 1))
   (decPInt (V.ptr [V.int IntKind.i64 kind] 0 1))
   (decPFslot (V.ptr [V.fn (54 : FuncId) [encPInt 1 is_]] 0 1))
   (decMsg (encMsg 1 (List.getD xs (Int.toNat (↑x : Int)) default))) =
   true) →
   (VLe (V.int IntKind.i64 (↑x : Int)) (V.int IntKind.i64 (idxF (fun (m : Msg) ↦ isSent r kind is_ m) xs)))) ∧
   ((isSent (decPRefReplica (V.ptr [encPReplica 1 r] 0 1))
   (decPInt (V.ptr [V.int IntKind.i64 kind] 0 1))
   (decPFslot (V.ptr [V.fn (54 : FuncId) [encPInt 1 is_]] 0 1))
   (decMsg (encMsg 1 (List.getD xs (Int.toNat (↑x : Int)) default))) =
   false) →
   ((inK IntKind.i64 ((↑x : Int) + (1 : Int))) ∧
   (∃ y : Nat, ((SLe
   (AS.mk
   [(0, encL (encMsg 1) 1 xs),
   (1, V.fn (80 : FuncId) [encPRefReplica 1 r, encPInt 1 kind, encPFslot 1 is_]),
   (7, V.int IntKind.i64 (↑(List.length xs) : Int)), (8, V.int IntKind.i64 ((↑x : Int) + (1 : Int)))]
   [])
   (AS.mk
   [(0, encL (encMsg 1) 1 xs),
   (1, V.fn (80 : FuncId) [encPRefReplica 1 r, encPInt 1 kind, encPFslot 1 is_]),
   (7, V.int IntKind.i64 (↑(List.length xs) : Int)), (8, V.int IntKind.i64 (↑y : Int))]
   [])) ∧
   (((y ≤ List.length xs) ∧
   (∀ j : Nat,
   ((j < y) →
   (isSent r kind is_ (List.getD xs j default) = false)))) ∧
   (List.length xs - y < List.length xs - x)))))))))) ∧
   ((decide ((↑x : Int) < (↑(List.length xs) : Int)) = false) →
   (VLe (V.int IntKind.i64 (-1 : Int)) (V.int IntKind.i64 (idxF (fun (m : Msg) ↦ isSent r kind is_ m) xs)))))))) := by
    obtain ⟨hlen, hp⟩ := hpre
    unfold maxLen at hlen
    refine ⟨⟨0, SLe.refl _, by omega, fun j hj => absurd hj (Nat.not_lt_zero j)⟩, ?_⟩
    rintro i ⟨hi, hj⟩
    refine ⟨fun h => ?_, fun h => ?_⟩
    · have hlt : i < xs.length := by simpa using h
      have hin : xs.getD i default ∈ xs := by simp [hlt]
      simp only [Int.toNat_natCast, dec_encMsg, dec_encPMsg, dec_encPInt, decL_Msg, dec_encPRefReplica, decPInt_ptr, dec_encPFslot]
      refine ⟨⟨by omega, by omega⟩, ⟨VLe.refl _, VLe.refl _, VLe.refl _, VLe.refl _, trivial⟩, fun h2 => vle_int (idxF_some hlt hj h2).symm, fun h2 => ⟨inK64 (by omega), i + 1, SLe.refl _, ⟨by omega, fun j h3 => ?_⟩, by omega⟩⟩
      rcases Nat.lt_or_ge j i with h4 | h4
      · exact hj j h4
      · have : j = i := by omega
        subst this
        exact h2
    · have hge : i = xs.length := by simp at h; omega
      exact vle_int (idxF_none fun j h3 => hj j (by omega)).symm
  exact Eq.mp (by kernel_rfl) key
theorem so71_80 : Sound Tryz.prog 71 sp71_80 := by
  refine sound_of_body hmix (pol := 0) Tryz.func71 rfl (by kernel_rfl) fun args bin ob r bout hDe hob => ?_
  unfold sp71_80 at hDe
  split at hDe
  · rename_i a0 a1 a2 a3
    cases hDe
    exact ⟨rfl, rfl, Nat.le_of_ble_eq_true (by kernel_rfl), cx71_80 ((decL decMsg) a0) (decPRefReplica a1) (decPInt a2) (decPFslot a3), Eq.mp (by kernel_rfl) htt, Eq.mp (by kernel_rfl) da71_80, Eq.mp (by kernel_rfl) (noM_sound (P := Tryz.prog)), by kernel_rfl, [encL (encMsg 1) 1 (((decL decMsg) a0)), .fn 80 [encPRefReplica 1 ((decPRefReplica a1)), encPInt 1 ((decPInt a2)), encPFslot 1 ((decPFslot a3))]], args_of_vles (⟨hob.1, vle_fn ⟨hob.2.1, hob.2.2.1, hob.2.2.2.1, trivial⟩, trivial⟩), Eq.mp (by kernel_rfl) (bd71_80 ((decL decMsg) a0) (decPRefReplica a1) (decPInt a2) (decPFslot a3) (hob.2.2.2.2))⟩
  · cases hDe

/-! ### slices.ContainsFunc(()loop.example/g00369/impl.Msg,loop.example/g00369/impl.Msg)@Replica).sent$1 -/
def pr79_80 (xs : List Msg) (r : RefReplica) (kind : Int) (is_ : Fslot) : Prop := xs.length ≤ maxLen ∧ (True)
noncomputable def rs79_80 (xs : List Msg) (r : RefReplica) (kind : Int) (is_ : Fslot) : V := .bool (xs.any (fun m => isSent r kind is_ m))
noncomputable def sp79_80 : FSpec := fun args bin => match args, bin with
  | [a0, .fn 80 [a1, a2, a3]], [] => some (VLe a0 (encL (encMsg 1) 1 (((decL decMsg) a0))) ∧ VLe a1 (encPRefReplica 1 ((decPRefReplica a1))) ∧ VLe a2 (encPInt 1 ((decPInt a2))) ∧ VLe a3 (encPFslot 1 ((decPFslot a3))) ∧ pr79_80 ((decL decMsg) a0) (decPRefReplica a1) (decPInt a2) (decPFslot a3), rs79_80 ((decL decMsg) a0) (decPRefReplica a1) (decPInt a2) (decPFslot a3), [])
  | _, _ => none
noncomputable def D79_80 : Nat → Option (Bool × FSpec) := lk [(71, (false, sp71_80))]
theorem da79_80 : SoundAll Tryz.prog D79_80 := soundAll_cons so71_80 (soundAll_nil)
noncomputable def cx79_80 (xs : List Msg) (r : RefReplica) (kind : Int) (is_ : Fslot) : Cx := ⟨tt, D79_80, Tryz.f79.ntmps, [0, 1, 4], [], [], fun _ => none, [], noM, []⟩
theorem bd79_80 (xs : List Msg) (r : RefReplica) (kind : Int) (is_ : Fslot) (hpre : pr79_80 xs r kind is_) : bodyP (cx79_80 xs r kind is_) Tryz.f79 0 [encL (encMsg 1) 1 (xs), .fn 80 [encPRefReplica 1 (r), encPInt 1 (kind), encPFslot 1 (is_)]] (fun rr => VLe rr (rs79_80 xs r kind is_)) := by
  have key :
      (((VLe (encL (encMsg 1) 1 xs)
   (encL (encMsg 1) 1 (decL decMsg (encL (encMsg 1) 1 xs)))) ∧
   ((VLe (V.ptr [encPReplica 1 r] 0 1)
   (encPRefReplica 1 (decPRefReplica (V.ptr [encPReplica 1 r] 0 1)))) ∧
   ((VLe (V.ptr [V.int IntKind.i64 kind] 0 1)
   (encPInt 1 (decPInt (V.ptr [V.int IntKind.i64 kind] 0 1)))) ∧
   ((VLe (V.ptr [V.fn (54 : FuncId) [encPInt 1 is_]] 0 1)
   (encPFslot 1 (decPFslot (V.ptr [V.fn (54 : FuncId) [encPInt 1 is_]] 0 1)))) ∧
   (pr71_80 (decL decMsg (encL (encMsg 1) 1 xs))
   (decPRefReplica (V.ptr [encPReplica 1 r] 0 1))
   (decPInt (V.ptr [V.int IntKind.i64 kind] 0 1))
   (decPFslot (V.ptr [V.fn (54 : FuncId) [encPInt 1 is_]] 0 1))))))) ∧
   (VLe
   (V.bool
   (decide
   (idxF
   (fun (m : Msg) ↦
   isSent (decPRefReplica (V.ptr [encPReplica 1 r] 0 1))
   (decPInt (V.ptr [V.int IntKind.i64 kind] 0 1))
   (decPFslot (V.ptr [V.fn (54 : FuncId) [encPInt 1 is_]] 0 1)) m)
   (decL decMsg (encL (encMsg 1) 1 xs)) ≥
   (0 : Int))))
   (V.bool (List.any xs fun (m : Msg) ↦ isSent r kind is_ m)))) := by
    simp only [decL_ints, decL_Msg, dec_encPMsg, dec_encMsg, dec_encPInt, decL_Msg, dec_encPRefReplica, decPInt_ptr, dec_encPFslot]
    refine ⟨?_, vle_bool (idxF_nonneg _ _)⟩
    repeat' (first | exact VLe.refl _ | exact hpre | apply And.intro)
  exact Eq.mp (by kernel_rfl) key
theorem so79_80 : Sound Tryz.prog 79 sp79_80 := by
  refine sound_of_body hmix (pol := 0) Tryz.func79 rfl (by kernel_rfl) fun args bin ob r bout hDe hob => ?_
  unfold sp79_80 at hDe
  split at hDe
  · rename_i a0 a1 a2 a3
    cases hDe
    exact ⟨rfl, rfl, Nat.le_of_ble_eq_true (by kernel_rfl), cx79_80 ((decL decMsg) a0) (decPRefReplica a1) (decPInt a2) (decPFslot a3), Eq.mp (by kernel_rfl) htt, Eq.mp (by kernel_rfl) da79_80, Eq.mp (by kernel_rfl) (noM_sound (P := Tryz.prog)), by kernel_rfl, [encL (encMsg 1) 1 (((decL decMsg) a0)), .fn 80 [encPRefReplica 1 ((decPRefReplica a1)), encPInt 1 ((decPInt a2)), encPFslot 1 ((decPFslot a3))]], args_of_vles (⟨hob.1, vle_fn ⟨hob.2.1, hob.2.2.1, hob.2.2.2.1, trivial⟩, trivial⟩), Eq.mp (by kernel_rfl) (bd79_80 ((decL decMsg) a0) (decPRefReplica a1) (decPInt a2) (decPFslot a3) (hob.2.2.2.2))⟩
  · cases hDe

/-! ### Replica).sent -/
def pr53 (r : Replica) (l : List Msg) (kind : Int) (slot : Int) : Prop := l.length ≤ maxLen
noncomputable def rs53 (r : Replica) (l : List Msg) (kind : Int) (slot : Int) : V := .bool (sentAt l r kind slot)
noncomputable def sp53 : FSpec := fun args bin => match args, bin with
  | [a0, a1, .int .i64 a2, .fn 54 [a3]], [] => some (VLe a0 (encPReplica 1 ((decPReplica a0))) ∧ VLe a1 (encL (encMsg 1) 1 (((decL decMsg) a1))) ∧ VLe a3 (encPInt 1 ((decPInt a3))) ∧ pr53 (decPReplica a0) ((decL decMsg) a1) a2 (decPInt a3), rs53 (decPReplica a0) ((decL decMsg) a1) a2 (decPInt a3), [])
  | _, _ => none
noncomputable def D53 : Nat → Option (Bool × FSpec) := lk [(79, (false, sp79_80))]
theorem da53 : SoundAll Tryz.prog D53 := soundAll_cons so79_80 (soundAll_nil)
noncomputable def cx53 (r : Replica) (l : List Msg) (kind : Int) (slot : Int) : Cx := ⟨tt, D53, Tryz.f53.ntmps, [0, 1, 2, 3, 4, 6, 7, 8], [], [], fun _ => none, [], noM, []⟩
theorem bd53 (r : Replica) (l : List Msg) (kind : Int) (slot : Int) (hpre : pr53 r l kind slot) : bodyP (cx53 r l kind slot) Tryz.f53 0 [encPReplica 1 (r), encL (encMsg 1) 1 (l), .int .i64 (kind), .fn 54 [encPInt 1 (slot)]] (fun rr => VLe rr (rs53 r l kind slot)) := by
  have key :
      (((VLe (encL (encMsg 1) 1 l)
   (encL (encMsg 1) 1 (decL decMsg (encL (encMsg 1) 1 l)))) ∧
   ((VLe (V.ptr [encPReplica 1 r] 0 1)
   (encPRefReplica 1 (decPRefReplica (V.ptr [encPReplica 1 r] 0 1)))) ∧
   ((VLe (V.ptr [V.int IntKind.i64 kind] 0 1)
   (encPInt 1 (decPInt (V.ptr [V.int IntKind.i64 kind] 0 1)))) ∧
   ((VLe (V.ptr [V.fn (54 : FuncId) [V.ptr [V.int IntKind.i64 slot] 0 1]] 0 1)
   (encPFslot 1
   (decPFslot (V.ptr [V.fn (54 : FuncId) [V.ptr [V.int IntKind.i64 slot] 0 1]] 0 1)))) ∧
   (pr79_80 (decL decMsg (encL (encMsg 1) 1 l))
   (decPRefReplica (V.ptr [encPReplica 1 r] 0 1))
   (decPInt (V.ptr [V.int IntKind.i64 kind] 0 1))
   (decPFslot (V.ptr [V.fn (54 : FuncId) [V.ptr [V.int IntKind.i64 slot] 0 1]] 0 1))))))) ∧
   (VLe
   (V.bool
   (List.any (decL decMsg (encL (encMsg 1) 1 l)) fun (m : Msg) ↦
   isSent (decPRefReplica (V.ptr [encPReplica 1 r] 0 1))
   (decPInt (V.ptr [V.int IntKind.i64 kind] 0 1))
   (decPFslot
   (V.ptr [V.fn (54 : FuncId) [V.ptr [V.int IntKind.i64 slot] 0 1]] 0 1))
   m))
   (V.bool (sentAt l r kind slot)))) := by
    simp only [decL_Msg, dec_encPReplica, decPInt_ptr]
    exact ⟨⟨VLe.refl _, VLe.refl _, VLe.refl _, VLe.refl _, hpre, trivial⟩, VLe.refl _⟩
  exact Eq.mp (by kernel_rfl) key
theorem so53 : Sound Tryz.prog 53 sp53 := by
  refine sound_of_body hmix (pol := 0) Tryz.func53 rfl (by kernel_rfl) fun args bin ob r bout hDe hob => ?_
  unfold sp53 at hDe
  split at hDe
  · rename_i a0 a1 a2 a3
    cases hDe
    exact ⟨rfl, rfl, Nat.le_of_ble_eq_true (by kernel_rfl), cx53 (decPReplica a0) ((decL decMsg) a1) a2 (decPInt a3), Eq.mp (by kernel_rfl) htt, Eq.mp (by kernel_rfl) da53, Eq.mp (by kernel_rfl) (noM_sound (P := Tryz.prog)), by kernel_rfl, [encPReplica 1 ((decPReplica a0)), encL (encMsg 1) 1 (((decL decMsg) a1)), .int .i64 (a2), .fn 54 [encPInt 1 ((decPInt a3))]], args_of_vles (⟨hob.1, hob.2.1, VLe.refl _, vle_fn ⟨hob.2.2.1, trivial⟩, trivial⟩), Eq.mp (by kernel_rfl) (bd53 (decPReplica a0) ((decL decMsg) a1) a2 (decPInt a3) (hob.2.2.2))⟩
  · cases hDe

/-! ### Replica).atSlot -/
def pr29 (r : Replica) (l : List Msg) (kind : Int) (slot : Int) : Prop := l.length ≤ maxLen
noncomputable def rs29 (r : Replica) (l : List Msg) (kind : Int) (slot : Int) : V := .bool (sentAt l r kind slot)
noncomputable def sp29 : FSpec := fun args bin => match args, bin with
  | [a0, a1, .int .i64 a2, .int .i64 a3], [] => some (VLe a0 (encPReplica 1 ((decPReplica a0))) ∧ VLe a1 (encL (encMsg 1) 1 (((decL decMsg) a1))) ∧ pr29 (decPReplica a0) ((decL decMsg) a1) a2 a3, rs29 (decPReplica a0) ((decL decMsg) a1) a2 a3, [])
  | _, _ => none
noncomputable def D29 : Nat → Option (Bool × FSpec) := lk [(53, (false, sp53))]
theorem da29 : SoundAll Tryz.prog D29 := soundAll_cons so53 (soundAll_nil)
noncomputable def cx29 (r : Replica) (l : List Msg) (kind : Int) (slot : Int) : Cx := ⟨tt, D29, Tryz.f29.ntmps, [0, 1, 2, 3, 7, 8], [], [], fun _ => none, [], noM, []⟩
theorem bd29 (r : Replica) (l : List Msg) (kind : Int) (slot : Int) (hpre : pr29 r l kind slot) : bodyP (cx29 r l kind slot) Tryz.f29 0 [encPReplica 1 (r), encL (encMsg 1) 1 (l), .int .i64 (kind), .int .i64 (slot)] (fun rr => VLe rr (rs29 r l kind slot)) := by
  have key :
      (((VLe (encPReplica 1 r) (encPReplica 1 (decPReplica (encPReplica 1 r)))) ∧
   ((VLe (encL (encMsg 1) 1 l)
   (encL (encMsg 1) 1 (decL decMsg (encL (encMsg 1) 1 l)))) ∧
   ((VLe (V.ptr [V.int IntKind.i64 slot] 0 1)
   (encPInt 1 (decPInt (V.ptr [V.int IntKind.i64 slot] 0 1)))) ∧
   (pr53 (decPReplica (encPReplica 1 r)) (decL decMsg (encL (encMsg 1) 1 l)) kind
   (decPInt (V.ptr [V.int IntKind.i64 slot] 0 1)))))) ∧
   (VLe
   (V.bool
   (sentAt (decL decMsg (encL (encMsg 1) 1 l)) (decPReplica (encPReplica 1 r)) kind
   (decPInt (V.ptr [V.int IntKind.i64 slot] 0 1))))
   (V.bool (sentAt l r kind slot)))) := by
    simp only [decL_Msg, dec_encPReplica, decPInt_ptr]
    exact ⟨⟨VLe.refl _, VLe.refl _, VLe.refl _, hpre⟩, VLe.refl _⟩
  exact Eq.mp (by kernel_rfl) key
theorem so29 : Sound Tryz.prog 29 sp29 := by
  refine sound_of_body hmix (pol := 0) Tryz.func29 rfl (by kernel_rfl) fun args bin ob r bout hDe hob => ?_
  unfold sp29 at hDe
  split at hDe
  · rename_i a0 a1 a2 a3
    cases hDe
    exact ⟨rfl, rfl, Nat.le_of_ble_eq_true (by kernel_rfl), cx29 (decPReplica a0) ((decL decMsg) a1) a2 a3, Eq.mp (by kernel_rfl) htt, Eq.mp (by kernel_rfl) da29, Eq.mp (by kernel_rfl) (noM_sound (P := Tryz.prog)), by kernel_rfl, [encPReplica 1 ((decPReplica a0)), encL (encMsg 1) 1 (((decL decMsg) a1)), .int .i64 (a2), .int .i64 (a3)], args_of_vles (⟨hob.1, hob.2.1, VLe.refl _, VLe.refl _, trivial⟩), Eq.mp (by kernel_rfl) (bd29 (decPReplica a0) ((decL decMsg) a1) a2 a3 (hob.2.2))⟩
  · cases hDe

noncomputable def isSent2 (r : Replica) (kind slot value : Int) (m : Msg) : Bool := decide (m.kind = kind ∧ m.sender = r.id ∧ m.view = r.view ∧ (slot = 0 ∨ m.slot = slot) ∧ (value < 0 ∨ m.value = value))
noncomputable def sentB (l : List Msg) (r : Replica) (kind slot value : Int) : Bool := l.any (isSent2 r kind slot value)

/-! ### spec.l11Sent -/
def pr22 (l : List Msg) (r : Replica) (kind : Int) (slot : Int) (value : Int) : Prop := l.length ≤ maxLen
noncomputable def rs22 (l : List Msg) (r : Replica) (kind : Int) (slot : Int) (value : Int) : V := .bool (sentB l r kind slot value)
noncomputable def sp22 : FSpec := fun args bin => match args, bin with
  | [a0, a1, .int .i64 a2, .int .i64 a3, .int .i64 a4], [] => some (VLe a0 (encL (encMsg 1) 1 (((decL decMsg) a0))) ∧ VLe a1 (encPReplica 1 ((decPReplica a1))) ∧ pr22 ((decL decMsg) a0) (decPReplica a1) a2 a3 a4, rs22 ((decL decMsg) a0) (decPReplica a1) a2 a3 a4, [])
  | _, _ => none
noncomputable def in22_2 (l : List Msg) (r : Replica) (kind : Int) (slot : Int) (value : Int) : LoopInv :=
  ⟨Nat, fun i => ⟨[(0, encL (encMsg 1) 1 l), (1, encPReplica 1 r), (2, .int .i64 kind), (3, .int .i64 slot), (4, .int .i64 value), (11, .int .i64 i)], []⟩,
    fun i => i ≤ l.length ∧ ∀ j, j < i → isSent2 r kind slot value (l.getD j default) = false, fun i => l.length - i⟩
noncomputable def iv22 (l : List Msg) (r : Replica) (kind : Int) (slot : Int) (value : Int) : Nat → Option LoopInv := fun rg_ => match rg_ with
  | 2 => some (in22_2 l r kind slot value)
  | _ => none
noncomputable def D22 : Nat → Option (Bool × FSpec) := lk []
theorem da22 : SoundAll Tryz.prog D22 := soundAll_nil
noncomputable def cx22 (l : List Msg) (r : Replica) (kind : Int) (slot : Int) (value : Int) : Cx := ⟨tt, D22, Tryz.f22.ntmps, [0, 1, 2, 3, 4, 10, 11, 12, 16, 73], [(2, ⟨[(0, none), (1, none), (2, none), (3, none), (4, none), (11, none)], []⟩)], [], iv22 l r kind slot value, [], noM, []⟩
theorem bd22 (l : List Msg) (r : Replica) (kind : Int) (slot : Int) (value : Int) (hpre : pr22 l r kind slot value) : bodyP (cx22 l r kind slot value) Tryz.f22 0 [encL (encMsg 1) 1 (l), encPReplica 1 (r), .int .i64 (kind), .int .i64 (slot), .int .i64 (value)] (fun rr => VLe rr (rs22 l r kind slot value)) := by
  have key :
      ((∃ x : Nat, ((SLe
   (AS.mk
   [(0, encL (encMsg 1) 1 l), (1, encPReplica 1 r),
   (2, V.int IntKind.i64 kind), (3, V.int IntKind.i64 slot), (4, V.int IntKind.i64 value),
   (11, V.int IntKind.i64 (0 : Int))]
   [])
   (AS.mk
   [(0, encL (encMsg 1) 1 l), (1, encPReplica 1 r),
   (2, V.int IntKind.i64 kind), (3, V.int IntKind.i64 slot), (4, V.int IntKind.i64 value),
   (11, V.int IntKind.i64 (↑x : Int))]
   [])) ∧
   ((x ≤ List.length l) ∧
   (∀ j : Nat,
   ((j < x) →
   (isSent2 r kind slot value (List.getD l j default) = false)))))) ∧
   (∀ x : Nat,
   (((x ≤ List.length l) ∧
   (∀ j : Nat,
   ((j < x) →
   (isSent2 r kind slot value (List.getD l j default) = false)))) →
   (((decide ((↑x : Int) < (↑(List.length l) : Int)) = true) →
   ((((0 : Int) ≤ (↑x : Int)) ∧
   ((↑x : Int) < (↑(List.length l) : Int))) ∧
   ((tq (Msg.kind (List.getD l (Int.toNat (↑x : Int)) default) == kind)) ∧
   ((tq (Msg.kind (List.getD l (Int.toNat (↑x : Int)) default) == kind)) ∧
   ((tq (Msg.kind (List.getD l (Int.toNat (↑x : Int)) default) == kind)) ∧
   ((tq (Msg.kind (List.getD l (Int.toNat (↑x : Int)) default) == kind)) ∧
   ((tq (Msg.kind (List.getD l (Int.toNat (↑x : Int)) default) == kind)) ∧
   ((tq (Msg.kind (List.getD l (Int.toNat (↑x : Int)) default) == kind)) ∧
   ((tq (Msg.kind (List.getD l (Int.toNat (↑x : Int)) default) == kind)) ∧
   ((tq (Msg.kind (List.getD l (Int.toNat (↑x : Int)) default) == kind)) ∧
   (((true = true) →
   (((Msg.kind (List.getD l (Int.toNat (↑x : Int)) default) == kind) = true) →
   ((Msg.kind (List.getD l (Int.toNat (↑x : Int)) default) == kind) = true))) ∧
   (∀ b : Bool,
   ((b =
   bif Msg.kind (List.getD l (Int.toNat (↑x : Int)) default) == kind then
   Msg.sender (List.getD l (Int.toNat (↑x : Int)) default) == Replica.id r
   else false) →
   ((tq (b)) ∧
   ((tq (b)) ∧
   ((tq (b)) ∧
   ((tq (b)) ∧
   ((tq (b)) ∧
   ((tq (b)) ∧
   ((tq (b)) ∧
   ((tq (b)) ∧
   (((true = true) →
   ((b = true) →
   (b = true))) ∧
   (∀ b_1 : Bool,
   ((b_1 = bif b then Msg.view (List.getD l (Int.toNat (↑x : Int)) default) == Replica.view r else false) →
   ((tq (b_1)) ∧
   ((tq (b_1)) ∧
   ((tq (b_1 && !slot == (0 : Int))) ∧
   ((tq (b_1 && !slot == (0 : Int))) ∧
   ((tq (b_1 && !slot == (0 : Int))) ∧
   ((tq (b_1 && !slot == (0 : Int))) ∧
   ((tq (b_1 && !slot == (0 : Int))) ∧
   ((tq (b_1)) ∧
   (((b_1 = true) →
   ((b_1 = true) →
   (((slot == (0 : Int)) = false) →
   ((b_1 && !slot == (0 : Int)) = true)))) ∧
   (∀ b_2 : Bool,
   ((b_2 = bif slot == (0 : Int) then true else Msg.slot (List.getD l (Int.toNat (↑x : Int)) default) == slot) →
   (((true = true) →
   ((b_1 = true) →
   (b_1 = true))) ∧
   (∀ b_3 : Bool,
   ((b_3 = bif b_1 then b_2 else false) →
   ((tq (b_3)) ∧
   ((tq (b_3)) ∧
   ((tq (b_3 && !decide (value < (0 : Int)))) ∧
   ((tq (b_3 && !decide (value < (0 : Int)))) ∧
   ((tq (b_3 && !decide (value < (0 : Int)))) ∧
   ((tq (b_3 && !decide (value < (0 : Int)))) ∧
   ((tq (b_3 && !decide (value < (0 : Int)))) ∧
   ((tq (b_3)) ∧
   (((b_3 = true) →
   ((b_3 = true) →
   ((decide (value < (0 : Int)) = false) →
   ((b_3 && !decide (value < (0 : Int))) = true)))) ∧
   (∀ b_4 : Bool,
   ((b_4 = bif decide (value < (0 : Int)) then true else Msg.value (List.getD l (Int.toNat (↑x : Int)) default) == value) →
   (((true = true) →
   ((b_3 = true) →
   (b_3 = true))) ∧
   (∀ b_5 : Bool,
   ((b_5 = bif b_3 then b_4 else false) →
   (((b_5 = true) →
   (VLe (V.bool true) (V.bool (sentB l r kind slot value)))) ∧
   ((b_5 = false) →
   ((inK IntKind.i64 ((↑x : Int) + (1 : Int))) ∧
   (∃ y : Nat, ((SLe
   (AS.mk
   [(0, encL (encMsg 1) 1 l), (1, encPReplica 1 r),
   (2, V.int IntKind.i64 kind), (3, V.int IntKind.i64 slot), (4, V.int IntKind.i64 value),
   (11, V.int IntKind.i64 ((↑x : Int) + (1 : Int)))]
   [])
   (AS.mk
   [(0, encL (encMsg 1) 1 l), (1, encPReplica 1 r),
   (2, V.int IntKind.i64 kind), (3, V.int IntKind.i64 slot), (4, V.int IntKind.i64 value),
   (11, V.int IntKind.i64 (↑y : Int))]
   [])) ∧
   (((y ≤ List.length l) ∧
   (∀ j : Nat,
   ((j < y) →
   (isSent2 r kind slot value (List.getD l j default) = false)))) ∧
   (List.length l - y < List.length l - x))))))))))))))))))))))))))))))))))))))))))))))))))))))))))) ∧
   ((decide ((↑x : Int) < (↑(List.length l) : Int)) = false) →
   (VLe (V.bool false) (V.bool (sentB l r kind slot value)))))))) := by
    unfold pr22 maxLen at hpre
    simp only [decL_Msg, dec_encPReplica]
    refine ⟨⟨0, SLe.refl _, by omega, fun j hj => absurd hj (Nat.not_lt_zero j)⟩, ?_⟩
    rintro i ⟨hi, hj⟩
    refine ⟨fun h => ?_, fun h => ?_⟩
    · have hlt : i < l.length := by simpa using h
      simp only [Int.toNat_natCast]
      refine ⟨by omega, ?_⟩
      repeat (first | (refine And.intro (fun h _ => h) ?_) | (refine And.intro (fun _ h => h) ?_) | (refine And.intro ?aa ?_; case aa => (exact trivial)) | (refine And.intro ?aa ?_; case aa => (intros; simp_all []; done)) | (refine And.intro ?aa ?_; case aa => (intros; exact inK64 (by omega))) | (refine And.intro ?aa ?_; case aa => (intros; simp only [decide_eq_true_eq] at *; omega)) | (intro q hq))
      have e0 : q = isSent2 r kind slot value (l.getD i default) := by
        subst_vars
        unfold isSent2
        rw [Bool.eq_iff_iff, decide_eq_true_eq]
        by_cases a1 : (l.getD i default).kind = kind <;> by_cases a2 : (l.getD i default).sender = r.id <;> by_cases a3 : (l.getD i default).view = r.view <;> by_cases a4 : slot = 0 <;> by_cases a5 : value < 0 <;> simp_all
      clear hq
      refine ⟨fun h2 => vle_bool ?_, fun h2 => ⟨inK64 (by omega), i + 1, SLe.refl _, ⟨by omega, fun j h3 => ?_⟩, by omega⟩⟩
      · rw [e0] at h2
        symm
        exact List.any_eq_true.2 ⟨l.getD i default, by simp [hlt], h2⟩
      · rcases Nat.lt_or_ge j i with h4 | h4
        · exact hj j h4
        · have : j = i := by omega
          subst this
          rw [← e0]; exact h2
    · have hge : i = l.length := by simp at h; omega
      refine vle_bool ?_
      symm
      refine List.any_eq_false.2 fun m hm => ?_
      obtain ⟨j, hj2, rfl⟩ := List.getElem_of_mem hm
      have := hj j (by omega)
      simpa [hj2] using this
  exact Eq.mp (by kernel_rfl) key
theorem so22 : Sound Tryz.prog 22 sp22 := by
  refine sound_of_body hmix (pol := 0) Tryz.func22 rfl (by kernel_rfl) fun args bin ob r bout hDe hob => ?_
  unfold sp22 at hDe
  split at hDe
  · rename_i a0 a1 a2 a3 a4
    cases hDe
    exact ⟨rfl, rfl, Nat.le_of_ble_eq_true (by kernel_rfl), cx22 ((decL decMsg) a0) (decPReplica a1) a2 a3 a4, Eq.mp (by kernel_rfl) htt, Eq.mp (by kernel_rfl) da22, Eq.mp (by kernel_rfl) (noM_sound (P := Tryz.prog)), by kernel_rfl, [encL (encMsg 1) 1 (((decL decMsg) a0)), encPReplica 1 ((decPReplica a1)), .int .i64 (a2), .int .i64 (a3), .int .i64 (a4)], args_of_vles (⟨hob.1, hob.2.1, VLe.refl _, VLe.refl _, VLe.refl _, trivial⟩), Eq.mp (by kernel_rfl) (bd22 ((decL decMsg) a0) (decPReplica a1) a2 a3 a4 (hob.2.2))⟩
  · cases hDe

end Go.Av
