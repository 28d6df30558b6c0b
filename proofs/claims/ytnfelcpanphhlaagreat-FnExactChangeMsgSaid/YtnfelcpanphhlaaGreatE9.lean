/- Changes of view that are right. -/
import Derived.Test.YtnfelcpanphhlaaGreatP10
namespace Go.Av
open Go.Proofs
set_option maxRecDepth 100000
set_option linter.unusedVariables false
set_option linter.unusedSimpArgs false

theorem decPL_Msg (l : List Msg) : decPL decMsg (V.ptr [encL (encMsg 1) 1 l] 0 1) = l := decL_Msg 1 l
theorem bdL_mem {l : List Msg} (h : bdL l) {m : Msg} (hm : m ∈ l) : m.bd := h.2 m hm


/-! ### impl.changeRight$1 -/
def pr101 (c : Cert) (f : Int) (l : List Msg) : Prop := okF f ∧ l.length ≤ 240 ∧ bdL l
noncomputable def rs101 (c : Cert) (f : Int) (l : List Msg) : V := .bool (decide (¬ certOk f l c))
noncomputable def sp101 : FSpec := fun args bin => match args, bin with
  | [a0, a1, a2], [] => some (VLe a0 (encCert 1 ((decCert a0))) ∧ VLe a1 (encPInt 1 ((decPInt a1))) ∧ VLe a2 (encPL (encMsg 1) 1 (((decPL decMsg) a2))) ∧ pr101 (decCert a0) (decPInt a1) ((decPL decMsg) a2), rs101 (decCert a0) (decPInt a1) ((decPL decMsg) a2), [])
  | _, _ => none
noncomputable def D101 : Nat → Option (Bool × FSpec) := lk [(102, (false, sp102))]
theorem da101 : SoundAll Tryz.prog D101 := soundAll_cons so102 (soundAll_nil)
noncomputable def cx101 (c : Cert) (f : Int) (l : List Msg) : Cx := ⟨tt, D101, Tryz.f101.ntmps, [0, 1, 2, 3, 4], [], [], fun _ => none, [], noM, []⟩
theorem bd101 (c : Cert) (f : Int) (l : List Msg) (hpre : pr101 c f l) : bodyP (cx101 c f l) Tryz.f101 0 [encCert 1 (c), encPInt 1 (f), encPL (encMsg 1) 1 (l)] (fun rr => VLe rr (rs101 c f l)) := by
  have key :
      (((VLe (encL (encMsg 1) 1 l)
   (encL (encMsg 1) 1 (decL decMsg (encL (encMsg 1) 1 l)))) ∧
   ((VLe (encCert 1 c) (encCert 1 (decCert (encCert 1 c)))) ∧
   (pr102 f (decL decMsg (encL (encMsg 1) 1 l)) (decCert (encCert 1 c))))) ∧
   (VLe (V.bool !decide (certOk f (decL decMsg (encL (encMsg 1) 1 l)) (decCert (encCert 1 c))))
   (V.bool (decide ¬certOk f l c)))) := by
    simp only [decPL_Msg, decPInt_ptr, dec_encCert, decL_Msg]
    refine ⟨⟨VLe.refl _, VLe.refl _, hpre⟩, ?_⟩
    exact vle_bool (by simp)
  exact Eq.mp (by kernel_rfl) key
theorem so101 : Sound Tryz.prog 101 sp101 := by
  refine sound_of_body hmix (pol := 0) Tryz.func101 rfl (by kernel_rfl) fun args bin ob r bout hDe hob => ?_
  unfold sp101 at hDe
  split at hDe
  · rename_i a0 a1 a2
    cases hDe
    exact ⟨rfl, rfl, Nat.le_of_ble_eq_true (by kernel_rfl), cx101 (decCert a0) (decPInt a1) ((decPL decMsg) a2), Eq.mp (by kernel_rfl) htt, Eq.mp (by kernel_rfl) da101, Eq.mp (by kernel_rfl) (noM_sound (P := Tryz.prog)), by kernel_rfl, [encCert 1 ((decCert a0)), encPInt 1 ((decPInt a1)), encPL (encMsg 1) 1 (((decPL decMsg) a2))], args_of_vles (⟨hob.1, hob.2.1, hob.2.2.1, trivial⟩), Eq.mp (by kernel_rfl) (bd101 (decCert a0) (decPInt a1) ((decPL decMsg) a2) (hob.2.2.2))⟩
  · cases hDe

/-! ### slices.IndexFunc(()loop.example/g00369/impl.Cert,loop.example/g00369/impl.Cert)@impl.changeRight$1 -/
def pr138_101 (xs : List Cert) (f : Int) (l : List Msg) : Prop := xs.length ≤ maxLen ∧ (okF f ∧ l.length ≤ 240 ∧ bdL l)
noncomputable def rs138_101 (xs : List Cert) (f : Int) (l : List Msg) : V := .int .i64 (idxF (fun c => decide (¬ certOk f l c)) xs)
noncomputable def sp138_101 : FSpec := fun args bin => match args, bin with
  | [a0, .fn 101 [a1, a2]], [] => some (VLe a0 (encL (encCert 1) 1 (((decL decCert) a0))) ∧ VLe a1 (encPInt 1 ((decPInt a1))) ∧ VLe a2 (encPL (encMsg 1) 1 (((decPL decMsg) a2))) ∧ pr138_101 ((decL decCert) a0) (decPInt a1) ((decPL decMsg) a2), rs138_101 ((decL decCert) a0) (decPInt a1) ((decPL decMsg) a2), [])
  | _, _ => none
noncomputable def in138_101_2 (xs : List Cert) (f : Int) (l : List Msg) : LoopInv :=
  ⟨Nat, fun i => ⟨[(0, encL (encCert 1) 1 xs), (1, .fn 101 [encPInt 1 (f), encPL (encMsg 1) 1 (l)]), (7, .int .i64 xs.length), (8, .int .i64 i)], []⟩,
    fun i => i ≤ xs.length ∧ ∀ j, j < i → (fun c => decide (¬ certOk f l c)) (xs.getD j default) = false, fun i => xs.length - i⟩
noncomputable def iv138_101 (xs : List Cert) (f : Int) (l : List Msg) : Nat → Option LoopInv := fun rg_ => match rg_ with
  | 2 => some (in138_101_2 xs f l)
  | _ => none
noncomputable def D138_101 : Nat → Option (Bool × FSpec) := lk [(101, (false, sp101))]
theorem da138_101 : SoundAll Tryz.prog D138_101 := soundAll_cons so101 (soundAll_nil)
noncomputable def cx138_101 (xs : List Cert) (f : Int) (l : List Msg) : Cx := ⟨tt, D138_101, Tryz.f138.ntmps, [0, 1, 4, 5, 7, 8, 9, 16], [(2, ⟨[(0, none), (1, none), (7, none), (8, none)], []⟩)], [], iv138_101 xs f l, [], noM, []⟩
theorem bd138_101 (xs : List Cert) (f : Int) (l : List Msg) (hpre : pr138_101 xs f l) : bodyP (cx138_101 xs f l) Tryz.f138 0 [encL (encCert 1) 1 (xs), .fn 101 [encPInt 1 (f), encPL (encMsg 1) 1 (l)]] (fun rr => VLe rr (rs138_101 xs f l)) := by
  have key :
      ((∃ x : Nat, ((SLe
   (AS.mk
   [(0, encL (encCert 1) 1 xs),
   (1, V.fn (101 : FuncId) [encPInt 1 f, encPL (encMsg 1) 1 l]),
   (7, V.int IntKind.i64 (↑(List.length xs) : Int)), (8, V.int IntKind.i64 (0 : Int))]
   [])
   (AS.mk
   [(0, encL (encCert 1) 1 xs),
   (1, V.fn (101 : FuncId) [encPInt 1 f, encPL (encMsg 1) 1 l]),
   (7, V.int IntKind.i64 (↑(List.length xs) : Int)), (8, V.int IntKind.i64 (↑x : Int))]
   [])) ∧
   ((x ≤ List.length xs) ∧
   (∀ j : Nat,
   ((j < x) →
   ((decide ¬certOk f l (List.getD xs j default)) = false)))))) ∧
   (∀ x : Nat,
   (((x ≤ List.length xs) ∧
   (∀ j : Nat,
   ((j < x) →
   ((decide ¬certOk f l (List.getD xs j default)) = false)))) →
   (((decide ((↑x : Int) < (↑(List.length xs) : Int)) = true) →
   ((((0 : Int) ≤ (↑x : Int)) ∧
   ((↑x : Int) < (↑(List.length xs) : Int))) ∧
   (((VLe (encCert 1 (List.getD xs (Int.toNat (↑x : Int)) default))
   (encCert 1 (decCert (encCert 1 (List.getD xs (Int.toNat (↑x : Int)) default))))) ∧
   ((VLe (V.ptr [V.int IntKind.i64 f] 0 1)
   (encPInt 1 (decPInt (V.ptr [V.int IntKind.i64 f] 0 1)))) ∧
   ((VLe (V.ptr [encL (encMsg 1) 1 l] 0 1)
   (encPL (encMsg 1) 1 (decPL decMsg (V.ptr [encL (encMsg 1) 1 l] 0 1)))) ∧
   (pr101 (decCert (encCert 1 (List.getD xs (Int.toNat (↑x : Int)) default)))
   (decPInt (V.ptr [V.int IntKind.i64 f] 0 1))
   (decPL decMsg (V.ptr [encL (encMsg 1) 1 l] 0 1)))))) ∧
   ((((decide
   ¬certOk (decPInt (V.ptr [V.int IntKind.i64 f] 0 1))
   (decPL decMsg (V.ptr [encL (encMsg 1) 1 l] 0 1))
   (decCert (encCert 1 (List.getD xs (Int.toNat (↑x : Int)) default)))) =
   true) →
   (VLe (V.int IntKind.i64 (↑x : Int)) (V.int IntKind.i64 (idxF (fun (c : Cert) ↦ decide ¬certOk f l c) xs)))) ∧
   (((decide
   ¬certOk (decPInt (V.ptr [V.int IntKind.i64 f] 0 1))
   (decPL decMsg (V.ptr [encL (encMsg 1) 1 l] 0 1))
   (decCert (encCert 1 (List.getD xs (Int.toNat (↑x : Int)) default)))) =
   false) →
   ((inK IntKind.i64 ((↑x : Int) + (1 : Int))) ∧
   (∃ y : Nat, ((SLe
   (AS.mk
   [(0, encL (encCert 1) 1 xs),
   (1, V.fn (101 : FuncId) [encPInt 1 f, encPL (encMsg 1) 1 l]),
   (7, V.int IntKind.i64 (↑(List.length xs) : Int)), (8, V.int IntKind.i64 ((↑x : Int) + (1 : Int)))]
   [])
   (AS.mk
   [(0, encL (encCert 1) 1 xs),
   (1, V.fn (101 : FuncId) [encPInt 1 f, encPL (encMsg 1) 1 l]),
   (7, V.int IntKind.i64 (↑(List.length xs) : Int)), (8, V.int IntKind.i64 (↑y : Int))]
   [])) ∧
   (((y ≤ List.length xs) ∧
   (∀ j : Nat,
   ((j < y) →
   ((decide ¬certOk f l (List.getD xs j default)) = false)))) ∧
   (List.length xs - y < List.length xs - x)))))))))) ∧
   ((decide ((↑x : Int) < (↑(List.length xs) : Int)) = false) →
   (VLe (V.int IntKind.i64 (-1 : Int)) (V.int IntKind.i64 (idxF (fun (c : Cert) ↦ decide ¬certOk f l c) xs)))))))) := by
    obtain ⟨hlen, hp⟩ := hpre
    unfold maxLen at hlen
    refine ⟨⟨0, SLe.refl _, by omega, fun j hj => absurd hj (Nat.not_lt_zero j)⟩, ?_⟩
    rintro i ⟨hi, hj⟩
    refine ⟨fun h => ?_, fun h => ?_⟩
    · have hlt : i < xs.length := by simpa using h
      have hin : xs.getD i default ∈ xs := by simp [hlt]
      simp only [Int.toNat_natCast, dec_encCert, dec_encPMsg, dec_encPInt, decL_Msg, decPL_Msg, decPInt_ptr]
      refine ⟨⟨by omega, by omega⟩, ⟨VLe.refl _, VLe.refl _, VLe.refl _, hp⟩, fun h2 => vle_int (idxF_some hlt hj h2).symm, fun h2 => ⟨inK64 (by omega), i + 1, SLe.refl _, ⟨by omega, fun j h3 => ?_⟩, by omega⟩⟩
      rcases Nat.lt_or_ge j i with h4 | h4
      · exact hj j h4
      · have : j = i := by omega
        subst this
        exact h2
    · have hge : i = xs.length := by simp at h; omega
      exact vle_int (idxF_none fun j h3 => hj j (by omega)).symm
  exact Eq.mp (by kernel_rfl) key
theorem so138_101 : Sound Tryz.prog 138 sp138_101 := by
  refine sound_of_body hmix (pol := 0) Tryz.func138 rfl (by kernel_rfl) fun args bin ob r bout hDe hob => ?_
  unfold sp138_101 at hDe
  split at hDe
  · rename_i a0 a1 a2
    cases hDe
    exact ⟨rfl, rfl, Nat.le_of_ble_eq_true (by kernel_rfl), cx138_101 ((decL decCert) a0) (decPInt a1) ((decPL decMsg) a2), Eq.mp (by kernel_rfl) htt, Eq.mp (by kernel_rfl) da138_101, Eq.mp (by kernel_rfl) (noM_sound (P := Tryz.prog)), by kernel_rfl, [encL (encCert 1) 1 (((decL decCert) a0)), .fn 101 [encPInt 1 ((decPInt a1)), encPL (encMsg 1) 1 (((decPL decMsg) a2))]], args_of_vles (⟨hob.1, vle_fn ⟨hob.2.1, hob.2.2.1, trivial⟩, trivial⟩), Eq.mp (by kernel_rfl) (bd138_101 ((decL decCert) a0) (decPInt a1) ((decPL decMsg) a2) (hob.2.2.2))⟩
  · cases hDe

/-! ### slices.ContainsFunc(()loop.example/g00369/impl.Cert,loop.example/g00369/impl.Cert)@impl.changeRight$1 -/
def pr100_101 (xs : List Cert) (f : Int) (l : List Msg) : Prop := xs.length ≤ maxLen ∧ (okF f ∧ l.length ≤ 240 ∧ bdL l)
noncomputable def rs100_101 (xs : List Cert) (f : Int) (l : List Msg) : V := .bool (xs.any (fun c => decide (¬ certOk f l c)))
noncomputable def sp100_101 : FSpec := fun args bin => match args, bin with
  | [a0, .fn 101 [a1, a2]], [] => some (VLe a0 (encL (encCert 1) 1 (((decL decCert) a0))) ∧ VLe a1 (encPInt 1 ((decPInt a1))) ∧ VLe a2 (encPL (encMsg 1) 1 (((decPL decMsg) a2))) ∧ pr100_101 ((decL decCert) a0) (decPInt a1) ((decPL decMsg) a2), rs100_101 ((decL decCert) a0) (decPInt a1) ((decPL decMsg) a2), [])
  | _, _ => none
noncomputable def D100_101 : Nat → Option (Bool × FSpec) := lk [(138, (false, sp138_101))]
theorem da100_101 : SoundAll Tryz.prog D100_101 := soundAll_cons so138_101 (soundAll_nil)
noncomputable def cx100_101 (xs : List Cert) (f : Int) (l : List Msg) : Cx := ⟨tt, D100_101, Tryz.f100.ntmps, [0, 1, 4], [], [], fun _ => none, [], noM, []⟩
theorem bd100_101 (xs : List Cert) (f : Int) (l : List Msg) (hpre : pr100_101 xs f l) : bodyP (cx100_101 xs f l) Tryz.f100 0 [encL (encCert 1) 1 (xs), .fn 101 [encPInt 1 (f), encPL (encMsg 1) 1 (l)]] (fun rr => VLe rr (rs100_101 xs f l)) := by
  have key :
      (((VLe (encL (encCert 1) 1 xs)
   (encL (encCert 1) 1 (decL decCert (encL (encCert 1) 1 xs)))) ∧
   ((VLe (V.ptr [V.int IntKind.i64 f] 0 1)
   (encPInt 1 (decPInt (V.ptr [V.int IntKind.i64 f] 0 1)))) ∧
   ((VLe (V.ptr [encL (encMsg 1) 1 l] 0 1)
   (encPL (encMsg 1) 1 (decPL decMsg (V.ptr [encL (encMsg 1) 1 l] 0 1)))) ∧
   (pr138_101 (decL decCert (encL (encCert 1) 1 xs))
   (decPInt (V.ptr [V.int IntKind.i64 f] 0 1))
   (decPL decMsg (V.ptr [encL (encMsg 1) 1 l] 0 1)))))) ∧
   (VLe
   (V.bool
   (decide
   (idxF
   (fun (c : Cert) ↦
   decide
   ¬certOk (decPInt (V.ptr [V.int IntKind.i64 f] 0 1))
   (decPL decMsg (V.ptr [encL (encMsg 1) 1 l] 0 1)) c)
   (decL decCert (encL (encCert 1) 1 xs)) ≥
   (0 : Int))))
   (V.bool (List.any xs fun (c : Cert) ↦ decide ¬certOk f l c)))) := by
    simp only [decL_ints, decL_Cert, dec_encPMsg, dec_encMsg, dec_encPInt, decL_Msg, decPL_Msg, decPInt_ptr]
    refine ⟨?_, vle_bool (idxF_nonneg _ _)⟩
    repeat' (first | exact VLe.refl _ | exact hpre | apply And.intro)
  exact Eq.mp (by kernel_rfl) key
theorem so100_101 : Sound Tryz.prog 100 sp100_101 := by
  refine sound_of_body hmix (pol := 0) Tryz.func100 rfl (by kernel_rfl) fun args bin ob r bout hDe hob => ?_
  unfold sp100_101 at hDe
  split at hDe
  · rename_i a0 a1 a2
    cases hDe
    exact ⟨rfl, rfl, Nat.le_of_ble_eq_true (by kernel_rfl), cx100_101 ((decL decCert) a0) (decPInt a1) ((decPL decMsg) a2), Eq.mp (by kernel_rfl) htt, Eq.mp (by kernel_rfl) da100_101, Eq.mp (by kernel_rfl) (noM_sound (P := Tryz.prog)), by kernel_rfl, [encL (encCert 1) 1 (((decL decCert) a0)), .fn 101 [encPInt 1 ((decPInt a1)), encPL (encMsg 1) 1 (((decPL decMsg) a2))]], args_of_vles (⟨hob.1, vle_fn ⟨hob.2.1, hob.2.2.1, trivial⟩, trivial⟩), Eq.mp (by kernel_rfl) (bd100_101 ((decL decCert) a0) (decPInt a1) ((decPL decMsg) a2) (hob.2.2.2))⟩
  · cases hDe

/-! ### spec.l10Is -/
def pr97 (l : List Msg) (at_ : Int) (kind : Int) : Prop := l.length ≤ 240
noncomputable def rs97 (l : List Msg) (at_ : Int) (kind : Int) : V := .bool (decide (isAt l at_ kind))
noncomputable def sp97 : FSpec := fun args bin => match args, bin with
  | [a0, .int .i64 a1, .int .i64 a2], [] => some (VLe a0 (encL (encMsg 1) 1 (((decL decMsg) a0))) ∧ pr97 ((decL decMsg) a0) a1 a2, rs97 ((decL decMsg) a0) a1 a2, [])
  | _, _ => none
noncomputable def D97 : Nat → Option (Bool × FSpec) := lk [(52, (false, sp52))]
theorem da97 : SoundAll Tryz.prog D97 := soundAll_cons so52 (soundAll_nil)
noncomputable def cx97 (l : List Msg) (at_ : Int) (kind : Int) : Cx := ⟨tt, D97, Tryz.f97.ntmps, [0, 1, 2, 6], [], [], fun _ => none, [], noM, []⟩
theorem bd97 (l : List Msg) (at_ : Int) (kind : Int) (hpre : pr97 l at_ kind) : bodyP (cx97 l at_ kind) Tryz.f97 0 [encL (encMsg 1) 1 (l), .int .i64 (at_), .int .i64 (kind)] (fun rr => VLe rr (rs97 l at_ kind)) := by
  have key :
      ((inK IntKind.i64 ((↑(List.length l) : Int) - (1 : Int))) ∧
   ((pr52 at_ (0 : Int) ((↑(List.length l) : Int) - (1 : Int))) ∧
   ((tq (decide (inR at_ (0 : Int) ((↑(List.length l) : Int) - (1 : Int))))) ∧
   ((tq (decide (inR at_ (0 : Int) ((↑(List.length l) : Int) - (1 : Int))))) ∧
   (((decide (inR at_ (0 : Int) ((↑(List.length l) : Int) - (1 : Int))) = true) →
   (((0 : Int) ≤ at_) ∧
   (at_ < (↑(List.length l) : Int)))) ∧
   ((tq (decide (inR at_ (0 : Int) ((↑(List.length l) : Int) - (1 : Int))))) ∧
   ((tq (decide (inR at_ (0 : Int) ((↑(List.length l) : Int) - (1 : Int))))) ∧
   ((tq (decide (inR at_ (0 : Int) ((↑(List.length l) : Int) - (1 : Int))))) ∧
   ((tq (decide (inR at_ (0 : Int) ((↑(List.length l) : Int) - (1 : Int))))) ∧
   (((true = true) →
   ((decide (inR at_ (0 : Int) ((↑(List.length l) : Int) - (1 : Int))) = true) →
   (decide (inR at_ (0 : Int) ((↑(List.length l) : Int) - (1 : Int))) = true))) ∧
   (∀ b : Bool,
   ((b =
   bif decide (inR at_ (0 : Int) ((↑(List.length l) : Int) - (1 : Int))) then
   Msg.kind (List.getD l (Int.toNat at_) default) == kind
   else false) →
   (VLe (V.bool b) (V.bool (decide (isAt l at_ kind)))))))))))))))) := by
    unfold pr97 at hpre
    refine ⟨inK64 (by omega), trivial, ?_⟩
    repeat (first | (refine And.intro ?aa ?_; case aa => (intros; simp_all; done)) | (refine And.intro ?aa ?_; case aa => (intro h; have := of_decide_eq_true h; unfold inR at this; omega)) | (intro q hq))
    subst_vars
    refine vle_bool ?_
    rw [Bool.eq_iff_iff, decide_eq_true_eq]
    unfold isAt inL atM
    by_cases h : inR at_ 0 ((l.length : Int) - 1) <;> simp [h]
  exact Eq.mp (by kernel_rfl) key
theorem so97 : Sound Tryz.prog 97 sp97 := by
  refine sound_of_body hmix (pol := 0) Tryz.func97 rfl (by kernel_rfl) fun args bin ob r bout hDe hob => ?_
  unfold sp97 at hDe
  split at hDe
  · rename_i a0 a1 a2
    cases hDe
    exact ⟨rfl, rfl, Nat.le_of_ble_eq_true (by kernel_rfl), cx97 ((decL decMsg) a0) a1 a2, Eq.mp (by kernel_rfl) htt, Eq.mp (by kernel_rfl) da97, Eq.mp (by kernel_rfl) (noM_sound (P := Tryz.prog)), by kernel_rfl, [encL (encMsg 1) 1 (((decL decMsg) a0)), .int .i64 (a1), .int .i64 (a2)], args_of_vles (⟨hob.1, VLe.refl _, VLe.refl _, trivial⟩), Eq.mp (by kernel_rfl) (bd97 ((decL decMsg) a0) a1 a2 (hob.2))⟩
  · cases hDe

/-! ### impl.of -/
def pr93 (l : List Msg) (at_ : Int) (kind : Int) : Prop := l.length ≤ 240
noncomputable def rs93 (l : List Msg) (at_ : Int) (kind : Int) : V := .tup [encMsg 0 (ofM l at_), .bool (decide (isAt l at_ kind ∧ 0 < (atM l at_).view))]
noncomputable def sp93 : FSpec := fun args bin => match args, bin with
  | [a0, .int .i64 a1, .int .i64 a2], [] => some (VLe a0 (encL (encMsg 1) 1 (((decL decMsg) a0))) ∧ pr93 ((decL decMsg) a0) a1 a2, rs93 ((decL decMsg) a0) a1 a2, [])
  | _, _ => none
noncomputable def D93 : Nat → Option (Bool × FSpec) := lk [(60, (false, sp60))]
theorem da93 : SoundAll Tryz.prog D93 := soundAll_cons so60 (soundAll_nil)
noncomputable def cx93 (l : List Msg) (at_ : Int) (kind : Int) : Cx := ⟨tt, D93, Tryz.f93.ntmps, [0, 1, 2, 6, 7, 8, 14], [], [], fun _ => none, [], noM, []⟩
theorem bd93 (l : List Msg) (at_ : Int) (kind : Int) (hpre : pr93 l at_ kind) : bodyP (cx93 l at_ kind) Tryz.f93 0 [encL (encMsg 1) 1 (l), .int .i64 (at_), .int .i64 (kind)] (fun rr => VLe rr (rs93 l at_ kind)) := by
  have key :
      ((inK IntKind.i64 ((↑(List.length l) : Int) - (1 : Int))) ∧
   ((pr60 at_ (0 : Int) ((↑(List.length l) : Int) - (1 : Int))) ∧
   ((((!decide (inR at_ (0 : Int) ((↑(List.length l) : Int) - (1 : Int)))) = true) →
   (VLe
   (V.tup
   [V.agg
   [V.int IntKind.i64 (0 : Int), V.int IntKind.i64 (0 : Int), V.int IntKind.i64 (0 : Int),
   V.int IntKind.i64 (0 : Int), V.int IntKind.i64 (0 : Int), V.nil, V.nil],
   V.bool false])
   (V.tup [encMsg 0 (ofM l at_), V.bool (decide (isAt l at_ kind ∧ (0 : Int) < Msg.view (atM l at_)))]))) ∧
   (((!decide (inR at_ (0 : Int) ((↑(List.length l) : Int) - (1 : Int)))) = false) →
   ((((0 : Int) ≤ at_) ∧
   (at_ < (↑(List.length l) : Int))) ∧
   ((tq (Msg.kind (List.getD l (Int.toNat at_) default) == kind)) ∧
   ((tq (Msg.kind (List.getD l (Int.toNat at_) default) == kind)) ∧
   (((true = true) →
   (((Msg.kind (List.getD l (Int.toNat at_) default) == kind) = true) →
   ((Msg.kind (List.getD l (Int.toNat at_) default) == kind) = true))) ∧
   (∀ b : Bool,
   ((b =
   bif Msg.kind (List.getD l (Int.toNat at_) default) == kind then
   decide (Msg.view (List.getD l (Int.toNat at_) default) > (0 : Int))
   else false) →
   (VLe (V.tup [encMsg 0 (List.getD l (Int.toNat at_) default), V.bool b])
   (V.tup [encMsg 0 (ofM l at_), V.bool (decide (isAt l at_ kind ∧ (0 : Int) < Msg.view (atM l at_)))])))))))))))) := by
    unfold pr93 at hpre
    refine ⟨inK64 (by omega), trivial, fun h => ?_, fun h => ?_⟩
    · have h1 : ¬ inL l at_ := by simpa [inL] using h
      have h2 : ofM l at_ = default := if_neg h1
      have h3 : ¬ isAt l at_ kind := fun h => h1 h.1
      rw [h2]
      refine vle_tup ⟨vle_agg ⟨VLe.refl _, VLe.refl _, VLe.refl _, VLe.refl _, VLe.refl _, vle_nil _ _, vle_nil _ _, trivial⟩, vle_bool (by simp [h3]), trivial⟩
    · have h1 : inL l at_ := by simpa [inL] using h
      have h2 : ofM l at_ = atM l at_ := if_pos h1
      have h0 := h1
      unfold inL inR at h0
      refine ⟨by omega, ?_⟩
      repeat (first | (refine And.intro ?aa ?_; case aa => (intros; simp_all; done)) | (intro q hq))
      subst_vars
      rw [h2]
      refine vle_tup ⟨VLe.refl _, vle_bool ?_, trivial⟩
      rw [Bool.eq_iff_iff, decide_eq_true_eq]
      unfold isAt
      simp [h1, atM]
  exact Eq.mp (by kernel_rfl) key
theorem so93 : Sound Tryz.prog 93 sp93 := by
  refine sound_of_body hmix (pol := 0) Tryz.func93 rfl (by kernel_rfl) fun args bin ob r bout hDe hob => ?_
  unfold sp93 at hDe
  split at hDe
  · rename_i a0 a1 a2
    cases hDe
    exact ⟨rfl, rfl, Nat.le_of_ble_eq_true (by kernel_rfl), cx93 ((decL decMsg) a0) a1 a2, Eq.mp (by kernel_rfl) htt, Eq.mp (by kernel_rfl) da93, Eq.mp (by kernel_rfl) (noM_sound (P := Tryz.prog)), by kernel_rfl, [encL (encMsg 1) 1 (((decL decMsg) a0)), .int .i64 (a1), .int .i64 (a2)], args_of_vles (⟨hob.1, VLe.refl _, VLe.refl _, trivial⟩), Eq.mp (by kernel_rfl) (bd93 ((decL decMsg) a0) a1 a2 (hob.2))⟩
  · cases hDe

/-! ### impl.changeRight -/
def pr54 (f : Int) (l : List Msg) (at_ : Int) : Prop := Right f l ∧ bdL l
noncomputable def rs54 (f : Int) (l : List Msg) (at_ : Int) : V := .bool (decide (changeOk f l at_))
noncomputable def sp54 : FSpec := fun args bin => match args, bin with
  | [.int .i64 a0, a1, .int .i64 a2], [] => some (VLe a1 (encL (encMsg 1) 1 (((decL decMsg) a1))) ∧ pr54 a0 ((decL decMsg) a1) a2, rs54 a0 ((decL decMsg) a1) a2, [])
  | _, _ => none
noncomputable def D54 : Nat → Option (Bool × FSpec) := lk [(93, (false, sp93)), (100, (false, sp100_101))]
theorem da54 : SoundAll Tryz.prog D54 := soundAll_cons so93 (soundAll_cons so100_101 (soundAll_nil))
noncomputable def cx54 (f : Int) (l : List Msg) (at_ : Int) : Cx := ⟨tt, D54, Tryz.f54.ntmps, [0, 1, 2, 3, 4, 6, 7, 8], [], [], fun _ => none, [], noM, []⟩
theorem bd54 (f : Int) (l : List Msg) (at_ : Int) (hpre : pr54 f l at_) : bodyP (cx54 f l at_) Tryz.f54 0 [.int .i64 (f), encL (encMsg 1) 1 (l), .int .i64 (at_)] (fun rr => VLe rr (rs54 f l at_)) := by
  have key :
      (((VLe (encL (encMsg 1) 1 l)
   (encL (encMsg 1) 1 (decL decMsg (encL (encMsg 1) 1 l)))) ∧
   (pr93 (decL decMsg (encL (encMsg 1) 1 l)) at_ (4 : Int))) ∧
   ((tq (decide
   (isAt (decL decMsg (encL (encMsg 1) 1 l)) at_ (4 : Int) ∧
   (0 : Int) < Msg.view (atM (decL decMsg (encL (encMsg 1) 1 l)) at_)))) ∧
   ((tq (decide
   (isAt (decL decMsg (encL (encMsg 1) 1 l)) at_ (4 : Int) ∧
   (0 : Int) < Msg.view (atM (decL decMsg (encL (encMsg 1) 1 l)) at_)))) ∧
   ((tq (decide
   (isAt (decL decMsg (encL (encMsg 1) 1 l)) at_ (4 : Int) ∧
   (0 : Int) < Msg.view (atM (decL decMsg (encL (encMsg 1) 1 l)) at_)))) ∧
   (((decide
   (isAt (decL decMsg (encL (encMsg 1) 1 l)) at_ (4 : Int) ∧
   (0 : Int) < Msg.view (atM (decL decMsg (encL (encMsg 1) 1 l)) at_)) =
   true) →
   ((VLe (encL (encCert 1) 1 (Msg.certs (ofM (decL decMsg (encL (encMsg 1) 1 l)) at_)))
   (encL (encCert 1) 1
   (decL decCert
   (encL (encCert 1) 1 (Msg.certs (ofM (decL decMsg (encL (encMsg 1) 1 l)) at_)))))) ∧
   ((VLe (V.ptr [V.int IntKind.i64 f] 0 1)
   (encPInt 1 (decPInt (V.ptr [V.int IntKind.i64 f] 0 1)))) ∧
   ((VLe (V.ptr [encL (encMsg 1) 1 l] 0 1)
   (encPL (encMsg 1) 1 (decPL decMsg (V.ptr [encL (encMsg 1) 1 l] 0 1)))) ∧
   (pr100_101
   (decL decCert
   (encL (encCert 1) 1 (Msg.certs (ofM (decL decMsg (encL (encMsg 1) 1 l)) at_))))
   (decPInt (V.ptr [V.int IntKind.i64 f] 0 1))
   (decPL decMsg (V.ptr [encL (encMsg 1) 1 l] 0 1))))))) ∧
   ((tq (decide
   (isAt (decL decMsg (encL (encMsg 1) 1 l)) at_ (4 : Int) ∧
   (0 : Int) < Msg.view (atM (decL decMsg (encL (encMsg 1) 1 l)) at_)))) ∧
   (((true = true) →
   ((decide
   (isAt (decL decMsg (encL (encMsg 1) 1 l)) at_ (4 : Int) ∧
   (0 : Int) < Msg.view (atM (decL decMsg (encL (encMsg 1) 1 l)) at_)) =
   true) →
   (decide
   (isAt (decL decMsg (encL (encMsg 1) 1 l)) at_ (4 : Int) ∧
   (0 : Int) < Msg.view (atM (decL decMsg (encL (encMsg 1) 1 l)) at_)) =
   true))) ∧
   (∀ b : Bool,
   ((b =
   bif
   decide
   (isAt (decL decMsg (encL (encMsg 1) 1 l)) at_ (4 : Int) ∧
   (0 : Int) < Msg.view (atM (decL decMsg (encL (encMsg 1) 1 l)) at_)) then
   !List.any
   (decL decCert
   (encL (encCert 1) 1
   (Msg.certs (ofM (decL decMsg (encL (encMsg 1) 1 l)) at_))))
   fun (c : Cert) ↦
   decide
   ¬certOk (decPInt (V.ptr [V.int IntKind.i64 f] 0 1))
   (decPL decMsg (V.ptr [encL (encMsg 1) 1 l] 0 1)) c
   else false) →
   (VLe (V.bool b) (V.bool (decide (changeOk f l at_))))))))))))) := by
    obtain ⟨hr, hl⟩ := hpre
    simp only [decL_Msg, decL_Cert, decPL_Msg, decPInt_ptr]
    have ha : decide (isAt l at_ 4 ∧ 0 < (atM l at_).view) = true → VLe (encL (encCert 1) 1 (ofM l at_).certs) (encL (encCert 1) 1 (ofM l at_).certs) ∧ VLe (V.ptr [V.int IntKind.i64 f] 0 1) (encPInt 1 f) ∧ VLe (V.ptr [encL (encMsg 1) 1 l] 0 1) (encPL (encMsg 1) 1 l) ∧ pr100_101 (ofM l at_).certs f l := by
      intro h
      have h1 := of_decide_eq_true h
      refine ⟨VLe.refl _, VLe.refl _, VLe.refl _, ?_, hr.okf, hr.len, hl⟩
      have h2 : ofM l at_ = atM l at_ := if_pos h1.1.1
      rw [h2]
      exact (bdL_mem hl (atM_mem h1.1.1)).1
    repeat (first | (refine And.intro (fun h _ => h) ?_) | (refine And.intro (fun _ h => h) ?_) | (refine And.intro ?aa ?_; case aa => (exact ⟨VLe.refl _, hr.len⟩)) | (refine And.intro ?aa ?_; case aa => (exact ha)) | (refine And.intro ?aa ?_; case aa => (intros; simp_all [pr93, pr100_101]; done)) | (refine And.intro ?aa ?_; case aa => (intros; exact inK64 (by omega))) | (refine And.intro ?aa ?_; case aa => (intros; simp only [decide_eq_true_eq] at *; omega)) | (intro q hq))
    subst_vars
    refine vle_bool ?_
    rw [Bool.eq_iff_iff, decide_eq_true_eq]
    unfold changeOk
    by_cases h : isAt l at_ 4 ∧ 0 < (atM l at_).view
    · have h2 : ofM l at_ = atM l at_ := if_pos h.1.1
      rw [h2]
      simp only [h, and_self, decide_true, cond_true, true_and, Bool.not_eq_true', List.any_eq_false, decide_eq_true_eq, Classical.not_not]
      exact ⟨fun g c hc => (certOk_iff hr (atM_mem h.1.1) hc).1 (g c hc), fun g c hc => (certOk_iff hr (atM_mem h.1.1) hc).2 (g c hc)⟩
    · simp only [h, decide_false, cond_false, Bool.false_eq_true, false_iff]
      exact fun g => h ⟨g.1, g.2.1⟩
  exact Eq.mp (by kernel_rfl) key
theorem so54 : Sound Tryz.prog 54 sp54 := by
  refine sound_of_body hmix (pol := 0) Tryz.func54 rfl (by kernel_rfl) fun args bin ob r bout hDe hob => ?_
  unfold sp54 at hDe
  split at hDe
  · rename_i a0 a1 a2
    cases hDe
    exact ⟨rfl, rfl, Nat.le_of_ble_eq_true (by kernel_rfl), cx54 a0 ((decL decMsg) a1) a2, Eq.mp (by kernel_rfl) htt, Eq.mp (by kernel_rfl) da54, Eq.mp (by kernel_rfl) (noM_sound (P := Tryz.prog)), by kernel_rfl, [.int .i64 (a0), encL (encMsg 1) 1 (((decL decMsg) a1)), .int .i64 (a2)], args_of_vles (⟨VLe.refl _, hob.1, VLe.refl _, trivial⟩), Eq.mp (by kernel_rfl) (bd54 a0 ((decL decMsg) a1) a2 (hob.2))⟩
  · cases hDe

/-! ### spec.l10Change -/
def pr98 (f : Int) (l : List Msg) (at_ : Int) : Prop := Right f l ∧ bdL l
noncomputable def rs98 (f : Int) (l : List Msg) (at_ : Int) : V := .bool (decide (changeOk f l at_))
noncomputable def sp98 : FSpec := fun args bin => match args, bin with
  | [.int .i64 a0, a1, .int .i64 a2], [] => some (VLe a1 (encL (encMsg 1) 1 (((decL decMsg) a1))) ∧ pr98 a0 ((decL decMsg) a1) a2, rs98 a0 ((decL decMsg) a1) a2, [])
  | _, _ => none
noncomputable def in98_4 (f : Int) (l : List Msg) (at_ : Int) : LoopInv :=
  ⟨Nat, fun i => ⟨[(0, .int .i64 f), (1, encL (encMsg 1) 1 l), (2, .int .i64 at_), (7, .int .i64 i)], []⟩, fun i => i ≤ (atM l at_).certs.length ∧ isAt l at_ 4 ∧ 0 < (atM l at_).view ∧ ∀ j, j < i → enough f l 2 ((atM l at_).certs.getD j default), fun i => (atM l at_).certs.length - i⟩
noncomputable def iv98 (f : Int) (l : List Msg) (at_ : Int) : Nat → Option LoopInv := fun rg_ => match rg_ with
  | 4 => some (in98_4 f l at_)
  | _ => none
noncomputable def D98 : Nat → Option (Bool × FSpec) := lk [(97, (false, sp97)), (114, (false, sp114))]
theorem da98 : SoundAll Tryz.prog D98 := soundAll_cons so97 (soundAll_cons so114 (soundAll_nil))
noncomputable def cx98 (f : Int) (l : List Msg) (at_ : Int) : Cx := ⟨tt, D98, Tryz.f98.ntmps, [0, 1, 2, 6, 7, 19, 27, 41], [(4, ⟨[(0, none), (1, none), (2, none), (7, none)], []⟩)], [], iv98 f l at_, [], noM, []⟩
theorem bd98 (f : Int) (l : List Msg) (at_ : Int) (hpre : pr98 f l at_) : bodyP (cx98 f l at_) Tryz.f98 0 [.int .i64 (f), encL (encMsg 1) 1 (l), .int .i64 (at_)] (fun rr => VLe rr (rs98 f l at_)) := by
  have key :
      (((VLe (encL (encMsg 1) 1 l)
   (encL (encMsg 1) 1 (decL decMsg (encL (encMsg 1) 1 l)))) ∧
   (pr97 (decL decMsg (encL (encMsg 1) 1 l)) at_ (4 : Int))) ∧
   ((tq (!!decide (isAt (decL decMsg (encL (encMsg 1) 1 l)) at_ (4 : Int)))) ∧
   ((tq (!!decide (isAt (decL decMsg (encL (encMsg 1) 1 l)) at_ (4 : Int)))) ∧
   ((((!!decide (isAt (decL decMsg (encL (encMsg 1) 1 l)) at_ (4 : Int))) = true) →
   (((0 : Int) ≤ at_) ∧
   (at_ < (↑(List.length l) : Int)))) ∧
   ((tq (!!decide (isAt (decL decMsg (encL (encMsg 1) 1 l)) at_ (4 : Int)))) ∧
   ((tq (!!decide (isAt (decL decMsg (encL (encMsg 1) 1 l)) at_ (4 : Int)))) ∧
   ((tq (!!decide (isAt (decL decMsg (encL (encMsg 1) 1 l)) at_ (4 : Int)))) ∧
   (((true = true) →
   (((!decide (isAt (decL decMsg (encL (encMsg 1) 1 l)) at_ (4 : Int))) = false) →
   ((!!decide (isAt (decL decMsg (encL (encMsg 1) 1 l)) at_ (4 : Int))) = true))) ∧
   (∀ b : Bool,
   ((b =
   bif !decide (isAt (decL decMsg (encL (encMsg 1) 1 l)) at_ (4 : Int)) then true
   else decide (Msg.view (List.getD l (Int.toNat at_) default) < (1 : Int))) →
   (((b = true) →
   (VLe (V.bool false) (V.bool (decide (changeOk f l at_))))) ∧
   ((b = false) →
   ((∃ x : Nat, ((SLe
   (AS.mk
   [(0, V.int IntKind.i64 f), (1, encL (encMsg 1) 1 l),
   (2, V.int IntKind.i64 at_), (7, V.int IntKind.i64 (0 : Int))]
   [])
   (AS.mk
   [(0, V.int IntKind.i64 f), (1, encL (encMsg 1) 1 l),
   (2, V.int IntKind.i64 at_), (7, V.int IntKind.i64 (↑x : Int))]
   [])) ∧
   ((x ≤ List.length (Msg.certs (atM l at_))) ∧
   ((isAt l at_ (4 : Int)) ∧
   (((0 : Int) < Msg.view (atM l at_)) ∧
   (∀ j : Nat,
   ((j < x) →
   (enough f l (2 : Int) (List.getD (Msg.certs (atM l at_)) j default))))))))) ∧
   (∀ x : Nat,
   (((x ≤ List.length (Msg.certs (atM l at_))) ∧
   ((isAt l at_ (4 : Int)) ∧
   (((0 : Int) < Msg.view (atM l at_)) ∧
   (∀ j : Nat,
   ((j < x) →
   (enough f l (2 : Int) (List.getD (Msg.certs (atM l at_)) j default))))))) →
   ((((0 : Int) ≤ at_) ∧
   (at_ < (↑(List.length l) : Int))) ∧
   (((decide ((↑x : Int) < (↑(List.length (Msg.certs (List.getD l (Int.toNat at_) default))) : Int)) = true) →
   ((((0 : Int) ≤ at_) ∧
   (at_ < (↑(List.length l) : Int))) ∧
   ((((0 : Int) ≤ (↑x : Int)) ∧
   ((↑x : Int) < (↑(List.length (Msg.certs (List.getD l (Int.toNat at_) default))) : Int))) ∧
   (((VLe (encL (encMsg 1) 1 l)
   (encL (encMsg 1) 1 (decL decMsg (encL (encMsg 1) 1 l)))) ∧
   ((VLe (encCert 1 (List.getD (Msg.certs (List.getD l (Int.toNat at_) default)) (Int.toNat (↑x : Int)) default))
   (encCert 1
   (decCert
   (encCert 1 (List.getD (Msg.certs (List.getD l (Int.toNat at_) default)) (Int.toNat (↑x : Int)) default))))) ∧
   (pr114 f (decL decMsg (encL (encMsg 1) 1 l)) (2 : Int)
   (decCert
   (encCert 1 (List.getD (Msg.certs (List.getD l (Int.toNat at_) default)) (Int.toNat (↑x : Int)) default)))))) ∧
   ((((!decide
   ((2 : Int) * f + (1 : Int) ≤
   (↑(List.length
   (votesF f (decL decMsg (encL (encMsg 1) 1 l)) (2 : Int)
   (decCert
   (encCert 1
   (List.getD (Msg.certs (List.getD l (Int.toNat at_) default)) (Int.toNat (↑x : Int)) default))))) :
   Int))) =
   true) →
   (VLe (V.bool false) (V.bool (decide (changeOk f l at_))))) ∧
   (((!decide
   ((2 : Int) * f + (1 : Int) ≤
   (↑(List.length
   (votesF f (decL decMsg (encL (encMsg 1) 1 l)) (2 : Int)
   (decCert
   (encCert 1
   (List.getD (Msg.certs (List.getD l (Int.toNat at_) default)) (Int.toNat (↑x : Int)) default))))) :
   Int))) =
   false) →
   ((inK IntKind.i64 ((↑x : Int) + (1 : Int))) ∧
   (∃ y : Nat, ((SLe
   (AS.mk
   [(0, V.int IntKind.i64 f), (1, encL (encMsg 1) 1 l),
   (2, V.int IntKind.i64 at_), (7, V.int IntKind.i64 ((↑x : Int) + (1 : Int)))]
   [])
   (AS.mk
   [(0, V.int IntKind.i64 f), (1, encL (encMsg 1) 1 l),
   (2, V.int IntKind.i64 at_), (7, V.int IntKind.i64 (↑y : Int))]
   [])) ∧
   (((y ≤ List.length (Msg.certs (atM l at_))) ∧
   ((isAt l at_ (4 : Int)) ∧
   (((0 : Int) < Msg.view (atM l at_)) ∧
   (∀ j : Nat,
   ((j < y) →
   (enough f l (2 : Int) (List.getD (Msg.certs (atM l at_)) j default))))))) ∧
   (List.length (Msg.certs (atM l at_)) - y < List.length (Msg.certs (atM l at_)) - x))))))))))) ∧
   ((decide ((↑x : Int) < (↑(List.length (Msg.certs (List.getD l (Int.toNat at_) default))) : Int)) = false) →
   (VLe (V.bool true) (V.bool (decide (changeOk f l at_)))))))))))))))))))))) := by
    obtain ⟨hr, hl⟩ := hpre
    have h240 := hr.len
    simp only [decL_Msg, dec_encCert, Int.toNat_natCast]
    have hAt : isAt l at_ 4 → 0 ≤ at_ ∧ at_ < (l.length : Int) := fun h => by
      have := h.1
      unfold inL inR at this
      omega
    repeat (first | (refine And.intro (fun h _ => h) ?_) | (refine And.intro (fun _ h => h) ?_) | (refine And.intro ?aa ?_; case aa => (exact ⟨VLe.refl _, hr.len⟩)) | (refine And.intro ?aa ?_; case aa => (exact fun h => hAt (by simpa using h))) | (refine And.intro ?aa ?_; case aa => (intros; simp_all [pr97, pr114]; done)) | (refine And.intro ?aa ?_; case aa => (intros; exact inK64 (by omega))) | (refine And.intro ?aa ?_; case aa => (intros; simp only [decide_eq_true_eq] at *; omega)) | (intro q hq))
    have e0 : q = decide (¬ (isAt l at_ 4 ∧ 0 < (atM l at_).view)) := by
      subst_vars
      rw [Bool.eq_iff_iff]
      by_cases h : isAt l at_ 4
      · simp [h, atM]; omega
      · simp [h]
    clear hq
    refine ⟨fun h => ?_, fun h => ?_⟩
    · rw [e0] at h
      have h1 := of_decide_eq_true h
      refine vle_bool ?_
      have : ¬ changeOk f l at_ := fun g => h1 ⟨g.1, g.2.1⟩
      simp [this]
    · rw [e0] at h
      have h1 : isAt l at_ 4 ∧ 0 < (atM l at_).view := Classical.not_not.1 (of_decide_eq_false h)
      have hb := (bdL_mem hl (atM_mem h1.1.1)).1
      unfold maxLen at hb
      have hlen : (List.getD l at_.toNat default) = atM l at_ := rfl
      simp only [hlen]
      refine ⟨⟨0, SLe.refl _, by omega, h1.1, h1.2, fun j hj => absurd hj (Nat.not_lt_zero j)⟩, ?_⟩
      rintro i ⟨hi, _, _, hj⟩
      refine ⟨hAt h1.1, fun h => ?_, fun h => ?_⟩
      · have hlt : i < (atM l at_).certs.length := by simpa using h
        refine ⟨hAt h1.1, ⟨by omega, by omega⟩, ⟨VLe.refl _, VLe.refl _, hr.okf, hl⟩, fun h2 => ?_, fun h2 => ⟨inK64 (by omega), i + 1, SLe.refl _, ⟨by omega, h1.1, h1.2, fun j h3 => ?_⟩, by omega⟩⟩
        · refine vle_bool ?_
          have h3 : ¬ enough f l 2 ((atM l at_).certs.getD i default) := by simpa [enough] using h2
          have : ¬ changeOk f l at_ := fun g => h3 (g.2.2 _ (by simp [hlt]))
          simp [this]
        · rcases Nat.lt_or_ge j i with h4 | h4
          · exact hj j h4
          · have : j = i := by omega
            subst this
            simpa [enough] using h2
      · refine vle_bool ?_
        have hge : i = (atM l at_).certs.length := by simp at h; omega
        have : changeOk f l at_ := ⟨h1.1, h1.2, fun c hc => by
          obtain ⟨j, hj', rfl⟩ := List.getElem_of_mem hc
          have := hj j (by omega)
          simpa [hj'] using this⟩
        simp [this]
  exact Eq.mp (by kernel_rfl) key
theorem so98 : Sound Tryz.prog 98 sp98 := by
  refine sound_of_body hmix (pol := 0) Tryz.func98 rfl (by kernel_rfl) fun args bin ob r bout hDe hob => ?_
  unfold sp98 at hDe
  split at hDe
  · rename_i a0 a1 a2
    cases hDe
    exact ⟨rfl, rfl, Nat.le_of_ble_eq_true (by kernel_rfl), cx98 a0 ((decL decMsg) a1) a2, Eq.mp (by kernel_rfl) htt, Eq.mp (by kernel_rfl) da98, Eq.mp (by kernel_rfl) (noM_sound (P := Tryz.prog)), by kernel_rfl, [.int .i64 (a0), encL (encMsg 1) 1 (((decL decMsg) a1)), .int .i64 (a2)], args_of_vles (⟨VLe.refl _, hob.1, VLe.refl _, trivial⟩), Eq.mp (by kernel_rfl) (bd98 a0 ((decL decMsg) a1) a2 (hob.2))⟩
  · cases hDe

/-! ### impl.ChangeRight -/
def pr16 (f : Int) (l : List Msg) (at_ : Int) : Prop := bdL l
noncomputable def rs16 (f : Int) (l : List Msg) (at_ : Int) : V := .bool (decide (ledgerFault f l = 0 ∧ changeOk f l at_))
noncomputable def sp16 : FSpec := fun args bin => match args, bin with
  | [.int .i64 a0, a1, .int .i64 a2], [] => some (VLe a1 (encL (encMsg 1) 1 (((decL decMsg) a1))) ∧ pr16 a0 ((decL decMsg) a1) a2, rs16 a0 ((decL decMsg) a1) a2, [])
  | _, _ => none
noncomputable def D16 : Nat → Option (Bool × FSpec) := lk [(46, (false, sp46)), (54, (false, sp54))]
theorem da16 : SoundAll Tryz.prog D16 := soundAll_cons so46 (soundAll_cons so54 (soundAll_nil))
noncomputable def cx16 (f : Int) (l : List Msg) (at_ : Int) : Cx := ⟨tt, D16, Tryz.f16.ntmps, [0, 1, 2, 6], [], [], fun _ => none, [], noM, []⟩
theorem bd16 (f : Int) (l : List Msg) (at_ : Int) (hpre : pr16 f l at_) : bodyP (cx16 f l at_) Tryz.f16 0 [.int .i64 (f), encL (encMsg 1) 1 (l), .int .i64 (at_)] (fun rr => VLe rr (rs16 f l at_)) := by
  have key :
      (((VLe (encL (encMsg 1) 1 l)
   (encL (encMsg 1) 1 (decL decMsg (encL (encMsg 1) 1 l)))) ∧
   (pr46 f (decL decMsg (encL (encMsg 1) 1 l)))) ∧
   ((tq (ledgerFault f (decL decMsg (encL (encMsg 1) 1 l)) == (0 : Int))) ∧
   ((tq (ledgerFault f (decL decMsg (encL (encMsg 1) 1 l)) == (0 : Int))) ∧
   ((tq (ledgerFault f (decL decMsg (encL (encMsg 1) 1 l)) == (0 : Int))) ∧
   ((((ledgerFault f (decL decMsg (encL (encMsg 1) 1 l)) == (0 : Int)) = true) →
   ((VLe (encL (encMsg 1) 1 l)
   (encL (encMsg 1) 1 (decL decMsg (encL (encMsg 1) 1 l)))) ∧
   (pr54 f (decL decMsg (encL (encMsg 1) 1 l)) at_))) ∧
   (((true = true) →
   (((ledgerFault f (decL decMsg (encL (encMsg 1) 1 l)) == (0 : Int)) = true) →
   ((ledgerFault f (decL decMsg (encL (encMsg 1) 1 l)) == (0 : Int)) = true))) ∧
   (∀ b : Bool,
   ((b =
   bif ledgerFault f (decL decMsg (encL (encMsg 1) 1 l)) == (0 : Int) then
   decide (changeOk f (decL decMsg (encL (encMsg 1) 1 l)) at_)
   else false) →
   (VLe (V.bool b) (V.bool (decide (ledgerFault f l = (0 : Int) ∧ changeOk f l at_)))))))))))) := by
    simp only [decL_Msg]
    repeat (first | (refine And.intro ?aa ?_; case aa => (exact ⟨VLe.refl _, hpre⟩)) | (refine And.intro ?aa ?_; case aa => (simp [pr46, pr54]; done)) | (refine And.intro ?aa ?_; case aa => (intro hg; exact ⟨VLe.refl _, right_of (eq_of_beq hg), hpre⟩)) | (intro q hq))
    subst_vars
    refine vle_bool ?_
    rw [Bool.eq_iff_iff]
    simp
  exact Eq.mp (by kernel_rfl) key
theorem so16 : Sound Tryz.prog 16 sp16 := by
  refine sound_of_body hmix (pol := 0) Tryz.func16 rfl (by kernel_rfl) fun args bin ob r bout hDe hob => ?_
  unfold sp16 at hDe
  split at hDe
  · rename_i a0 a1 a2
    cases hDe
    exact ⟨rfl, rfl, Nat.le_of_ble_eq_true (by kernel_rfl), cx16 a0 ((decL decMsg) a1) a2, Eq.mp (by kernel_rfl) htt, Eq.mp (by kernel_rfl) da16, Eq.mp (by kernel_rfl) (noM_sound (P := Tryz.prog)), by kernel_rfl, [.int .i64 (a0), encL (encMsg 1) 1 (((decL decMsg) a1)), .int .i64 (a2)], args_of_vles (⟨VLe.refl _, hob.1, VLe.refl _, trivial⟩), Eq.mp (by kernel_rfl) (bd16 a0 ((decL decMsg) a1) a2 (hob.2))⟩
  · cases hDe

end Go.Av
