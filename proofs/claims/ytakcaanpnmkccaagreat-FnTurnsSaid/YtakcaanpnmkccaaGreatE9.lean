/- Changes of view that are right. -/
import Derived.Test.YtakcaanpnmkccaaGreatP10
namespace Go.Av
open Go.Proofs
set_option maxRecDepth 100000
set_option linter.unusedVariables false
set_option linter.unusedSimpArgs false

theorem decPL_Msg (l : List Msg) : decPL decMsg (V.ptr [encL (encMsg 1) 1 l] 0 1) = l := decL_Msg 1 l
theorem bdL_mem {l : List Msg} (h : bdL l) {m : Msg} (hm : m ∈ l) : m.bd := h.2 m hm


/-! ### impl.changeRight$1 -/
def pr70 (c : Cert) (f : Int) (l : List Msg) : Prop := okF f ∧ l.length ≤ 240 ∧ bdL l
noncomputable def rs70 (c : Cert) (f : Int) (l : List Msg) : V := .bool (decide (¬ certOk f l c))
noncomputable def sp70 : FSpec := fun args bin => match args, bin with
  | [a0, a1, a2], [] => some (VLe a0 (encCert 1 ((decCert a0))) ∧ VLe a1 (encPInt 1 ((decPInt a1))) ∧ VLe a2 (encPL (encMsg 1) 1 (((decPL decMsg) a2))) ∧ pr70 (decCert a0) (decPInt a1) ((decPL decMsg) a2), rs70 (decCert a0) (decPInt a1) ((decPL decMsg) a2), [])
  | _, _ => none
noncomputable def D70 : Nat → Option (Bool × FSpec) := lk [(71, (false, sp71))]
theorem da70 : SoundAll Tryz.prog D70 := soundAll_cons so71 (soundAll_nil)
noncomputable def cx70 (c : Cert) (f : Int) (l : List Msg) : Cx := ⟨tt, D70, Tryz.f70.ntmps, [0, 1, 2, 3, 4], [], [], fun _ => none, [], noM, []⟩
theorem bd70 (c : Cert) (f : Int) (l : List Msg) (hpre : pr70 c f l) : bodyP (cx70 c f l) Tryz.f70 0 [encCert 1 (c), encPInt 1 (f), encPL (encMsg 1) 1 (l)] (fun rr => VLe rr (rs70 c f l)) := by
  have key : (((VLe (encL (encMsg 1) 1 l) (encL (encMsg 1) 1 (decL decMsg (encL (encMsg 1) 1 l)))) ∧ ((VLe (encCert 1 c) (encCert 1 (decCert (encCert 1 c)))) ∧ (pr71 f (decL decMsg (encL (encMsg 1) 1 l)) (decCert (encCert 1 c))))) ∧ (VLe (V.bool !decide (certOk f (decL decMsg (encL (encMsg 1) 1 l)) (decCert (encCert 1 c)))) (V.bool (decide ¬certOk f l c)))) := by
    simp only [decPL_Msg, decPInt_ptr, dec_encCert, decL_Msg]
    refine ⟨⟨VLe.refl _, VLe.refl _, hpre⟩, ?_⟩
    exact vle_bool (by simp)
  exact Eq.mp (by kernel_rfl) key
theorem so70 : Sound Tryz.prog 70 sp70 := by
  refine sound_of_body hmix (pol := 0) Tryz.func70 rfl (by kernel_rfl) fun args bin ob r bout hDe hob => ?_
  unfold sp70 at hDe
  split at hDe
  · rename_i a0 a1 a2
    cases hDe
    exact ⟨rfl, rfl, Nat.le_of_ble_eq_true (by kernel_rfl), cx70 (decCert a0) (decPInt a1) ((decPL decMsg) a2), Eq.mp (by kernel_rfl) htt, Eq.mp (by kernel_rfl) da70, Eq.mp (by kernel_rfl) (noM_sound (P := Tryz.prog)), by kernel_rfl, [encCert 1 ((decCert a0)), encPInt 1 ((decPInt a1)), encPL (encMsg 1) 1 (((decPL decMsg) a2))], args_of_vles (⟨hob.1, hob.2.1, hob.2.2.1, trivial⟩), Eq.mp (by kernel_rfl) (bd70 (decCert a0) (decPInt a1) ((decPL decMsg) a2) (hob.2.2.2))⟩
  · cases hDe

/-! ### slices.IndexFunc(()loop.example/g00369/impl.Cert,loop.example/g00369/impl.Cert)@impl.changeRight$1 -/
def pr93_70 (xs : List Cert) (f : Int) (l : List Msg) : Prop := xs.length ≤ maxLen ∧ (okF f ∧ l.length ≤ 240 ∧ bdL l)
noncomputable def rs93_70 (xs : List Cert) (f : Int) (l : List Msg) : V := .int .i64 (idxF (fun c => decide (¬ certOk f l c)) xs)
noncomputable def sp93_70 : FSpec := fun args bin => match args, bin with
  | [a0, .fn 70 [a1, a2]], [] => some (VLe a0 (encL (encCert 1) 1 (((decL decCert) a0))) ∧ VLe a1 (encPInt 1 ((decPInt a1))) ∧ VLe a2 (encPL (encMsg 1) 1 (((decPL decMsg) a2))) ∧ pr93_70 ((decL decCert) a0) (decPInt a1) ((decPL decMsg) a2), rs93_70 ((decL decCert) a0) (decPInt a1) ((decPL decMsg) a2), [])
  | _, _ => none
noncomputable def in93_70_2 (xs : List Cert) (f : Int) (l : List Msg) : LoopInv :=
  ⟨Nat, fun i => ⟨[(0, encL (encCert 1) 1 xs), (1, .fn 70 [encPInt 1 (f), encPL (encMsg 1) 1 (l)]), (7, .int .i64 xs.length), (8, .int .i64 i)], []⟩,
    fun i => i ≤ xs.length ∧ ∀ j, j < i → (fun c => decide (¬ certOk f l c)) (xs.getD j default) = false, fun i => xs.length - i⟩
noncomputable def iv93_70 (xs : List Cert) (f : Int) (l : List Msg) : Nat → Option LoopInv := fun rg_ => match rg_ with
  | 2 => some (in93_70_2 xs f l)
  | _ => none
noncomputable def D93_70 : Nat → Option (Bool × FSpec) := lk [(70, (false, sp70))]
theorem da93_70 : SoundAll Tryz.prog D93_70 := soundAll_cons so70 (soundAll_nil)
noncomputable def cx93_70 (xs : List Cert) (f : Int) (l : List Msg) : Cx := ⟨tt, D93_70, Tryz.f93.ntmps, [0, 1, 4, 5, 7, 8, 9, 16], [(2, ⟨[(0, none), (1, none), (7, none), (8, none)], []⟩)], [], iv93_70 xs f l, [], noM, []⟩
noncomputable def k93_70_0 (xs : List Cert) (x : Nat) : V := (encCert 1 (List.getD xs (Int.toNat (↑x : Int)) default))
noncomputable def k93_70_1 (f : Int) (l : List Msg) : Nat × V := (1, V.fn (70 : FuncId) [encPInt 1 f, encPL (encMsg 1) 1 l])
theorem bd93_70 (xs : List Cert) (f : Int) (l : List Msg) (hpre : pr93_70 xs f l) : bodyP (cx93_70 xs f l) Tryz.f93 0 [encL (encCert 1) 1 (xs), .fn 70 [encPInt 1 (f), encPL (encMsg 1) 1 (l)]] (fun rr => VLe rr (rs93_70 xs f l)) := by
  have key : ((∃ x : Nat, ((SLe (AS.mk [(0, encL (encCert 1) 1 xs), (k93_70_1 f l), (7, vi (↑(List.length xs) : Int)), (8, vi (0 : Int))] []) (AS.mk [(0, encL (encCert 1) 1 xs), (k93_70_1 f l), (7, vi (↑(List.length xs) : Int)), (8, vi (↑x : Int))] [])) ∧ ((x ≤ List.length xs) ∧ (∀ j : Nat, ((j < x) → ((decide ¬certOk f l (List.getD xs j default)) = false)))))) ∧ (∀ x : Nat, (((x ≤ List.length xs) ∧ (∀ j : Nat, ((j < x) → ((decide ¬certOk f l (List.getD xs j default)) = false)))) → (((decide ((↑x : Int) < (↑(List.length xs) : Int)) = true) → ((((0 : Int) ≤ (↑x : Int)) ∧ ((↑x : Int) < (↑(List.length xs) : Int))) ∧ (((VLe (k93_70_0 xs x) (encCert 1 (decCert (k93_70_0 xs x)))) ∧ ((VLe (V.ptr [vi f] 0 1) (encPInt 1 (decPInt (V.ptr [vi f] 0 1)))) ∧ ((VLe (V.ptr [encL (encMsg 1) 1 l] 0 1) (encPL (encMsg 1) 1 (decPL decMsg (V.ptr [encL (encMsg 1) 1 l] 0 1)))) ∧ (pr70 (decCert (k93_70_0 xs x)) (decPInt (V.ptr [vi f] 0 1)) (decPL decMsg (V.ptr [encL (encMsg 1) 1 l] 0 1)))))) ∧ ((((decide ¬certOk (decPInt (V.ptr [vi f] 0 1)) (decPL decMsg (V.ptr [encL (encMsg 1) 1 l] 0 1)) (decCert (k93_70_0 xs x))) = true) → (VLe (vi (↑x : Int)) (vi (idxF (fun (c : Cert) ↦ decide ¬certOk f l c) xs)))) ∧ (((decide ¬certOk (decPInt (V.ptr [vi f] 0 1)) (decPL decMsg (V.ptr [encL (encMsg 1) 1 l] 0 1)) (decCert (k93_70_0 xs x))) = false) → ((inK IntKind.i64 ((↑x : Int) + (1 : Int))) ∧ (∃ y : Nat, ((SLe (AS.mk [(0, encL (encCert 1) 1 xs), (k93_70_1 f l), (7, vi (↑(List.length xs) : Int)), (8, vi ((↑x : Int) + (1 : Int)))] []) (AS.mk [(0, encL (encCert 1) 1 xs), (k93_70_1 f l), (7, vi (↑(List.length xs) : Int)), (8, vi (↑y : Int))] [])) ∧ (((y ≤ List.length xs) ∧ (∀ j : Nat, ((j < y) → ((decide ¬certOk f l (List.getD xs j default)) = false)))) ∧ (List.length xs - y < List.length xs - x)))))))))) ∧ ((decide ((↑x : Int) < (↑(List.length xs) : Int)) = false) → (VLe (vi (-1 : Int)) (vi (idxF (fun (c : Cert) ↦ decide ¬certOk f l c) xs)))))))) := by
    delta k93_70_1; delta k93_70_0; delta vi
    obtain ⟨hlen, hp⟩ := hpre
    unfold maxLen at hlen
    refine ⟨⟨0, SLe.refl _, by omega, fun j hj => absurd hj (Nat.not_lt_zero j)⟩, ?_⟩
    rintro i ⟨hi, hj⟩
    refine ⟨fun h => ?_, fun h => ?_⟩
    · have hlt : i < xs.length := by simpa using h
      have hin : xs.getD i default ∈ xs := by simp [hlt]
      simp only [Int.toNat_natCast, dec_encCert, dec_encPMsg, dec_encMsg, decL_Msg, dec_encPInt, decPL_Msg, decPInt_ptr]
      refine ⟨⟨by omega, by omega⟩, ⟨VLe.refl _, VLe.refl _, VLe.refl _, hp⟩, fun h2 => vle_int (idxF_some hlt hj h2).symm, fun h2 => ⟨inK64 (by omega), i + 1, SLe.refl _, ⟨by omega, fun j h3 => ?_⟩, by omega⟩⟩
      rcases Nat.lt_or_ge j i with h4 | h4
      · exact hj j h4
      · have : j = i := by omega
        subst this
        exact h2
    · have hge : i = xs.length := by simp at h; omega
      exact vle_int (idxF_none fun j h3 => hj j (by omega)).symm
  exact Eq.mp (by kernel_rfl) key
theorem so93_70 : Sound Tryz.prog 93 sp93_70 := by
  refine sound_of_body hmix (pol := 0) Tryz.func93 rfl (by kernel_rfl) fun args bin ob r bout hDe hob => ?_
  unfold sp93_70 at hDe
  split at hDe
  · rename_i a0 a1 a2
    cases hDe
    exact ⟨rfl, rfl, Nat.le_of_ble_eq_true (by kernel_rfl), cx93_70 ((decL decCert) a0) (decPInt a1) ((decPL decMsg) a2), Eq.mp (by kernel_rfl) htt, Eq.mp (by kernel_rfl) da93_70, Eq.mp (by kernel_rfl) (noM_sound (P := Tryz.prog)), by kernel_rfl, [encL (encCert 1) 1 (((decL decCert) a0)), .fn 70 [encPInt 1 ((decPInt a1)), encPL (encMsg 1) 1 (((decPL decMsg) a2))]], args_of_vles (⟨hob.1, vle_fn ⟨hob.2.1, hob.2.2.1, trivial⟩, trivial⟩), Eq.mp (by kernel_rfl) (bd93_70 ((decL decCert) a0) (decPInt a1) ((decPL decMsg) a2) (hob.2.2.2))⟩
  · cases hDe

/-! ### slices.ContainsFunc(()loop.example/g00369/impl.Cert,loop.example/g00369/impl.Cert)@impl.changeRight$1 -/
def pr69_70 (xs : List Cert) (f : Int) (l : List Msg) : Prop := xs.length ≤ maxLen ∧ (okF f ∧ l.length ≤ 240 ∧ bdL l)
noncomputable def rs69_70 (xs : List Cert) (f : Int) (l : List Msg) : V := .bool (xs.any (fun c => decide (¬ certOk f l c)))
noncomputable def sp69_70 : FSpec := fun args bin => match args, bin with
  | [a0, .fn 70 [a1, a2]], [] => some (VLe a0 (encL (encCert 1) 1 (((decL decCert) a0))) ∧ VLe a1 (encPInt 1 ((decPInt a1))) ∧ VLe a2 (encPL (encMsg 1) 1 (((decPL decMsg) a2))) ∧ pr69_70 ((decL decCert) a0) (decPInt a1) ((decPL decMsg) a2), rs69_70 ((decL decCert) a0) (decPInt a1) ((decPL decMsg) a2), [])
  | _, _ => none
noncomputable def D69_70 : Nat → Option (Bool × FSpec) := lk [(93, (false, sp93_70))]
theorem da69_70 : SoundAll Tryz.prog D69_70 := soundAll_cons so93_70 (soundAll_nil)
noncomputable def cx69_70 (xs : List Cert) (f : Int) (l : List Msg) : Cx := ⟨tt, D69_70, Tryz.f69.ntmps, [0, 1, 4], [], [], fun _ => none, [], noM, []⟩
theorem bd69_70 (xs : List Cert) (f : Int) (l : List Msg) (hpre : pr69_70 xs f l) : bodyP (cx69_70 xs f l) Tryz.f69 0 [encL (encCert 1) 1 (xs), .fn 70 [encPInt 1 (f), encPL (encMsg 1) 1 (l)]] (fun rr => VLe rr (rs69_70 xs f l)) := by
  have key : (((VLe (encL (encCert 1) 1 xs) (encL (encCert 1) 1 (decL decCert (encL (encCert 1) 1 xs)))) ∧ ((VLe (V.ptr [vi f] 0 1) (encPInt 1 (decPInt (V.ptr [vi f] 0 1)))) ∧ ((VLe (V.ptr [encL (encMsg 1) 1 l] 0 1) (encPL (encMsg 1) 1 (decPL decMsg (V.ptr [encL (encMsg 1) 1 l] 0 1)))) ∧ (pr93_70 (decL decCert (encL (encCert 1) 1 xs)) (decPInt (V.ptr [vi f] 0 1)) (decPL decMsg (V.ptr [encL (encMsg 1) 1 l] 0 1)))))) ∧ (VLe (V.bool (decide (idxF (fun (c : Cert) ↦ decide ¬certOk (decPInt (V.ptr [vi f] 0 1)) (decPL decMsg (V.ptr [encL (encMsg 1) 1 l] 0 1)) c) (decL decCert (encL (encCert 1) 1 xs)) ≥ (0 : Int)))) (V.bool (List.any xs fun (c : Cert) ↦ decide ¬certOk f l c)))) := by
    delta vi
    simp only [decL_ints, decL_Cert, dec_encPMsg, dec_encMsg, decL_Msg, dec_encPInt, decPL_Msg, decPInt_ptr]
    refine ⟨?_, vle_bool (idxF_nonneg _ _)⟩
    repeat' (first | exact VLe.refl _ | exact hpre | apply And.intro)
  exact Eq.mp (by kernel_rfl) key
theorem so69_70 : Sound Tryz.prog 69 sp69_70 := by
  refine sound_of_body hmix (pol := 0) Tryz.func69 rfl (by kernel_rfl) fun args bin ob r bout hDe hob => ?_
  unfold sp69_70 at hDe
  split at hDe
  · rename_i a0 a1 a2
    cases hDe
    exact ⟨rfl, rfl, Nat.le_of_ble_eq_true (by kernel_rfl), cx69_70 ((decL decCert) a0) (decPInt a1) ((decPL decMsg) a2), Eq.mp (by kernel_rfl) htt, Eq.mp (by kernel_rfl) da69_70, Eq.mp (by kernel_rfl) (noM_sound (P := Tryz.prog)), by kernel_rfl, [encL (encCert 1) 1 (((decL decCert) a0)), .fn 70 [encPInt 1 ((decPInt a1)), encPL (encMsg 1) 1 (((decPL decMsg) a2))]], args_of_vles (⟨hob.1, vle_fn ⟨hob.2.1, hob.2.2.1, trivial⟩, trivial⟩), Eq.mp (by kernel_rfl) (bd69_70 ((decL decCert) a0) (decPInt a1) ((decPL decMsg) a2) (hob.2.2.2))⟩
  · cases hDe

/-! ### spec.l10Is -/
def pr66 (l : List Msg) (at_ : Int) (kind : Int) : Prop := l.length ≤ 240
noncomputable def rs66 (l : List Msg) (at_ : Int) (kind : Int) : V := .bool (decide (isAt l at_ kind))
noncomputable def sp66 : FSpec := fun args bin => match args, bin with
  | [a0, .int .i64 a1, .int .i64 a2], [] => some (VLe a0 (encL (encMsg 1) 1 (((decL decMsg) a0))) ∧ pr66 ((decL decMsg) a0) a1 a2, rs66 ((decL decMsg) a0) a1 a2, [])
  | _, _ => none
noncomputable def D66 : Nat → Option (Bool × FSpec) := lk [(33, (false, sp33))]
theorem da66 : SoundAll Tryz.prog D66 := soundAll_cons so33 (soundAll_nil)
noncomputable def cx66 (l : List Msg) (at_ : Int) (kind : Int) : Cx := ⟨tt, D66, Tryz.f66.ntmps, [0, 1, 2, 6], [], [], fun _ => none, [], noM, []⟩
noncomputable def k66_0 (l : List Msg) (at_ : Int) : Bool := (decide (inR at_ (0 : Int) ((↑(List.length l) : Int) - (1 : Int))))
theorem bd66 (l : List Msg) (at_ : Int) (kind : Int) (hpre : pr66 l at_ kind) : bodyP (cx66 l at_ kind) Tryz.f66 0 [encL (encMsg 1) 1 (l), .int .i64 (at_), .int .i64 (kind)] (fun rr => VLe rr (rs66 l at_ kind)) := by
  have key : ((inK IntKind.i64 ((↑(List.length l) : Int) - (1 : Int))) ∧ ((pr33 at_ (0 : Int) ((↑(List.length l) : Int) - (1 : Int))) ∧ ((tq (k66_0 l at_)) ∧ ((tq (k66_0 l at_)) ∧ (((decide (inR at_ (0 : Int) ((↑(List.length l) : Int) - (1 : Int))) = true) → (((0 : Int) ≤ at_) ∧ (at_ < (↑(List.length l) : Int)))) ∧ ((tq (k66_0 l at_)) ∧ ((tq (k66_0 l at_)) ∧ ((tq (k66_0 l at_)) ∧ ((tq (k66_0 l at_)) ∧ (((true = true) → ((decide (inR at_ (0 : Int) ((↑(List.length l) : Int) - (1 : Int))) = true) → (decide (inR at_ (0 : Int) ((↑(List.length l) : Int) - (1 : Int))) = true))) ∧ (∀ b : Bool, ((b = bif decide (inR at_ (0 : Int) ((↑(List.length l) : Int) - (1 : Int))) then Msg.kind (List.getD l (Int.toNat at_) default) == kind else false) → (VLe (V.bool b) (V.bool (decide (isAt l at_ kind)))))))))))))))) := by
    delta k66_0
    unfold pr66 at hpre
    refine ⟨inK64 (by omega), trivial, ?_⟩
    repeat (first | (refine And.intro ?aa ?_; case aa => (intros; simp_all; done)) | (refine And.intro ?aa ?_; case aa => (intro h; have := of_decide_eq_true h; unfold inR at this; omega)) | (intro q hq))
    subst_vars
    refine vle_bool ?_
    rw [Bool.eq_iff_iff, decide_eq_true_eq]
    unfold isAt inL atM
    by_cases h : inR at_ 0 ((l.length : Int) - 1) <;> simp [h]
  exact Eq.mp (by kernel_rfl) key
theorem so66 : Sound Tryz.prog 66 sp66 := by
  refine sound_of_body hmix (pol := 0) Tryz.func66 rfl (by kernel_rfl) fun args bin ob r bout hDe hob => ?_
  unfold sp66 at hDe
  split at hDe
  · rename_i a0 a1 a2
    cases hDe
    exact ⟨rfl, rfl, Nat.le_of_ble_eq_true (by kernel_rfl), cx66 ((decL decMsg) a0) a1 a2, Eq.mp (by kernel_rfl) htt, Eq.mp (by kernel_rfl) da66, Eq.mp (by kernel_rfl) (noM_sound (P := Tryz.prog)), by kernel_rfl, [encL (encMsg 1) 1 (((decL decMsg) a0)), .int .i64 (a1), .int .i64 (a2)], args_of_vles (⟨hob.1, VLe.refl _, VLe.refl _, trivial⟩), Eq.mp (by kernel_rfl) (bd66 ((decL decMsg) a0) a1 a2 (hob.2))⟩
  · cases hDe

/-! ### impl.of -/
def pr62 (l : List Msg) (at_ : Int) (kind : Int) : Prop := l.length ≤ 240
noncomputable def rs62 (l : List Msg) (at_ : Int) (kind : Int) : V := .tup [encMsg 0 (ofM l at_), .bool (decide (isAt l at_ kind ∧ 0 < (atM l at_).view))]
noncomputable def sp62 : FSpec := fun args bin => match args, bin with
  | [a0, .int .i64 a1, .int .i64 a2], [] => some (VLe a0 (encL (encMsg 1) 1 (((decL decMsg) a0))) ∧ pr62 ((decL decMsg) a0) a1 a2, rs62 ((decL decMsg) a0) a1 a2, [])
  | _, _ => none
noncomputable def D62 : Nat → Option (Bool × FSpec) := lk [(41, (false, sp41))]
theorem da62 : SoundAll Tryz.prog D62 := soundAll_cons so41 (soundAll_nil)
noncomputable def cx62 (l : List Msg) (at_ : Int) (kind : Int) : Cx := ⟨tt, D62, Tryz.f62.ntmps, [0, 1, 2, 6, 7, 8, 14], [], [], fun _ => none, [], noM, []⟩
theorem bd62 (l : List Msg) (at_ : Int) (kind : Int) (hpre : pr62 l at_ kind) : bodyP (cx62 l at_ kind) Tryz.f62 0 [encL (encMsg 1) 1 (l), .int .i64 (at_), .int .i64 (kind)] (fun rr => VLe rr (rs62 l at_ kind)) := by
  have key : ((inK IntKind.i64 ((↑(List.length l) : Int) - (1 : Int))) ∧ ((pr41 at_ (0 : Int) ((↑(List.length l) : Int) - (1 : Int))) ∧ ((((!decide (inR at_ (0 : Int) ((↑(List.length l) : Int) - (1 : Int)))) = true) → (VLe (V.tup [V.agg [vi (0 : Int), vi (0 : Int), vi (0 : Int), vi (0 : Int), vi (0 : Int), V.nil, V.nil], V.bool false]) (V.tup [encMsg 0 (ofM l at_), V.bool (decide (isAt l at_ kind ∧ (0 : Int) < Msg.view (atM l at_)))]))) ∧ (((!decide (inR at_ (0 : Int) ((↑(List.length l) : Int) - (1 : Int)))) = false) → ((((0 : Int) ≤ at_) ∧ (at_ < (↑(List.length l) : Int))) ∧ ((tq (Msg.kind (List.getD l (Int.toNat at_) default) == kind)) ∧ ((tq (Msg.kind (List.getD l (Int.toNat at_) default) == kind)) ∧ (((true = true) → (((Msg.kind (List.getD l (Int.toNat at_) default) == kind) = true) → ((Msg.kind (List.getD l (Int.toNat at_) default) == kind) = true))) ∧ (∀ b : Bool, ((b = bif Msg.kind (List.getD l (Int.toNat at_) default) == kind then decide (Msg.view (List.getD l (Int.toNat at_) default) > (0 : Int)) else false) → (VLe (V.tup [encMsg 0 (List.getD l (Int.toNat at_) default), V.bool b]) (V.tup [encMsg 0 (ofM l at_), V.bool (decide (isAt l at_ kind ∧ (0 : Int) < Msg.view (atM l at_)))])))))))))))) := by
    delta vi
    unfold pr62 at hpre
    refine ⟨inK64 (by omega), trivial, fun h => ?_, fun h => ?_⟩
    · have h1 : ¬ inL l at_ := by simpa [inL] using h
      have h2 : ofM l at_ = default := if_neg h1
      have h3 : ¬ isAt l at_ kind := fun h => h1 h.1
      rw [h2]
      refine vle_tup ⟨vle_agg ⟨VLe.refl _, VLe.refl _, VLe.refl _, VLe.refl _, VLe.refl _, vle_nil _ _, vle_nil _ _, trivial⟩, vle_bool (by simp [h3]), trivial⟩
    · have h1 : inL l at_ := by simpa [inL] using h
      have h2 : ofM l at_ = atM l at_ := if_pos h1
      have h0 := h1
      unfold inL inR at h0
      refine ⟨by omega, ?_⟩
      repeat (first | (refine And.intro ?aa ?_; case aa => (intros; simp_all; done)) | (intro q hq))
      subst_vars
      rw [h2]
      refine vle_tup ⟨VLe.refl _, vle_bool ?_, trivial⟩
      rw [Bool.eq_iff_iff, decide_eq_true_eq]
      unfold isAt
      simp [h1, atM]
  exact Eq.mp (by kernel_rfl) key
theorem so62 : Sound Tryz.prog 62 sp62 := by
  refine sound_of_body hmix (pol := 0) Tryz.func62 rfl (by kernel_rfl) fun args bin ob r bout hDe hob => ?_
  unfold sp62 at hDe
  split at hDe
  · rename_i a0 a1 a2
    cases hDe
    exact ⟨rfl, rfl, Nat.le_of_ble_eq_true (by kernel_rfl), cx62 ((decL decMsg) a0) a1 a2, Eq.mp (by kernel_rfl) htt, Eq.mp (by kernel_rfl) da62, Eq.mp (by kernel_rfl) (noM_sound (P := Tryz.prog)), by kernel_rfl, [encL (encMsg 1) 1 (((decL decMsg) a0)), .int .i64 (a1), .int .i64 (a2)], args_of_vles (⟨hob.1, VLe.refl _, VLe.refl _, trivial⟩), Eq.mp (by kernel_rfl) (bd62 ((decL decMsg) a0) a1 a2 (hob.2))⟩
  · cases hDe

/-! ### impl.changeRight -/
def pr35 (f : Int) (l : List Msg) (at_ : Int) : Prop := Right f l ∧ bdL l
noncomputable def rs35 (f : Int) (l : List Msg) (at_ : Int) : V := .bool (decide (changeOk f l at_))
noncomputable def sp35 : FSpec := fun args bin => match args, bin with
  | [.int .i64 a0, a1, .int .i64 a2], [] => some (VLe a1 (encL (encMsg 1) 1 (((decL decMsg) a1))) ∧ pr35 a0 ((decL decMsg) a1) a2, rs35 a0 ((decL decMsg) a1) a2, [])
  | _, _ => none
noncomputable def D35 : Nat → Option (Bool × FSpec) := lk [(62, (false, sp62)), (69, (false, sp69_70))]
theorem da35 : SoundAll Tryz.prog D35 := soundAll_cons so62 (soundAll_cons so69_70 (soundAll_nil))
noncomputable def cx35 (f : Int) (l : List Msg) (at_ : Int) : Cx := ⟨tt, D35, Tryz.f35.ntmps, [0, 1, 2, 3, 4, 6, 7, 8], [], [], fun _ => none, [], noM, []⟩
noncomputable def k35_0 (l : List Msg) (at_ : Int) : Bool := (decide (isAt (decL decMsg (encL (encMsg 1) 1 l)) at_ (4 : Int) ∧ (0 : Int) < Msg.view (atM (decL decMsg (encL (encMsg 1) 1 l)) at_)))
noncomputable def k35_1 (l : List Msg) (at_ : Int) : V := (encL (encCert 1) 1 (Msg.certs (ofM (decL decMsg (encL (encMsg 1) 1 l)) at_)))
theorem bd35 (f : Int) (l : List Msg) (at_ : Int) (hpre : pr35 f l at_) : bodyP (cx35 f l at_) Tryz.f35 0 [.int .i64 (f), encL (encMsg 1) 1 (l), .int .i64 (at_)] (fun rr => VLe rr (rs35 f l at_)) := by
  have key : (((VLe (encL (encMsg 1) 1 l) (encL (encMsg 1) 1 (decL decMsg (encL (encMsg 1) 1 l)))) ∧ (pr62 (decL decMsg (encL (encMsg 1) 1 l)) at_ (4 : Int))) ∧ ((tq (k35_0 l at_)) ∧ ((tq (k35_0 l at_)) ∧ ((tq (k35_0 l at_)) ∧ (((decide (isAt (decL decMsg (encL (encMsg 1) 1 l)) at_ (4 : Int) ∧ (0 : Int) < Msg.view (atM (decL decMsg (encL (encMsg 1) 1 l)) at_)) = true) → ((VLe (k35_1 l at_) (encL (encCert 1) 1 (decL decCert (k35_1 l at_)))) ∧ ((VLe (V.ptr [vi f] 0 1) (encPInt 1 (decPInt (V.ptr [vi f] 0 1)))) ∧ ((VLe (V.ptr [encL (encMsg 1) 1 l] 0 1) (encPL (encMsg 1) 1 (decPL decMsg (V.ptr [encL (encMsg 1) 1 l] 0 1)))) ∧ (pr69_70 (decL decCert (k35_1 l at_)) (decPInt (V.ptr [vi f] 0 1)) (decPL decMsg (V.ptr [encL (encMsg 1) 1 l] 0 1))))))) ∧ ((tq (k35_0 l at_)) ∧ (((true = true) → ((decide (isAt (decL decMsg (encL (encMsg 1) 1 l)) at_ (4 : Int) ∧ (0 : Int) < Msg.view (atM (decL decMsg (encL (encMsg 1) 1 l)) at_)) = true) → (decide (isAt (decL decMsg (encL (encMsg 1) 1 l)) at_ (4 : Int) ∧ (0 : Int) < Msg.view (atM (decL decMsg (encL (encMsg 1) 1 l)) at_)) = true))) ∧ (∀ b : Bool, ((b = bif decide (isAt (decL decMsg (encL (encMsg 1) 1 l)) at_ (4 : Int) ∧ (0 : Int) < Msg.view (atM (decL decMsg (encL (encMsg 1) 1 l)) at_)) then !List.any (decL decCert (k35_1 l at_)) fun (c : Cert) ↦ decide ¬certOk (decPInt (V.ptr [vi f] 0 1)) (decPL decMsg (V.ptr [encL (encMsg 1) 1 l] 0 1)) c else false) → (VLe (V.bool b) (V.bool (decide (changeOk f l at_))))))))))))) := by
    delta k35_1; delta k35_0; delta vi
    obtain ⟨hr, hl⟩ := hpre
    simp only [decL_Msg, decL_Cert, decPL_Msg, decPInt_ptr]
    have ha : decide (isAt l at_ 4 ∧ 0 < (atM l at_).view) = true → VLe (encL (encCert 1) 1 (ofM l at_).certs) (encL (encCert 1) 1 (ofM l at_).certs) ∧ VLe (V.ptr [V.int IntKind.i64 f] 0 1) (encPInt 1 f) ∧ VLe (V.ptr [encL (encMsg 1) 1 l] 0 1) (encPL (encMsg 1) 1 l) ∧ pr69_70 (ofM l at_).certs f l := by
      intro h
      have h1 := of_decide_eq_true h
      refine ⟨VLe.refl _, VLe.refl _, VLe.refl _, ?_, hr.okf, hr.len, hl⟩
      have h2 : ofM l at_ = atM l at_ := if_pos h1.1.1
      rw [h2]
      exact (bdL_mem hl (atM_mem h1.1.1)).1
    repeat (first | (refine And.intro (fun h _ => h) ?_) | (refine And.intro (fun _ h => h) ?_) | (refine And.intro ?aa ?_; case aa => (exact ⟨VLe.refl _, hr.len⟩)) | (refine And.intro ?aa ?_; case aa => (exact ha)) | (refine And.intro ?aa ?_; case aa => (intros; simp_all [pr62, pr69_70]; done)) | (refine And.intro ?aa ?_; case aa => (intros; exact inK64 (by omega))) | (refine And.intro ?aa ?_; case aa => (intros; simp only [decide_eq_true_eq] at *; omega)) | (intro q hq))
    subst_vars
    refine vle_bool ?_
    rw [Bool.eq_iff_iff, decide_eq_true_eq]
    unfold changeOk
    by_cases h : isAt l at_ 4 ∧ 0 < (atM l at_).view
    · have h2 : ofM l at_ = atM l at_ := if_pos h.1.1
      rw [h2]
      simp only [h, and_self, decide_true, cond_true, true_and, Bool.not_eq_true', List.any_eq_false, decide_eq_true_eq, Classical.not_not]
      exact ⟨fun g c hc => (certOk_iff hr (atM_mem h.1.1) hc).1 (g c hc), fun g c hc => (certOk_iff hr (atM_mem h.1.1) hc).2 (g c hc)⟩
    · simp only [h, decide_false, cond_false, Bool.false_eq_true, false_iff]
      exact fun g => h ⟨g.1, g.2.1⟩
  exact Eq.mp (by kernel_rfl) key
theorem so35 : Sound Tryz.prog 35 sp35 := by
  refine sound_of_body hmix (pol := 0) Tryz.func35 rfl (by kernel_rfl) fun args bin ob r bout hDe hob => ?_
  unfold sp35 at hDe
  split at hDe
  · rename_i a0 a1 a2
    cases hDe
    exact ⟨rfl, rfl, Nat.le_of_ble_eq_true (by kernel_rfl), cx35 a0 ((decL decMsg) a1) a2, Eq.mp (by kernel_rfl) htt, Eq.mp (by kernel_rfl) da35, Eq.mp (by kernel_rfl) (noM_sound (P := Tryz.prog)), by kernel_rfl, [.int .i64 (a0), encL (encMsg 1) 1 (((decL decMsg) a1)), .int .i64 (a2)], args_of_vles (⟨VLe.refl _, hob.1, VLe.refl _, trivial⟩), Eq.mp (by kernel_rfl) (bd35 a0 ((decL decMsg) a1) a2 (hob.2))⟩
  · cases hDe

/-! ### spec.l10Change -/
def pr67 (f : Int) (l : List Msg) (at_ : Int) : Prop := Right f l ∧ bdL l
noncomputable def rs67 (f : Int) (l : List Msg) (at_ : Int) : V := .bool (decide (changeOk f l at_))
noncomputable def sp67 : FSpec := fun args bin => match args, bin with
  | [.int .i64 a0, a1, .int .i64 a2], [] => some (VLe a1 (encL (encMsg 1) 1 (((decL decMsg) a1))) ∧ pr67 a0 ((decL decMsg) a1) a2, rs67 a0 ((decL decMsg) a1) a2, [])
  | _, _ => none
noncomputable def in67_4 (f : Int) (l : List Msg) (at_ : Int) : LoopInv :=
  ⟨Nat, fun i => ⟨[(0, .int .i64 f), (1, encL (encMsg 1) 1 l), (2, .int .i64 at_), (7, .int .i64 i)], []⟩, fun i => i ≤ (atM l at_).certs.length ∧ isAt l at_ 4 ∧ 0 < (atM l at_).view ∧ ∀ j, j < i → enough f l 2 ((atM l at_).certs.getD j default), fun i => (atM l at_).certs.length - i⟩
noncomputable def iv67 (f : Int) (l : List Msg) (at_ : Int) : Nat → Option LoopInv := fun rg_ => match rg_ with
  | 4 => some (in67_4 f l at_)
  | _ => none
noncomputable def D67 : Nat → Option (Bool × FSpec) := lk [(66, (false, sp66)), (92, (false, sp92))]
theorem da67 : SoundAll Tryz.prog D67 := soundAll_cons so66 (soundAll_cons so92 (soundAll_nil))
noncomputable def cx67 (f : Int) (l : List Msg) (at_ : Int) : Cx := ⟨tt, D67, Tryz.f67.ntmps, [0, 1, 2, 6, 7, 19, 27, 41], [(4, ⟨[(0, none), (1, none), (2, none), (7, none)], []⟩)], [], iv67 f l at_, [], noM, []⟩
noncomputable def k67_0 (l : List Msg) (at_ : Int) (x : Nat) : V := (encCert 1 (List.getD (Msg.certs (List.getD l (Int.toNat at_) default)) (Int.toNat (↑x : Int)) default))
theorem bd67 (f : Int) (l : List Msg) (at_ : Int) (hpre : pr67 f l at_) : bodyP (cx67 f l at_) Tryz.f67 0 [.int .i64 (f), encL (encMsg 1) 1 (l), .int .i64 (at_)] (fun rr => VLe rr (rs67 f l at_)) := by
  have key : (((VLe (encL (encMsg 1) 1 l) (encL (encMsg 1) 1 (decL decMsg (encL (encMsg 1) 1 l)))) ∧ (pr66 (decL decMsg (encL (encMsg 1) 1 l)) at_ (4 : Int))) ∧ ((tq (!!decide (isAt (decL decMsg (encL (encMsg 1) 1 l)) at_ (4 : Int)))) ∧ ((tq (!!decide (isAt (decL decMsg (encL (encMsg 1) 1 l)) at_ (4 : Int)))) ∧ ((((!!decide (isAt (decL decMsg (encL (encMsg 1) 1 l)) at_ (4 : Int))) = true) → (((0 : Int) ≤ at_) ∧ (at_ < (↑(List.length l) : Int)))) ∧ ((tq (!!decide (isAt (decL decMsg (encL (encMsg 1) 1 l)) at_ (4 : Int)))) ∧ ((tq (!!decide (isAt (decL decMsg (encL (encMsg 1) 1 l)) at_ (4 : Int)))) ∧ ((tq (!!decide (isAt (decL decMsg (encL (encMsg 1) 1 l)) at_ (4 : Int)))) ∧ (((true = true) → (((!decide (isAt (decL decMsg (encL (encMsg 1) 1 l)) at_ (4 : Int))) = false) → ((!!decide (isAt (decL decMsg (encL (encMsg 1) 1 l)) at_ (4 : Int))) = true))) ∧ (∀ b : Bool, ((b = bif !decide (isAt (decL decMsg (encL (encMsg 1) 1 l)) at_ (4 : Int)) then true else decide (Msg.view (List.getD l (Int.toNat at_) default) < (1 : Int))) → (((b = true) → (VLe (V.bool false) (V.bool (decide (changeOk f l at_))))) ∧ ((b = false) → ((∃ x : Nat, ((SLe (AS.mk [(0, vi f), (1, encL (encMsg 1) 1 l), (2, vi at_), (7, vi (0 : Int))] []) (AS.mk [(0, vi f), (1, encL (encMsg 1) 1 l), (2, vi at_), (7, vi (↑x : Int))] [])) ∧ ((x ≤ List.length (Msg.certs (atM l at_))) ∧ ((isAt l at_ (4 : Int)) ∧ (((0 : Int) < Msg.view (atM l at_)) ∧ (∀ j : Nat, ((j < x) → (enough f l (2 : Int) (List.getD (Msg.certs (atM l at_)) j default))))))))) ∧ (∀ x : Nat, (((x ≤ List.length (Msg.certs (atM l at_))) ∧ ((isAt l at_ (4 : Int)) ∧ (((0 : Int) < Msg.view (atM l at_)) ∧ (∀ j : Nat, ((j < x) → (enough f l (2 : Int) (List.getD (Msg.certs (atM l at_)) j default))))))) → ((((0 : Int) ≤ at_) ∧ (at_ < (↑(List.length l) : Int))) ∧ (((decide ((↑x : Int) < (↑(List.length (Msg.certs (List.getD l (Int.toNat at_) default))) : Int)) = true) → ((((0 : Int) ≤ at_) ∧ (at_ < (↑(List.length l) : Int))) ∧ ((((0 : Int) ≤ (↑x : Int)) ∧ ((↑x : Int) < (↑(List.length (Msg.certs (List.getD l (Int.toNat at_) default))) : Int))) ∧ (((VLe (encL (encMsg 1) 1 l) (encL (encMsg 1) 1 (decL decMsg (encL (encMsg 1) 1 l)))) ∧ ((VLe (k67_0 l at_ x) (encCert 1 (decCert (k67_0 l at_ x)))) ∧ (pr92 f (decL decMsg (encL (encMsg 1) 1 l)) (2 : Int) (decCert (k67_0 l at_ x))))) ∧ ((((!decide ((2 : Int) * f + (1 : Int) ≤ (↑(List.length (votesF f (decL decMsg (encL (encMsg 1) 1 l)) (2 : Int) (decCert (k67_0 l at_ x)))) : Int))) = true) → (VLe (V.bool false) (V.bool (decide (changeOk f l at_))))) ∧ (((!decide ((2 : Int) * f + (1 : Int) ≤ (↑(List.length (votesF f (decL decMsg (encL (encMsg 1) 1 l)) (2 : Int) (decCert (k67_0 l at_ x)))) : Int))) = false) → ((inK IntKind.i64 ((↑x : Int) + (1 : Int))) ∧ (∃ y : Nat, ((SLe (AS.mk [(0, vi f), (1, encL (encMsg 1) 1 l), (2, vi at_), (7, vi ((↑x : Int) + (1 : Int)))] []) (AS.mk [(0, vi f), (1, encL (encMsg 1) 1 l), (2, vi at_), (7, vi (↑y : Int))] [])) ∧ (((y ≤ List.length (Msg.certs (atM l at_))) ∧ ((isAt l at_ (4 : Int)) ∧ (((0 : Int) < Msg.view (atM l at_)) ∧ (∀ j : Nat, ((j < y) → (enough f l (2 : Int) (List.getD (Msg.certs (atM l at_)) j default))))))) ∧ (List.length (Msg.certs (atM l at_)) - y < List.length (Msg.certs (atM l at_)) - x))))))))))) ∧ ((decide ((↑x : Int) < (↑(List.length (Msg.certs (List.getD l (Int.toNat at_) default))) : Int)) = false) → (VLe (V.bool true) (V.bool (decide (changeOk f l at_)))))))))))))))))))))) := by
    delta k67_0; delta vi
    obtain ⟨hr, hl⟩ := hpre
    have h240 := hr.len
    simp only [decL_Msg, dec_encCert, Int.toNat_natCast]
    have hAt : isAt l at_ 4 → 0 ≤ at_ ∧ at_ < (l.length : Int) := fun h => by
      have := h.1
      unfold inL inR at this
      omega
    repeat (first | (refine And.intro (fun h _ => h) ?_) | (refine And.intro (fun _ h => h) ?_) | (refine And.intro ?aa ?_; case aa => (exact ⟨VLe.refl _, hr.len⟩)) | (refine And.intro ?aa ?_; case aa => (exact fun h => hAt (by simpa using h))) | (refine And.intro ?aa ?_; case aa => (intros; simp_all [pr66, pr92]; done)) | (refine And.intro ?aa ?_; case aa => (intros; exact inK64 (by omega))) | (refine And.intro ?aa ?_; case aa => (intros; simp only [decide_eq_true_eq] at *; omega)) | (intro q hq))
    have e0 : q = decide (¬ (isAt l at_ 4 ∧ 0 < (atM l at_).view)) := by
      subst_vars
      rw [Bool.eq_iff_iff]
      by_cases h : isAt l at_ 4
      · simp [h, atM]; omega
      · simp [h]
    clear hq
    refine ⟨fun h => ?_, fun h => ?_⟩
    · rw [e0] at h
      have h1 := of_decide_eq_true h
      refine vle_bool ?_
      have : ¬ changeOk f l at_ := fun g => h1 ⟨g.1, g.2.1⟩
      simp [this]
    · rw [e0] at h
      have h1 : isAt l at_ 4 ∧ 0 < (atM l at_).view := Classical.not_not.1 (of_decide_eq_false h)
      have hb := (bdL_mem hl (atM_mem h1.1.1)).1
      unfold maxLen at hb
      have hlen : (List.getD l at_.toNat default) = atM l at_ := rfl
      simp only [hlen]
      refine ⟨⟨0, SLe.refl _, by omega, h1.1, h1.2, fun j hj => absurd hj (Nat.not_lt_zero j)⟩, ?_⟩
      rintro i ⟨hi, _, _, hj⟩
      refine ⟨hAt h1.1, fun h => ?_, fun h => ?_⟩
      · have hlt : i < (atM l at_).certs.length := by simpa using h
        refine ⟨hAt h1.1, ⟨by omega, by omega⟩, ⟨VLe.refl _, VLe.refl _, hr.okf, hl⟩, fun h2 => ?_, fun h2 => ⟨inK64 (by omega), i + 1, SLe.refl _, ⟨by omega, h1.1, h1.2, fun j h3 => ?_⟩, by omega⟩⟩
        · refine vle_bool ?_
          have h3 : ¬ enough f l 2 ((atM l at_).certs.getD i default) := by simpa [enough] using h2
          have : ¬ changeOk f l at_ := fun g => h3 (g.2.2 _ (by simp [hlt]))
          simp [this]
        · rcases Nat.lt_or_ge j i with h4 | h4
          · exact hj j h4
          · have : j = i := by omega
            subst this
            simpa [enough] using h2
      · refine vle_bool ?_
        have hge : i = (atM l at_).certs.length := by simp at h; omega
        have : changeOk f l at_ := ⟨h1.1, h1.2, fun c hc => by
          obtain ⟨j, hj', rfl⟩ := List.getElem_of_mem hc
          have := hj j (by omega)
          simpa [hj'] using this⟩
        simp [this]
  exact Eq.mp (by kernel_rfl) key
theorem so67 : Sound Tryz.prog 67 sp67 := by
  refine sound_of_body hmix (pol := 0) Tryz.func67 rfl (by kernel_rfl) fun args bin ob r bout hDe hob => ?_
  unfold sp67 at hDe
  split at hDe
  · rename_i a0 a1 a2
    cases hDe
    exact ⟨rfl, rfl, Nat.le_of_ble_eq_true (by kernel_rfl), cx67 a0 ((decL decMsg) a1) a2, Eq.mp (by kernel_rfl) htt, Eq.mp (by kernel_rfl) da67, Eq.mp (by kernel_rfl) (noM_sound (P := Tryz.prog)), by kernel_rfl, [.int .i64 (a0), encL (encMsg 1) 1 (((decL decMsg) a1)), .int .i64 (a2)], args_of_vles (⟨VLe.refl _, hob.1, VLe.refl _, trivial⟩), Eq.mp (by kernel_rfl) (bd67 a0 ((decL decMsg) a1) a2 (hob.2))⟩
  · cases hDe

end Go.Av
