/- What is wrong with a ledger: program and reference; the laws' helpers on ledgers. -/
import Derived.Test.YtakcaanpnmkccaaGreatE2
import Derived.Test.YtakcaanpnmkccaaGreatE3
namespace Go.Av
open Go.Proofs
set_option maxRecDepth 100000
set_option linter.unusedVariables false
set_option linter.unusedSimpArgs false

@[simp] theorem decPInt_ptr (k : IntKind) (n : Int) (o t : Nat) : decPInt (.ptr [.int k n] o t) = n := rfl
/-- A ledger whose lists are no longer than memory. -/
def bdL (l : List Msg) : Prop := l.length ≤ maxLen ∧ ∀ m ∈ l, m.bd
theorem bdL_get {l : List Msg} (h : bdL l) {i : Nat} (hi : i < l.length) : (l.getD i default).bd := h.2 _ (by simp [hi])
theorem bdL_take {l : List Msg} (h : bdL l) (i : Nat) : bdL (l.take i) := ⟨by have := h.1; simp; omega, fun m hm => h.2 m (List.mem_of_mem_take hm)⟩


/-! ### impl.refsTo$1 -/
def pr84 (r : Int) (most : Int) : Prop := True
noncomputable def rs84 (r : Int) (most : Int) : V := .bool (decide (most ≤ r))
noncomputable def sp84 : FSpec := fun args bin => match args, bin with
  | [.int .i64 a0, a1], [] => some (VLe a1 (encPInt 1 ((decPInt a1))) ∧ pr84 a0 (decPInt a1), rs84 a0 (decPInt a1), [])
  | _, _ => none
noncomputable def D84 : Nat → Option (Bool × FSpec) := lk []
theorem da84 : SoundAll Tryz.prog D84 := soundAll_nil
noncomputable def cx84 (r : Int) (most : Int) : Cx := ⟨tt, D84, Tryz.f84.ntmps, [0, 1, 3], [], [], fun _ => none, [], noM, []⟩
theorem bd84 (r : Int) (most : Int) (hpre : pr84 r most) : bodyP (cx84 r most) Tryz.f84 0 [.int .i64 (r), encPInt 1 (most)] (fun rr => VLe rr (rs84 r most)) := by
  have key : (VLe (V.bool (decide (r ≥ most))) (V.bool (decide (most ≤ r)))) := by
    exact VLe.refl _
  exact Eq.mp (by kernel_rfl) key
theorem so84 : Sound Tryz.prog 84 sp84 := by
  refine sound_of_body hmix (pol := 0) Tryz.func84 rfl (by kernel_rfl) fun args bin ob r bout hDe hob => ?_
  unfold sp84 at hDe
  split at hDe
  · rename_i a0 a1
    cases hDe
    exact ⟨rfl, rfl, Nat.le_of_ble_eq_true (by kernel_rfl), cx84 a0 (decPInt a1), Eq.mp (by kernel_rfl) htt, Eq.mp (by kernel_rfl) da84, Eq.mp (by kernel_rfl) (noM_sound (P := Tryz.prog)), by kernel_rfl, [.int .i64 (a0), encPInt 1 ((decPInt a1))], args_of_vles (⟨VLe.refl _, hob.1, trivial⟩), Eq.mp (by kernel_rfl) (bd84 a0 (decPInt a1) (hob.2))⟩
  · cases hDe

/-! ### slices.IndexFunc(()int64,int64)@impl.refsTo$1 -/
def pr72_84 (xs : List Int) (most : Int) : Prop := xs.length ≤ maxLen ∧ (True)
noncomputable def rs72_84 (xs : List Int) (most : Int) : V := .int .i64 (idxF (fun r => decide (most ≤ r)) xs)
noncomputable def sp72_84 : FSpec := fun args bin => match args, bin with
  | [a0, .fn 84 [a1]], [] => some (VLe a0 (encL encI 1 (((decL decI) a0))) ∧ VLe a1 (encPInt 1 ((decPInt a1))) ∧ pr72_84 ((decL decI) a0) (decPInt a1), rs72_84 ((decL decI) a0) (decPInt a1), [])
  | _, _ => none
noncomputable def in72_84_2 (xs : List Int) (most : Int) : LoopInv :=
  ⟨Nat, fun i => ⟨[(0, encL encI 1 xs), (1, .fn 84 [encPInt 1 (most)]), (7, .int .i64 xs.length), (8, .int .i64 i)], []⟩,
    fun i => i ≤ xs.length ∧ ∀ j, j < i → (fun r => decide (most ≤ r)) (xs.getD j default) = false, fun i => xs.length - i⟩
noncomputable def iv72_84 (xs : List Int) (most : Int) : Nat → Option LoopInv := fun rg_ => match rg_ with
  | 2 => some (in72_84_2 xs most)
  | _ => none
noncomputable def D72_84 : Nat → Option (Bool × FSpec) := lk [(84, (false, sp84))]
theorem da72_84 : SoundAll Tryz.prog D72_84 := soundAll_cons so84 (soundAll_nil)
noncomputable def cx72_84 (xs : List Int) (most : Int) : Cx := ⟨tt, D72_84, Tryz.f72.ntmps, [0, 1, 4, 5, 7, 8, 9, 16], [(2, ⟨[(0, none), (1, none), (7, none), (8, none)], []⟩)], [], iv72_84 xs most, [], noM, []⟩
theorem bd72_84 (xs : List Int) (most : Int) (hpre : pr72_84 xs most) : bodyP (cx72_84 xs most) Tryz.f72 0 [encL encI 1 (xs), .fn 84 [encPInt 1 (most)]] (fun rr => VLe rr (rs72_84 xs most)) := by
  have key : ((∃ x : Nat, ((SLe (AS.mk [(0, encL encI 1 xs), (1, V.fn (84 : FuncId) [encPInt 1 most]), (7, vi (↑(List.length xs) : Int)), (8, vi (0 : Int))] []) (AS.mk [(0, encL encI 1 xs), (1, V.fn (84 : FuncId) [encPInt 1 most]), (7, vi (↑(List.length xs) : Int)), (8, vi (↑x : Int))] [])) ∧ ((x ≤ List.length xs) ∧ (∀ j : Nat, ((j < x) → (decide (most ≤ List.getD xs j default) = false)))))) ∧ (∀ x : Nat, (((x ≤ List.length xs) ∧ (∀ j : Nat, ((j < x) → (decide (most ≤ List.getD xs j default) = false)))) → (((decide ((↑x : Int) < (↑(List.length xs) : Int)) = true) → ((((0 : Int) ≤ (↑x : Int)) ∧ ((↑x : Int) < (↑(List.length xs) : Int))) ∧ (((VLe (V.ptr [vi most] 0 1) (encPInt 1 (decPInt (V.ptr [vi most] 0 1)))) ∧ (pr84 (List.getD xs (Int.toNat (↑x : Int)) default) (decPInt (V.ptr [vi most] 0 1)))) ∧ (((decide (decPInt (V.ptr [vi most] 0 1) ≤ List.getD xs (Int.toNat (↑x : Int)) default) = true) → (VLe (vi (↑x : Int)) (vi (idxF (fun (r : Int) ↦ decide (most ≤ r)) xs)))) ∧ ((decide (decPInt (V.ptr [vi most] 0 1) ≤ List.getD xs (Int.toNat (↑x : Int)) default) = false) → ((inK IntKind.i64 ((↑x : Int) + (1 : Int))) ∧ (∃ y : Nat, ((SLe (AS.mk [(0, encL encI 1 xs), (1, V.fn (84 : FuncId) [encPInt 1 most]), (7, vi (↑(List.length xs) : Int)), (8, vi ((↑x : Int) + (1 : Int)))] []) (AS.mk [(0, encL encI 1 xs), (1, V.fn (84 : FuncId) [encPInt 1 most]), (7, vi (↑(List.length xs) : Int)), (8, vi (↑y : Int))] [])) ∧ (((y ≤ List.length xs) ∧ (∀ j : Nat, ((j < y) → (decide (most ≤ List.getD xs j default) = false)))) ∧ (List.length xs - y < List.length xs - x)))))))))) ∧ ((decide ((↑x : Int) < (↑(List.length xs) : Int)) = false) → (VLe (vi (-1 : Int)) (vi (idxF (fun (r : Int) ↦ decide (most ≤ r)) xs)))))))) := by
    delta vi
    obtain ⟨hlen, hp⟩ := hpre
    unfold maxLen at hlen
    refine ⟨⟨0, SLe.refl _, by omega, fun j hj => absurd hj (Nat.not_lt_zero j)⟩, ?_⟩
    rintro i ⟨hi, hj⟩
    refine ⟨fun h => ?_, fun h => ?_⟩
    · have hlt : i < xs.length := by simpa using h
      have hin : xs.getD i default ∈ xs := by simp [hlt]
      simp only [Int.toNat_natCast, decI_int, dec_encPMsg, dec_encMsg, decL_Msg, dec_encPInt]
      refine ⟨⟨by omega, by omega⟩, ⟨VLe.refl _, trivial⟩, fun h2 => vle_int (idxF_some hlt hj h2).symm, fun h2 => ⟨inK64 (by omega), i + 1, SLe.refl _, ⟨by omega, fun j h3 => ?_⟩, by omega⟩⟩
      rcases Nat.lt_or_ge j i with h4 | h4
      · exact hj j h4
      · have : j = i := by omega
        subst this
        exact h2
    · have hge : i = xs.length := by simp at h; omega
      exact vle_int (idxF_none fun j h3 => hj j (by omega)).symm
  exact Eq.mp (by kernel_rfl) key
theorem so72_84 : Sound Tryz.prog 72 sp72_84 := by
  refine sound_of_body hmix (pol := 0) Tryz.func72 rfl (by kernel_rfl) fun args bin ob r bout hDe hob => ?_
  unfold sp72_84 at hDe
  split at hDe
  · rename_i a0 a1
    cases hDe
    exact ⟨rfl, rfl, Nat.le_of_ble_eq_true (by kernel_rfl), cx72_84 ((decL decI) a0) (decPInt a1), Eq.mp (by kernel_rfl) htt, Eq.mp (by kernel_rfl) da72_84, Eq.mp (by kernel_rfl) (noM_sound (P := Tryz.prog)), by kernel_rfl, [encL encI 1 (((decL decI) a0)), .fn 84 [encPInt 1 ((decPInt a1))]], args_of_vles (⟨hob.1, vle_fn ⟨hob.2.1, trivial⟩, trivial⟩), Eq.mp (by kernel_rfl) (bd72_84 ((decL decI) a0) (decPInt a1) (hob.2.2))⟩
  · cases hDe

/-! ### slices.ContainsFunc(()int64,int64)@impl.refsTo$1 -/
def pr39_84 (xs : List Int) (most : Int) : Prop := xs.length ≤ maxLen ∧ (True)
noncomputable def rs39_84 (xs : List Int) (most : Int) : V := .bool (xs.any (fun r => decide (most ≤ r)))
noncomputable def sp39_84 : FSpec := fun args bin => match args, bin with
  | [a0, .fn 84 [a1]], [] => some (VLe a0 (encL encI 1 (((decL decI) a0))) ∧ VLe a1 (encPInt 1 ((decPInt a1))) ∧ pr39_84 ((decL decI) a0) (decPInt a1), rs39_84 ((decL decI) a0) (decPInt a1), [])
  | _, _ => none
noncomputable def D39_84 : Nat → Option (Bool × FSpec) := lk [(72, (false, sp72_84))]
theorem da39_84 : SoundAll Tryz.prog D39_84 := soundAll_cons so72_84 (soundAll_nil)
noncomputable def cx39_84 (xs : List Int) (most : Int) : Cx := ⟨tt, D39_84, Tryz.f39.ntmps, [0, 1, 4], [], [], fun _ => none, [], noM, []⟩
theorem bd39_84 (xs : List Int) (most : Int) (hpre : pr39_84 xs most) : bodyP (cx39_84 xs most) Tryz.f39 0 [encL encI 1 (xs), .fn 84 [encPInt 1 (most)]] (fun rr => VLe rr (rs39_84 xs most)) := by
  have key : (((VLe (encL encI 1 xs) (encL encI 1 (decL decI (encL encI 1 xs)))) ∧ ((VLe (V.ptr [vi most] 0 1) (encPInt 1 (decPInt (V.ptr [vi most] 0 1)))) ∧ (pr72_84 (decL decI (encL encI 1 xs)) (decPInt (V.ptr [vi most] 0 1))))) ∧ (VLe (V.bool (decide (idxF (fun (r : Int) ↦ decide (decPInt (V.ptr [vi most] 0 1) ≤ r)) (decL decI (encL encI 1 xs)) ≥ (0 : Int)))) (V.bool (List.any xs fun (r : Int) ↦ decide (most ≤ r))))) := by
    delta vi
    simp only [decL_ints, decL_Cert, dec_encPMsg, dec_encMsg, decL_Msg, dec_encPInt]
    refine ⟨?_, vle_bool (idxF_nonneg _ _)⟩
    repeat' (first | exact VLe.refl _ | exact hpre | apply And.intro)
  exact Eq.mp (by kernel_rfl) key
theorem so39_84 : Sound Tryz.prog 39 sp39_84 := by
  refine sound_of_body hmix (pol := 0) Tryz.func39 rfl (by kernel_rfl) fun args bin ob r bout hDe hob => ?_
  unfold sp39_84 at hDe
  split at hDe
  · rename_i a0 a1
    cases hDe
    exact ⟨rfl, rfl, Nat.le_of_ble_eq_true (by kernel_rfl), cx39_84 ((decL decI) a0) (decPInt a1), Eq.mp (by kernel_rfl) htt, Eq.mp (by kernel_rfl) da39_84, Eq.mp (by kernel_rfl) (noM_sound (P := Tryz.prog)), by kernel_rfl, [encL encI 1 (((decL decI) a0)), .fn 84 [encPInt 1 ((decPInt a1))]], args_of_vles (⟨hob.1, vle_fn ⟨hob.2.1, trivial⟩, trivial⟩), Eq.mp (by kernel_rfl) (bd39_84 ((decL decI) a0) (decPInt a1) (hob.2.2))⟩
  · cases hDe

/-! ### impl.refsTo -/
def pr60 (m : Msg) (most : Int) : Prop := m.bd
noncomputable def rs60 (m : Msg) (most : Int) : V := .bool (decide (refsBelow m most))
noncomputable def sp60 : FSpec := fun args bin => match args, bin with
  | [a0, .int .i64 a1], [] => some (VLe a0 (encMsg 1 ((decMsg a0))) ∧ pr60 (decMsg a0) a1, rs60 (decMsg a0) a1, [])
  | _, _ => none
noncomputable def D60 : Nat → Option (Bool × FSpec) := lk [(39, (false, sp39_84))]
theorem da60 : SoundAll Tryz.prog D60 := soundAll_cons so39_84 (soundAll_nil)
noncomputable def cx60 (m : Msg) (most : Int) : Cx := ⟨tt, D60, Tryz.f60.ntmps, [0, 1, 2, 3, 4], [], [], fun _ => none, [], noM, []⟩
theorem bd60 (m : Msg) (most : Int) (hpre : pr60 m most) : bodyP (cx60 m most) Tryz.f60 0 [encMsg 1 (m), .int .i64 (most)] (fun rr => VLe rr (rs60 m most)) := by
  have key : (((VLe (encL encI 1 (Msg.refs m)) (encL encI 1 (decL decI (encL encI 1 (Msg.refs m))))) ∧ ((VLe (V.ptr [vi most] 0 1) (encPInt 1 (decPInt (V.ptr [vi most] 0 1)))) ∧ (pr39_84 (decL decI (encL encI 1 (Msg.refs m))) (decPInt (V.ptr [vi most] 0 1))))) ∧ (VLe (V.bool !List.any (decL decI (encL encI 1 (Msg.refs m))) fun (r : Int) ↦ decide (decPInt (V.ptr [vi most] 0 1) ≤ r)) (V.bool (decide (refsBelow m most))))) := by
    delta vi
    simp only [decL_ints, decPInt_ptr]
    refine ⟨⟨VLe.refl _, VLe.refl _, hpre.2, trivial⟩, vle_bool ?_⟩
    rw [Bool.eq_iff_iff]
    simp only [Bool.not_eq_true', List.any_eq_false, decide_eq_true_eq, Int.not_le]
    constructor
    · intro h r hr
      have := of_decide_eq_false (Bool.eq_false_iff.2 (h r hr))
      omega
    · intro h x hx
      have h1 := h x hx
      exact Bool.eq_false_iff.1 (decide_eq_false (by omega))
  exact Eq.mp (by kernel_rfl) key
theorem so60 : Sound Tryz.prog 60 sp60 := by
  refine sound_of_body hmix (pol := 0) Tryz.func60 rfl (by kernel_rfl) fun args bin ob r bout hDe hob => ?_
  unfold sp60 at hDe
  split at hDe
  · rename_i a0 a1
    cases hDe
    exact ⟨rfl, rfl, Nat.le_of_ble_eq_true (by kernel_rfl), cx60 (decMsg a0) a1, Eq.mp (by kernel_rfl) htt, Eq.mp (by kernel_rfl) da60, Eq.mp (by kernel_rfl) (noM_sound (P := Tryz.prog)), by kernel_rfl, [encMsg 1 ((decMsg a0)), .int .i64 (a1)], args_of_vles (⟨hob.1, VLe.refl _, trivial⟩), Eq.mp (by kernel_rfl) (bd60 (decMsg a0) a1 (hob.2))⟩
  · cases hDe

/-! ### impl.msgAt$1 -/
def pr86 (x : Msg) (m : Msg) : Prop := x.bd
noncomputable def rs86 (x : Msg) (m : Msg) : V := .bool (decide (x = m))
noncomputable def sp86 : FSpec := fun args bin => match args, bin with
  | [a0, a1], [] => some (VLe a0 (encMsg 1 ((decMsg a0))) ∧ VLe a1 (encPMsg 1 ((decPMsg a1))) ∧ pr86 (decMsg a0) (decPMsg a1), rs86 (decMsg a0) (decPMsg a1), [])
  | _, _ => none
noncomputable def D86 : Nat → Option (Bool × FSpec) := lk [(87, (false, sp87))]
theorem da86 : SoundAll Tryz.prog D86 := soundAll_cons so87 (soundAll_nil)
noncomputable def cx86 (x : Msg) (m : Msg) : Cx := ⟨tt, D86, Tryz.f86.ntmps, [0, 1, 2, 3], [], [], fun _ => none, [], noM, []⟩
theorem bd86 (x : Msg) (m : Msg) (hpre : pr86 x m) : bodyP (cx86 x m) Tryz.f86 0 [encMsg 1 (x), encPMsg 1 (m)] (fun rr => VLe rr (rs86 x m)) := by
  have key : (((VLe (encMsg 1 x) (encMsg 1 (decMsg (encMsg 1 x)))) ∧ ((VLe (encMsg 1 m) (encMsg 1 (decMsg (encMsg 1 m)))) ∧ (pr87 (decMsg (encMsg 1 x)) (decMsg (encMsg 1 m))))) ∧ (VLe (V.bool (decide (decMsg (encMsg 1 x) = decMsg (encMsg 1 m)))) (V.bool (decide (x = m))))) := by
    simp only [dec_encMsg]
    exact ⟨⟨VLe.refl _, VLe.refl _, hpre⟩, VLe.refl _⟩
  exact Eq.mp (by kernel_rfl) key
theorem so86 : Sound Tryz.prog 86 sp86 := by
  refine sound_of_body hmix (pol := 0) Tryz.func86 rfl (by kernel_rfl) fun args bin ob r bout hDe hob => ?_
  unfold sp86 at hDe
  split at hDe
  · rename_i a0 a1
    cases hDe
    exact ⟨rfl, rfl, Nat.le_of_ble_eq_true (by kernel_rfl), cx86 (decMsg a0) (decPMsg a1), Eq.mp (by kernel_rfl) htt, Eq.mp (by kernel_rfl) da86, Eq.mp (by kernel_rfl) (noM_sound (P := Tryz.prog)), by kernel_rfl, [encMsg 1 ((decMsg a0)), encPMsg 1 ((decPMsg a1))], args_of_vles (⟨hob.1, hob.2.1, trivial⟩), Eq.mp (by kernel_rfl) (bd86 (decMsg a0) (decPMsg a1) (hob.2.2))⟩
  · cases hDe

/-! ### slices.IndexFunc(()loop.example/g00369/impl.Msg,loop.example/g00369/impl.Msg)@impl.msgAt$1 -/
def pr85_86 (xs : List Msg) (m : Msg) : Prop := xs.length ≤ maxLen ∧ (∀ x ∈ xs, x.bd)
noncomputable def rs85_86 (xs : List Msg) (m : Msg) : V := .int .i64 (idxF (fun x => decide (x = m)) xs)
noncomputable def sp85_86 : FSpec := fun args bin => match args, bin with
  | [a0, .fn 86 [a1]], [] => some (VLe a0 (encL (encMsg 1) 1 (((decL decMsg) a0))) ∧ VLe a1 (encPMsg 1 ((decPMsg a1))) ∧ pr85_86 ((decL decMsg) a0) (decPMsg a1), rs85_86 ((decL decMsg) a0) (decPMsg a1), [])
  | _, _ => none
noncomputable def in85_86_2 (xs : List Msg) (m : Msg) : LoopInv :=
  ⟨Nat, fun i => ⟨[(0, encL (encMsg 1) 1 xs), (1, .fn 86 [encPMsg 1 (m)]), (7, .int .i64 xs.length), (8, .int .i64 i)], []⟩,
    fun i => i ≤ xs.length ∧ ∀ j, j < i → (fun x => decide (x = m)) (xs.getD j default) = false, fun i => xs.length - i⟩
noncomputable def iv85_86 (xs : List Msg) (m : Msg) : Nat → Option LoopInv := fun rg_ => match rg_ with
  | 2 => some (in85_86_2 xs m)
  | _ => none
noncomputable def D85_86 : Nat → Option (Bool × FSpec) := lk [(86, (false, sp86))]
theorem da85_86 : SoundAll Tryz.prog D85_86 := soundAll_cons so86 (soundAll_nil)
noncomputable def cx85_86 (xs : List Msg) (m : Msg) : Cx := ⟨tt, D85_86, Tryz.f85.ntmps, [0, 1, 4, 5, 7, 8, 9, 16], [(2, ⟨[(0, none), (1, none), (7, none), (8, none)], []⟩)], [], iv85_86 xs m, [], noM, []⟩
noncomputable def k85_86_0 (xs : List Msg) (x : Nat) : V := (encMsg 1 (List.getD xs (Int.toNat (↑x : Int)) default))
theorem bd85_86 (xs : List Msg) (m : Msg) (hpre : pr85_86 xs m) : bodyP (cx85_86 xs m) Tryz.f85 0 [encL (encMsg 1) 1 (xs), .fn 86 [encPMsg 1 (m)]] (fun rr => VLe rr (rs85_86 xs m)) := by
  have key : ((∃ x : Nat, ((SLe (AS.mk [(0, encL (encMsg 1) 1 xs), (1, V.fn (86 : FuncId) [encPMsg 1 m]), (7, vi (↑(List.length xs) : Int)), (8, vi (0 : Int))] []) (AS.mk [(0, encL (encMsg 1) 1 xs), (1, V.fn (86 : FuncId) [encPMsg 1 m]), (7, vi (↑(List.length xs) : Int)), (8, vi (↑x : Int))] [])) ∧ ((x ≤ List.length xs) ∧ (∀ j : Nat, ((j < x) → (decide (List.getD xs j default = m) = false)))))) ∧ (∀ x : Nat, (((x ≤ List.length xs) ∧ (∀ j : Nat, ((j < x) → (decide (List.getD xs j default = m) = false)))) → (((decide ((↑x : Int) < (↑(List.length xs) : Int)) = true) → ((((0 : Int) ≤ (↑x : Int)) ∧ ((↑x : Int) < (↑(List.length xs) : Int))) ∧ (((VLe (k85_86_0 xs x) (encMsg 1 (decMsg (k85_86_0 xs x)))) ∧ ((VLe (encPMsg 1 m) (encPMsg 1 (decPMsg (encPMsg 1 m)))) ∧ (pr86 (decMsg (k85_86_0 xs x)) (decPMsg (encPMsg 1 m))))) ∧ (((decide (decMsg (k85_86_0 xs x) = decPMsg (encPMsg 1 m)) = true) → (VLe (vi (↑x : Int)) (vi (idxF (fun (x : Msg) ↦ decide (x = m)) xs)))) ∧ ((decide (decMsg (k85_86_0 xs x) = decPMsg (encPMsg 1 m)) = false) → ((inK IntKind.i64 ((↑x : Int) + (1 : Int))) ∧ (∃ y : Nat, ((SLe (AS.mk [(0, encL (encMsg 1) 1 xs), (1, V.fn (86 : FuncId) [encPMsg 1 m]), (7, vi (↑(List.length xs) : Int)), (8, vi ((↑x : Int) + (1 : Int)))] []) (AS.mk [(0, encL (encMsg 1) 1 xs), (1, V.fn (86 : FuncId) [encPMsg 1 m]), (7, vi (↑(List.length xs) : Int)), (8, vi (↑y : Int))] [])) ∧ (((y ≤ List.length xs) ∧ (∀ j : Nat, ((j < y) → (decide (List.getD xs j default = m) = false)))) ∧ (List.length xs - y < List.length xs - x)))))))))) ∧ ((decide ((↑x : Int) < (↑(List.length xs) : Int)) = false) → (VLe (vi (-1 : Int)) (vi (idxF (fun (x : Msg) ↦ decide (x = m)) xs)))))))) := by
    delta k85_86_0; delta vi
    obtain ⟨hlen, hp⟩ := hpre
    unfold maxLen at hlen
    refine ⟨⟨0, SLe.refl _, by omega, fun j hj => absurd hj (Nat.not_lt_zero j)⟩, ?_⟩
    rintro i ⟨hi, hj⟩
    refine ⟨fun h => ?_, fun h => ?_⟩
    · have hlt : i < xs.length := by simpa using h
      have hin : xs.getD i default ∈ xs := by simp [hlt]
      simp only [Int.toNat_natCast, dec_encMsg, dec_encPMsg, dec_encMsg, decL_Msg, dec_encPInt]
      refine ⟨⟨by omega, by omega⟩, ⟨VLe.refl _, VLe.refl _, hp _ hin⟩, fun h2 => vle_int (idxF_some hlt hj h2).symm, fun h2 => ⟨inK64 (by omega), i + 1, SLe.refl _, ⟨by omega, fun j h3 => ?_⟩, by omega⟩⟩
      rcases Nat.lt_or_ge j i with h4 | h4
      · exact hj j h4
      · have : j = i := by omega
        subst this
        exact h2
    · have hge : i = xs.length := by simp at h; omega
      exact vle_int (idxF_none fun j h3 => hj j (by omega)).symm
  exact Eq.mp (by kernel_rfl) key
theorem so85_86 : Sound Tryz.prog 85 sp85_86 := by
  refine sound_of_body hmix (pol := 0) Tryz.func85 rfl (by kernel_rfl) fun args bin ob r bout hDe hob => ?_
  unfold sp85_86 at hDe
  split at hDe
  · rename_i a0 a1
    cases hDe
    exact ⟨rfl, rfl, Nat.le_of_ble_eq_true (by kernel_rfl), cx85_86 ((decL decMsg) a0) (decPMsg a1), Eq.mp (by kernel_rfl) htt, Eq.mp (by kernel_rfl) da85_86, Eq.mp (by kernel_rfl) (noM_sound (P := Tryz.prog)), by kernel_rfl, [encL (encMsg 1) 1 (((decL decMsg) a0)), .fn 86 [encPMsg 1 ((decPMsg a1))]], args_of_vles (⟨hob.1, vle_fn ⟨hob.2.1, trivial⟩, trivial⟩), Eq.mp (by kernel_rfl) (bd85_86 ((decL decMsg) a0) (decPMsg a1) (hob.2.2))⟩
  · cases hDe

/-! ### impl.msgAt -/
def pr61 (l : List Msg) (m : Msg) : Prop := bdL l
noncomputable def rs61 (l : List Msg) (m : Msg) : V := .int .i64 (msgAt l m)
noncomputable def sp61 : FSpec := fun args bin => match args, bin with
  | [a0, a1], [] => some (VLe a0 (encL (encMsg 1) 1 (((decL decMsg) a0))) ∧ VLe a1 (encMsg 1 ((decMsg a1))) ∧ pr61 ((decL decMsg) a0) (decMsg a1), rs61 ((decL decMsg) a0) (decMsg a1), [])
  | _, _ => none
noncomputable def D61 : Nat → Option (Bool × FSpec) := lk [(85, (false, sp85_86))]
theorem da61 : SoundAll Tryz.prog D61 := soundAll_cons so85_86 (soundAll_nil)
noncomputable def cx61 (l : List Msg) (m : Msg) : Cx := ⟨tt, D61, Tryz.f61.ntmps, [0, 1, 3, 4], [], [], fun _ => none, [], noM, []⟩
theorem bd61 (l : List Msg) (m : Msg) (hpre : pr61 l m) : bodyP (cx61 l m) Tryz.f61 0 [encL (encMsg 1) 1 (l), encMsg 1 (m)] (fun rr => VLe rr (rs61 l m)) := by
  have key : (((VLe (encL (encMsg 1) 1 l) (encL (encMsg 1) 1 (decL decMsg (encL (encMsg 1) 1 l)))) ∧ ((VLe (encPMsg 1 m) (encPMsg 1 (decPMsg (encPMsg 1 m)))) ∧ (pr85_86 (decL decMsg (encL (encMsg 1) 1 l)) (decPMsg (encPMsg 1 m))))) ∧ (VLe (vi (idxF (fun (x : Msg) ↦ decide (x = decPMsg (encPMsg 1 m))) (decL decMsg (encL (encMsg 1) 1 l)))) (vi (msgAt l m)))) := by
    delta vi
    simp only [decL_Msg, dec_encPMsg]
    exact ⟨⟨VLe.refl _, VLe.refl _, hpre⟩, VLe.refl _⟩
  exact Eq.mp (by kernel_rfl) key
theorem so61 : Sound Tryz.prog 61 sp61 := by
  refine sound_of_body hmix (pol := 0) Tryz.func61 rfl (by kernel_rfl) fun args bin ob r bout hDe hob => ?_
  unfold sp61 at hDe
  split at hDe
  · rename_i a0 a1
    cases hDe
    exact ⟨rfl, rfl, Nat.le_of_ble_eq_true (by kernel_rfl), cx61 ((decL decMsg) a0) (decMsg a1), Eq.mp (by kernel_rfl) htt, Eq.mp (by kernel_rfl) da61, Eq.mp (by kernel_rfl) (noM_sound (P := Tryz.prog)), by kernel_rfl, [encL (encMsg 1) 1 (((decL decMsg) a0)), encMsg 1 ((decMsg a1))], args_of_vles (⟨hob.1, hob.2.1, trivial⟩), Eq.mp (by kernel_rfl) (bd61 ((decL decMsg) a0) (decMsg a1) (hob.2.2))⟩
  · cases hDe

/-! ### spec.l8At -/
def pr91 (l : List Msg) (m : Msg) : Prop := bdL l
noncomputable def rs91 (l : List Msg) (m : Msg) : V := .int .i64 (msgAt l m)
noncomputable def sp91 : FSpec := fun args bin => match args, bin with
  | [a0, a1], [] => some (VLe a0 (encL (encMsg 1) 1 (((decL decMsg) a0))) ∧ VLe a1 (encPMsg 1 ((decPMsg a1))) ∧ pr91 ((decL decMsg) a0) (decPMsg a1), rs91 ((decL decMsg) a0) (decPMsg a1), [])
  | _, _ => none
noncomputable def in91_2 (l : List Msg) (m : Msg) : LoopInv :=
  ⟨Nat, fun i => ⟨[(0, encL (encMsg 1) 1 l), (1, encPMsg 1 m), (5, .int .i64 i)], []⟩, fun i => i ≤ l.length ∧ ∀ j, j < i → (fun x => decide (x = m)) (l.getD j default) = false, fun i => l.length - i⟩
noncomputable def iv91 (l : List Msg) (m : Msg) : Nat → Option LoopInv := fun rg_ => match rg_ with
  | 2 => some (in91_2 l m)
  | _ => none
noncomputable def D91 : Nat → Option (Bool × FSpec) := lk [(104, (false, sp104))]
theorem da91 : SoundAll Tryz.prog D91 := soundAll_cons so104 (soundAll_nil)
noncomputable def cx91 (l : List Msg) (m : Msg) : Cx := ⟨tt, D91, Tryz.f91.ntmps, [0, 1, 4, 5, 9, 16], [(2, ⟨[(0, none), (1, none), (5, none)], []⟩)], [], iv91 l m, [], noM, []⟩
noncomputable def k91_0 (l : List Msg) (x : Nat) : V := (encPMsg 1 (List.getD l (Int.toNat (↑x : Int)) default))
theorem bd91 (l : List Msg) (m : Msg) (hpre : pr91 l m) : bodyP (cx91 l m) Tryz.f91 0 [encL (encMsg 1) 1 (l), encPMsg 1 (m)] (fun rr => VLe rr (rs91 l m)) := by
  have key : ((∃ x : Nat, ((SLe (AS.mk [(0, encL (encMsg 1) 1 l), (1, encPMsg 1 m), (5, vi (0 : Int))] []) (AS.mk [(0, encL (encMsg 1) 1 l), (1, encPMsg 1 m), (5, vi (↑x : Int))] [])) ∧ ((x ≤ List.length l) ∧ (∀ j : Nat, ((j < x) → (decide (List.getD l j default = m) = false)))))) ∧ (∀ x : Nat, (((x ≤ List.length l) ∧ (∀ j : Nat, ((j < x) → (decide (List.getD l j default = m) = false)))) → (((decide ((↑x : Int) < (↑(List.length l) : Int)) = true) → ((((0 : Int) ≤ (↑x : Int)) ∧ ((↑x : Int) < (↑(List.length l) : Int))) ∧ (((VLe (k91_0 l x) (encPMsg 1 (decPMsg (k91_0 l x)))) ∧ ((VLe (encPMsg 1 m) (encPMsg 1 (decPMsg (encPMsg 1 m)))) ∧ (pr104 (decPMsg (k91_0 l x)) (decPMsg (encPMsg 1 m))))) ∧ (((decide (decPMsg (k91_0 l x) = decPMsg (encPMsg 1 m)) = true) → (VLe (vi (↑x : Int)) (vi (msgAt l m)))) ∧ ((decide (decPMsg (k91_0 l x) = decPMsg (encPMsg 1 m)) = false) → ((inK IntKind.i64 ((↑x : Int) + (1 : Int))) ∧ (∃ y : Nat, ((SLe (AS.mk [(0, encL (encMsg 1) 1 l), (1, encPMsg 1 m), (5, vi ((↑x : Int) + (1 : Int)))] []) (AS.mk [(0, encL (encMsg 1) 1 l), (1, encPMsg 1 m), (5, vi (↑y : Int))] [])) ∧ (((y ≤ List.length l) ∧ (∀ j : Nat, ((j < y) → (decide (List.getD l j default = m) = false)))) ∧ (List.length l - y < List.length l - x)))))))))) ∧ ((decide ((↑x : Int) < (↑(List.length l) : Int)) = false) → (VLe (vi (-1 : Int)) (vi (msgAt l m)))))))) := by
    delta k91_0; delta vi
    have hlen := hpre.1
    unfold maxLen at hlen
    refine ⟨⟨0, SLe.refl _, by omega, fun j hj => absurd hj (Nat.not_lt_zero j)⟩, ?_⟩
    rintro i ⟨hi, hj⟩
    refine ⟨fun h => ?_, fun h => ?_⟩
    · have hlt : i < l.length := by simpa using h
      simp only [Int.toNat_natCast, dec_encPMsg]
      refine ⟨⟨by omega, by omega⟩, ⟨VLe.refl _, VLe.refl _, bdL_get hpre hlt⟩, fun h2 => vle_int (idxF_some hlt hj h2).symm, fun h2 => ⟨inK64 (by omega), i + 1, SLe.refl _, ⟨by omega, fun j h3 => ?_⟩, by omega⟩⟩
      rcases Nat.lt_or_ge j i with h4 | h4
      · exact hj j h4
      · have : j = i := by omega
        subst this
        exact h2
    · have hge : i = l.length := by simp at h; omega
      exact vle_int (idxF_none fun j h3 => hj j (by omega)).symm
  exact Eq.mp (by kernel_rfl) key
theorem so91 : Sound Tryz.prog 91 sp91 := by
  refine sound_of_body hmix (pol := 0) Tryz.func91 rfl (by kernel_rfl) fun args bin ob r bout hDe hob => ?_
  unfold sp91 at hDe
  split at hDe
  · rename_i a0 a1
    cases hDe
    exact ⟨rfl, rfl, Nat.le_of_ble_eq_true (by kernel_rfl), cx91 ((decL decMsg) a0) (decPMsg a1), Eq.mp (by kernel_rfl) htt, Eq.mp (by kernel_rfl) da91, Eq.mp (by kernel_rfl) (noM_sound (P := Tryz.prog)), by kernel_rfl, [encL (encMsg 1) 1 (((decL decMsg) a0)), encPMsg 1 ((decPMsg a1))], args_of_vles (⟨hob.1, hob.2.1, trivial⟩), Eq.mp (by kernel_rfl) (bd91 ((decL decMsg) a0) (decPMsg a1) (hob.2.2))⟩
  · cases hDe

/-! ### spec.l8Refs -/
def pr90 (m : Msg) (n : Int) : Prop := m.bd
noncomputable def rs90 (m : Msg) (n : Int) : V := .bool (decide (refsBelow m n))
noncomputable def sp90 : FSpec := fun args bin => match args, bin with
  | [a0, .int .i64 a1], [] => some (VLe a0 (encPMsg 1 ((decPMsg a0))) ∧ pr90 (decPMsg a0) a1, rs90 (decPMsg a0) a1, [])
  | _, _ => none
noncomputable def in90_2 (m : Msg) (n : Int) : LoopInv :=
  ⟨Nat, fun i => ⟨[(0, encPMsg 1 m), (1, .int .i64 n), (5, .int .i64 i)], []⟩, fun i => i ≤ m.refs.length ∧ ∀ j, j < i → m.refs.getD j default < n, fun i => m.refs.length - i⟩
noncomputable def iv90 (m : Msg) (n : Int) : Nat → Option LoopInv := fun rg_ => match rg_ with
  | 2 => some (in90_2 m n)
  | _ => none
noncomputable def D90 : Nat → Option (Bool × FSpec) := lk []
theorem da90 : SoundAll Tryz.prog D90 := soundAll_nil
noncomputable def cx90 (m : Msg) (n : Int) : Cx := ⟨tt, D90, Tryz.f90.ntmps, [0, 1, 4, 5, 12, 23], [(2, ⟨[(0, none), (1, none), (5, none)], []⟩)], [], iv90 m n, [], noM, []⟩
theorem bd90 (m : Msg) (n : Int) (hpre : pr90 m n) : bodyP (cx90 m n) Tryz.f90 0 [encPMsg 1 (m), .int .i64 (n)] (fun rr => VLe rr (rs90 m n)) := by
  have key : ((∃ x : Nat, ((SLe (AS.mk [(0, encPMsg 1 m), (1, vi n), (5, vi (0 : Int))] []) (AS.mk [(0, encPMsg 1 m), (1, vi n), (5, vi (↑x : Int))] [])) ∧ ((x ≤ List.length (Msg.refs m)) ∧ (∀ j : Nat, ((j < x) → (List.getD (Msg.refs m) j default < n)))))) ∧ (∀ x : Nat, (((x ≤ List.length (Msg.refs m)) ∧ (∀ j : Nat, ((j < x) → (List.getD (Msg.refs m) j default < n)))) → (((decide ((↑x : Int) < (↑(List.length (Msg.refs m)) : Int)) = true) → ((((0 : Int) ≤ (↑x : Int)) ∧ ((↑x : Int) < (↑(List.length (Msg.refs m)) : Int))) ∧ (((decide (List.getD (Msg.refs m) (Int.toNat (↑x : Int)) default ≥ n) = true) → (VLe (V.bool false) (V.bool (decide (refsBelow m n))))) ∧ ((decide (List.getD (Msg.refs m) (Int.toNat (↑x : Int)) default ≥ n) = false) → ((inK IntKind.i64 ((↑x : Int) + (1 : Int))) ∧ (∃ y : Nat, ((SLe (AS.mk [(0, encPMsg 1 m), (1, vi n), (5, vi ((↑x : Int) + (1 : Int)))] []) (AS.mk [(0, encPMsg 1 m), (1, vi n), (5, vi (↑y : Int))] [])) ∧ (((y ≤ List.length (Msg.refs m)) ∧ (∀ j : Nat, ((j < y) → (List.getD (Msg.refs m) j default < n)))) ∧ (List.length (Msg.refs m) - y < List.length (Msg.refs m) - x))))))))) ∧ ((decide ((↑x : Int) < (↑(List.length (Msg.refs m)) : Int)) = false) → (VLe (V.bool true) (V.bool (decide (refsBelow m n))))))))) := by
    delta vi
    have hlen := hpre.2
    unfold maxLen at hlen
    refine ⟨⟨0, SLe.refl _, by omega, fun j hj => absurd hj (Nat.not_lt_zero j)⟩, ?_⟩
    rintro i ⟨hi, hj⟩
    refine ⟨fun h => ?_, fun h => ?_⟩
    · have hlt : i < m.refs.length := by simpa using h
      have hin : m.refs.getD i default ∈ m.refs := by simp [hlt]
      simp only [Int.toNat_natCast]
      refine ⟨⟨by omega, by omega⟩, fun h2 => ?_, fun h2 => ⟨inK64 (by omega), i + 1, SLe.refl _, ⟨by omega, fun j h3 => ?_⟩, by omega⟩⟩
      · have h3 := of_decide_eq_true h2
        have : ¬ refsBelow m n := fun hh => by
          have := hh _ hin
          omega
        exact vle_bool (by simp [this])
      · rcases Nat.lt_or_ge j i with h4 | h4
        · exact hj j h4
        · have : j = i := by omega
          subst this
          have h3 := of_decide_eq_false h2
          omega
    · have hge : i = m.refs.length := by simp at h; omega
      have : refsBelow m n := fun r hr => by
        obtain ⟨k, hk, rfl⟩ := List.getElem_of_mem hr
        have := hj k (by omega)
        simpa [hk] using this
      exact vle_bool (by simp [this])
  exact Eq.mp (by kernel_rfl) key
theorem so90 : Sound Tryz.prog 90 sp90 := by
  refine sound_of_body hmix (pol := 0) Tryz.func90 rfl (by kernel_rfl) fun args bin ob r bout hDe hob => ?_
  unfold sp90 at hDe
  split at hDe
  · rename_i a0 a1
    cases hDe
    exact ⟨rfl, rfl, Nat.le_of_ble_eq_true (by kernel_rfl), cx90 (decPMsg a0) a1, Eq.mp (by kernel_rfl) htt, Eq.mp (by kernel_rfl) da90, Eq.mp (by kernel_rfl) (noM_sound (P := Tryz.prog)), by kernel_rfl, [encPMsg 1 ((decPMsg a0)), .int .i64 (a1)], args_of_vles (⟨hob.1, VLe.refl _, trivial⟩), Eq.mp (by kernel_rfl) (bd90 (decPMsg a0) a1 (hob.2))⟩
  · cases hDe

theorem firstFault_step {e : Nat → Int} {i n : Nat} (h : e i = 0) : firstFault e i (n + 1) = firstFault e (i + 1) n := by simp [firstFault, h]
theorem firstFault_stop {e : Nat → Int} {i n : Nat} (h : e i ≠ 0) : firstFault e i (n + 1) = e i := by simp [firstFault, h]
theorem firstFault_from {e : Nat → Int} {i n : Nat} (hi : i < n) : firstFault e i (n - i) = if e i = 0 then firstFault e (i + 1) (n - (i + 1)) else e i := by
  have : n - i = (n - (i + 1)) + 1 := by omega
  rw [this]
  by_cases h : e i = 0
  · rw [firstFault_step h, if_pos h]
  · rw [firstFault_stop h, if_neg h]
theorem entry_code {f : Int} {l : List Msg} {i : Nat} (h : msgFault f (l.getD i default) ≠ 0) : entryFault f l i = msgFault f (l.getD i default) := by
  unfold entryFault; rw [if_pos h]
theorem entry_refs {f : Int} {l : List Msg} {i : Nat} (h : msgFault f (l.getD i default) = 0) (h2 : ¬ refsBelow (l.getD i default) i) : entryFault f l i = 4 := by
  unfold entryFault; rw [if_neg (not_not_intro h), if_pos h2]
theorem entry_taken {f : Int} {l : List Msg} {i : Nat} (h : msgFault f (l.getD i default) = 0) (h2 : refsBelow (l.getD i default) i) (h3 : l.getD i default ∈ l.take i) : entryFault f l i = 6 := by
  unfold entryFault; rw [if_neg (not_not_intro h), if_neg (not_not_intro h2), if_pos h3]
theorem entry_ok {f : Int} {l : List Msg} {i : Nat} (h : msgFault f (l.getD i default) = 0) (h2 : refsBelow (l.getD i default) i) (h3 : l.getD i default ∉ l.take i) : entryFault f l i = 0 := by
  unfold entryFault; rw [if_neg (not_not_intro h), if_neg (not_not_intro h2), if_neg h3]
/-- The first place of a message is its own, or it stands before. -/
theorem msgAt_own {l : List Msg} {i : Nat} (hi : i < l.length) : msgAt l (l.getD i default) = i ↔ l.getD i default ∉ l.take i := by
  constructor
  · intro h hm
    obtain ⟨k, hk, he⟩ := List.getElem_of_mem hm
    have hki : k < i := by simp at hk; omega
    have hkl : k < l.length := by omega
    unfold msgAt idxF at h
    cases hf : l.findIdx? (fun x => decide (x = l.getD i default)) with
    | none => rw [hf] at h; simp at h
    | some q =>
      rw [hf] at h
      have hq : q = i := by simp at h; omega
      subst hq
      obtain ⟨_, _, hno⟩ := List.findIdx?_eq_some_iff_getElem.1 hf
      have := hno k hki
      simp at he
      simp [he] at this
  · intro h
    unfold msgAt
    refine idxF_some hi (fun j hj => ?_) (by simp)
    have hjl : j < l.length := by omega
    have : l.getD j default ≠ l.getD i default := fun e => h (by
      rw [← e]
      have : l.getD j default = (l.take i)[j]'(by simp; omega) := by simp [hjl]
      rw [this]
      exact List.getElem_mem _)
    simpa using this

/-! ### spec.l8Ledger -/
def pr65 (f : Int) (l : List Msg) : Prop := okF f ∧ bdL l
noncomputable def rs65 (f : Int) (l : List Msg) : V := .int .i64 (ledgerFault f l)
noncomputable def sp65 : FSpec := fun args bin => match args, bin with
  | [.int .i64 a0, a1], [] => some (VLe a1 (encL (encMsg 1) 1 (((decL decMsg) a1))) ∧ pr65 a0 ((decL decMsg) a1), rs65 a0 ((decL decMsg) a1), [])
  | _, _ => none
noncomputable def in65_4 (f : Int) (l : List Msg) : LoopInv :=
  ⟨Nat, fun i => ⟨[(0, .int .i64 f), (1, encL (encMsg 1) 1 l), (5, .int .i64 i)], []⟩, fun i => i ≤ l.length ∧ firstFault (entryFault f l) 0 l.length = firstFault (entryFault f l) i (l.length - i), fun i => l.length - i⟩
noncomputable def iv65 (f : Int) (l : List Msg) : Nat → Option LoopInv := fun rg_ => match rg_ with
  | 4 => some (in65_4 f l)
  | _ => none
noncomputable def D65 : Nat → Option (Bool × FSpec) := lk [(89, (false, sp89)), (90, (false, sp90)), (91, (false, sp91))]
theorem da65 : SoundAll Tryz.prog D65 := soundAll_cons so89 (soundAll_cons so90 (soundAll_cons so91 (soundAll_nil)))
noncomputable def cx65 (f : Int) (l : List Msg) : Cx := ⟨tt, D65, Tryz.f65.ntmps, [0, 1, 4, 5, 6, 9, 13, 22, 29, 36], [(4, ⟨[(0, none), (1, none), (5, none)], []⟩)], [], iv65 f l, [], noM, []⟩
noncomputable def k65_0 (l : List Msg) (x : Nat) : V := (encPMsg 1 (List.getD l (Int.toNat (↑x : Int)) default))
theorem bd65 (f : Int) (l : List Msg) (hpre : pr65 f l) : bodyP (cx65 f l) Tryz.f65 0 [.int .i64 (f), encL (encMsg 1) 1 (l)] (fun rr => VLe rr (rs65 f l)) := by
  have key : (((decide ((↑(List.length l) : Int) > (240 : Int)) = true) → (VLe (vi (2 : Int)) (vi (ledgerFault f l)))) ∧ ((decide ((↑(List.length l) : Int) > (240 : Int)) = false) → ((∃ x : Nat, ((SLe (AS.mk [(0, vi f), (1, encL (encMsg 1) 1 l), (5, vi (0 : Int))] []) (AS.mk [(0, vi f), (1, encL (encMsg 1) 1 l), (5, vi (↑x : Int))] [])) ∧ ((x ≤ List.length l) ∧ (firstFault (entryFault f l) 0 (List.length l) = firstFault (entryFault f l) x (List.length l - x))))) ∧ (∀ x : Nat, (((x ≤ List.length l) ∧ (firstFault (entryFault f l) 0 (List.length l) = firstFault (entryFault f l) x (List.length l - x))) → (((decide ((↑x : Int) < (↑(List.length l) : Int)) = true) → ((((0 : Int) ≤ (↑x : Int)) ∧ ((↑x : Int) < (↑(List.length l) : Int))) ∧ (((VLe (k65_0 l x) (encPMsg 1 (decPMsg (k65_0 l x)))) ∧ (pr89 f (decPMsg (k65_0 l x)))) ∧ ((((msgFault f (decPMsg (k65_0 l x)) != (0 : Int)) = true) → (VLe (vi (msgFault f (decPMsg (k65_0 l x)))) (vi (ledgerFault f l)))) ∧ (((msgFault f (decPMsg (k65_0 l x)) != (0 : Int)) = false) → ((((0 : Int) ≤ (↑x : Int)) ∧ ((↑x : Int) < (↑(List.length l) : Int))) ∧ (((VLe (k65_0 l x) (encPMsg 1 (decPMsg (k65_0 l x)))) ∧ (pr90 (decPMsg (k65_0 l x)) (↑x : Int))) ∧ ((((!decide (refsBelow (decPMsg (k65_0 l x)) (↑x : Int))) = true) → (VLe (vi (4 : Int)) (vi (ledgerFault f l)))) ∧ (((!decide (refsBelow (decPMsg (k65_0 l x)) (↑x : Int))) = false) → ((((0 : Int) ≤ (↑x : Int)) ∧ ((↑x : Int) < (↑(List.length l) : Int))) ∧ (((VLe (encL (encMsg 1) 1 l) (encL (encMsg 1) 1 (decL decMsg (encL (encMsg 1) 1 l)))) ∧ ((VLe (k65_0 l x) (encPMsg 1 (decPMsg (k65_0 l x)))) ∧ (pr91 (decL decMsg (encL (encMsg 1) 1 l)) (decPMsg (k65_0 l x))))) ∧ ((((msgAt (decL decMsg (encL (encMsg 1) 1 l)) (decPMsg (k65_0 l x)) != (↑x : Int)) = true) → (VLe (vi (6 : Int)) (vi (ledgerFault f l)))) ∧ (((msgAt (decL decMsg (encL (encMsg 1) 1 l)) (decPMsg (k65_0 l x)) != (↑x : Int)) = false) → ((inK IntKind.i64 ((↑x : Int) + (1 : Int))) ∧ (∃ y : Nat, ((SLe (AS.mk [(0, vi f), (1, encL (encMsg 1) 1 l), (5, vi ((↑x : Int) + (1 : Int)))] []) (AS.mk [(0, vi f), (1, encL (encMsg 1) 1 l), (5, vi (↑y : Int))] [])) ∧ (((y ≤ List.length l) ∧ (firstFault (entryFault f l) 0 (List.length l) = firstFault (entryFault f l) y (List.length l - y))) ∧ (List.length l - y < List.length l - x)))))))))))))))))) ∧ ((decide ((↑x : Int) < (↑(List.length l) : Int)) = false) → (VLe (vi (0 : Int)) (vi (ledgerFault f l)))))))))) := by
    delta k65_0; delta vi
    obtain ⟨hf, hl⟩ := hpre
    have hlen := hl.1
    unfold maxLen at hlen
    refine ⟨fun h => ?_, fun h => ?_⟩
    · have h240 : 240 < l.length := by simp at h; omega
      refine vle_int ?_
      unfold ledgerFault
      rw [if_neg (not_not_intro hf), if_pos h240]
    · have h240 : ¬ 240 < l.length := by simp at h; omega
      have e : ledgerFault f l = firstFault (entryFault f l) 0 l.length := by
        unfold ledgerFault
        rw [if_neg (not_not_intro hf), if_neg h240]
      refine ⟨⟨0, SLe.refl _, by omega, rfl⟩, ?_⟩
      rintro i ⟨hi, hj⟩
      refine ⟨fun h => ?_, fun h => ?_⟩
      · have hlt : i < l.length := by simpa using h
        have hb := bdL_get hl hlt
        have hs := firstFault_from (e := entryFault f l) hlt
        simp only [Int.toNat_natCast, dec_encPMsg, decL_Msg]
        refine ⟨⟨by omega, by omega⟩, ⟨VLe.refl _, hf, hb⟩, fun h2 => ?_, fun h2 => ⟨⟨by omega, by omega⟩, ⟨VLe.refl _, hb⟩, fun h3 => ?_, fun h3 => ⟨⟨by omega, by omega⟩, ⟨VLe.refl _, VLe.refl _, hl⟩, fun h4 => ?_, fun h4 => ⟨inK64 (by omega), i + 1, SLe.refl _, ⟨by omega, ?_⟩, by omega⟩⟩⟩⟩
        · have hc : msgFault f (l.getD i default) ≠ 0 := by simpa using h2
          refine vle_int ?_
          rw [e, hj, hs, entry_code hc, if_neg hc]
        · have hc : msgFault f (l.getD i default) = 0 := by simpa using h2
          have hr : ¬ refsBelow (l.getD i default) i := by simpa using h3
          refine vle_int ?_
          rw [e, hj, hs, entry_refs hc hr, if_neg (by decide)]
        · have hc : msgFault f (l.getD i default) = 0 := by simpa using h2
          have hr : refsBelow (l.getD i default) i := by simpa using h3
          have ht : l.getD i default ∈ l.take i := Classical.not_not.1 fun hn => by
            have := (msgAt_own hlt).2 hn
            rw [this] at h4
            simp at h4
          refine vle_int ?_
          rw [e, hj, hs, entry_taken hc hr ht, if_neg (by decide)]
        · have hc : msgFault f (l.getD i default) = 0 := by simpa using h2
          have hr : refsBelow (l.getD i default) i := by simpa using h3
          have ht : l.getD i default ∉ l.take i := (msgAt_own hlt).1 (by simpa using h4)
          rw [hj, hs, entry_ok hc hr ht, if_pos rfl]
      · have hge : i = l.length := by simp at h; omega
        refine vle_int ?_
        rw [e, hj, hge, Nat.sub_self]
        rfl
  exact Eq.mp (by kernel_rfl) key
theorem so65 : Sound Tryz.prog 65 sp65 := by
  refine sound_of_body hmix (pol := 0) Tryz.func65 rfl (by kernel_rfl) fun args bin ob r bout hDe hob => ?_
  unfold sp65 at hDe
  split at hDe
  · rename_i a0 a1
    cases hDe
    exact ⟨rfl, rfl, Nat.le_of_ble_eq_true (by kernel_rfl), cx65 a0 ((decL decMsg) a1), Eq.mp (by kernel_rfl) htt, Eq.mp (by kernel_rfl) da65, Eq.mp (by kernel_rfl) (noM_sound (P := Tryz.prog)), by kernel_rfl, [.int .i64 (a0), encL (encMsg 1) 1 (((decL decMsg) a1))], args_of_vles (⟨VLe.refl _, hob.1, trivial⟩), Eq.mp (by kernel_rfl) (bd65 a0 ((decL decMsg) a1) (hob.2))⟩
  · cases hDe

/-! ### spec.l8Asked -/
def pr29 (f : Int) (l : List Msg) : Prop := bdL l
noncomputable def rs29 (f : Int) (l : List Msg) : V := .int .i64 (ledgerFault f l)
noncomputable def sp29 : FSpec := fun args bin => match args, bin with
  | [.int .i64 a0, a1], [] => some (VLe a1 (encL (encMsg 1) 1 (((decL decMsg) a1))) ∧ pr29 a0 ((decL decMsg) a1), rs29 a0 ((decL decMsg) a1), [])
  | _, _ => none
noncomputable def D29 : Nat → Option (Bool × FSpec) := lk [(64, (false, sp64)), (65, (false, sp65))]
theorem da29 : SoundAll Tryz.prog D29 := soundAll_cons so64 (soundAll_cons so65 (soundAll_nil))
noncomputable def cx29 (f : Int) (l : List Msg) : Cx := ⟨tt, D29, Tryz.f29.ntmps, [0, 1, 4, 7], [], [], fun _ => none, [], noM, []⟩
theorem bd29 (f : Int) (l : List Msg) (hpre : pr29 f l) : bodyP (cx29 f l) Tryz.f29 0 [.int .i64 (f), encL (encMsg 1) 1 (l)] (fun rr => VLe rr (rs29 f l)) := by
  have key : ((pr64 f) ∧ ((((!decide (okF f)) = true) → (VLe (vi (3 : Int)) (vi (ledgerFault f l)))) ∧ (((!decide (okF f)) = false) → (((VLe (encL (encMsg 1) 1 l) (encL (encMsg 1) 1 (decL decMsg (encL (encMsg 1) 1 l)))) ∧ (pr65 f (decL decMsg (encL (encMsg 1) 1 l)))) ∧ (VLe (vi (ledgerFault f (decL decMsg (encL (encMsg 1) 1 l)))) (vi (ledgerFault f l))))))) := by
    delta vi
    simp only [decL_Msg]
    refine ⟨trivial, fun h => ?_, fun h => ?_⟩
    · have hf : ¬ okF f := by simpa using h
      refine vle_int ?_
      unfold ledgerFault
      rw [if_pos hf]
    · have hf : okF f := by simpa using h
      exact ⟨⟨VLe.refl _, hf, hpre⟩, VLe.refl _⟩
  exact Eq.mp (by kernel_rfl) key
theorem so29 : Sound Tryz.prog 29 sp29 := by
  refine sound_of_body hmix (pol := 0) Tryz.func29 rfl (by kernel_rfl) fun args bin ob r bout hDe hob => ?_
  unfold sp29 at hDe
  split at hDe
  · rename_i a0 a1
    cases hDe
    exact ⟨rfl, rfl, Nat.le_of_ble_eq_true (by kernel_rfl), cx29 a0 ((decL decMsg) a1), Eq.mp (by kernel_rfl) htt, Eq.mp (by kernel_rfl) da29, Eq.mp (by kernel_rfl) (noM_sound (P := Tryz.prog)), by kernel_rfl, [.int .i64 (a0), encL (encMsg 1) 1 (((decL decMsg) a1))], args_of_vles (⟨VLe.refl _, hob.1, trivial⟩), Eq.mp (by kernel_rfl) (bd29 a0 ((decL decMsg) a1) (hob.2))⟩
  · cases hDe

/-! ### impl.LedgerFault -/
def pr27 (f : Int) (l : List Msg) : Prop := bdL l
noncomputable def rs27 (f : Int) (l : List Msg) : V := .int .i64 (ledgerFault f l)
noncomputable def sp27 : FSpec := fun args bin => match args, bin with
  | [.int .i64 a0, a1], [] => some (VLe a1 (encL (encMsg 1) 1 (((decL decMsg) a1))) ∧ pr27 a0 ((decL decMsg) a1), rs27 a0 ((decL decMsg) a1), [])
  | _, _ => none
noncomputable def in27_6 (f : Int) (l : List Msg) : LoopInv :=
  ⟨Nat, fun i => ⟨[(0, .int .i64 f), (1, encL (encMsg 1) 1 l), (16, encL (encMsg 1) 1 l), (17, .int .i64 l.length), (18, .int .i64 i)], []⟩, fun i => i ≤ l.length ∧ firstFault (entryFault f l) 0 l.length = firstFault (entryFault f l) i (l.length - i), fun i => l.length - i⟩
noncomputable def iv27 (f : Int) (l : List Msg) : Nat → Option LoopInv := fun rg_ => match rg_ with
  | 6 => some (in27_6 f l)
  | _ => none
noncomputable def D27 : Nat → Option (Bool × FSpec) := lk [(36, (false, sp36)), (54, (false, sp54)), (60, (false, sp60)), (61, (false, sp61))]
theorem da27 : SoundAll Tryz.prog D27 := soundAll_cons so36 (soundAll_cons so54 (soundAll_cons so60 (soundAll_cons so61 (soundAll_nil))))
noncomputable def cx27 (f : Int) (l : List Msg) : Cx := ⟨tt, D27, Tryz.f27.ntmps, [0, 1, 4, 5, 6, 7, 8, 12, 16, 17, 18, 19, 27, 29, 34], [(6, ⟨[(0, none), (1, none), (16, none), (17, none), (18, none)], []⟩)], [], iv27 f l, [], noM, []⟩
noncomputable def k27_0 (l : List Msg) (x : Nat) : V := (V.sl (Int.toNat (Option.getD (some (↑x : Int)) (↑(List.length l) : Int)) - 0) (match (motive := Option Int → Nat → V) none with | none => gL (encMsg 1) l | some val => dropg (gL (encMsg 1) l) 0) 1)
noncomputable def k27_1 (l : List Msg) (x : Nat) : V := (encMsg 1 (List.getD l (Int.toNat (↑x : Int)) default))
theorem bd27 (f : Int) (l : List Msg) (hpre : pr27 f l) : bodyP (cx27 f l) Tryz.f27 0 [.int .i64 (f), encL (encMsg 1) 1 (l)] (fun rr => VLe rr (rs27 f l)) := by
  have key : ((pr36 f) ∧ ((((!decide (okF f)) = true) → (VLe (vi (3 : Int)) (vi (ledgerFault f l)))) ∧ (((!decide (okF f)) = false) → (((decide ((↑(List.length l) : Int) > (240 : Int)) = true) → (VLe (vi (2 : Int)) (vi (ledgerFault f l)))) ∧ ((decide ((↑(List.length l) : Int) > (240 : Int)) = false) → ((∃ x : Nat, ((SLe (AS.mk [(0, vi f), (1, encL (encMsg 1) 1 l), (16, encL (encMsg 1) 1 l), (17, vi (↑(List.length l) : Int)), (18, vi (0 : Int))] []) (AS.mk [(0, vi f), (1, encL (encMsg 1) 1 l), (16, encL (encMsg 1) 1 l), (17, vi (↑(List.length l) : Int)), (18, vi (↑x : Int))] [])) ∧ ((x ≤ List.length l) ∧ (firstFault (entryFault f l) 0 (List.length l) = firstFault (entryFault f l) x (List.length l - x))))) ∧ (∀ x : Nat, (((x ≤ List.length l) ∧ (firstFault (entryFault f l) 0 (List.length l) = firstFault (entryFault f l) x (List.length l - x))) → (((decide ((↑x : Int) < (↑(List.length l) : Int)) = true) → ((((0 : Int) ≤ (↑x : Int)) ∧ ((↑x : Int) < (↑(List.length l) : Int))) ∧ (((VLe (k27_1 l x) (encMsg 1 (decMsg (k27_1 l x)))) ∧ (pr54 f (decMsg (k27_1 l x)))) ∧ ((((msgFault f (decMsg (k27_1 l x)) != (0 : Int)) = true) → (VLe (vi (msgFault f (decMsg (k27_1 l x)))) (vi (ledgerFault f l)))) ∧ (((msgFault f (decMsg (k27_1 l x)) != (0 : Int)) = false) → (((VLe (k27_1 l x) (encMsg 1 (decMsg (k27_1 l x)))) ∧ (pr60 (decMsg (k27_1 l x)) (↑x : Int))) ∧ ((((!decide (refsBelow (decMsg (k27_1 l x)) (↑x : Int))) = true) → (VLe (vi (4 : Int)) (vi (ledgerFault f l)))) ∧ (((!decide (refsBelow (decMsg (k27_1 l x)) (↑x : Int))) = false) → ((((0 : Int) ≤ Option.getD none (0 : Int)) ∧ ((Option.getD none (0 : Int) ≤ Option.getD (some (↑x : Int)) (↑(List.length l) : Int)) ∧ (Option.getD (some (↑x : Int)) (↑(List.length l) : Int) ≤ (↑(List.length l) : Int)))) ∧ ((sizedL 7 (List.length l) (gL (encMsg 1) l)) ∧ (((VLe (k27_0 l x) (encL (encMsg 1) 1 (decL decMsg (k27_0 l x)))) ∧ ((VLe (k27_1 l x) (encMsg 1 (decMsg (k27_1 l x)))) ∧ (pr61 (decL decMsg (k27_0 l x)) (decMsg (k27_1 l x))))) ∧ (((decide (msgAt (decL decMsg (k27_0 l x)) (decMsg (k27_1 l x)) ≥ (0 : Int)) = true) → (VLe (vi (6 : Int)) (vi (ledgerFault f l)))) ∧ ((decide (msgAt (decL decMsg (k27_0 l x)) (decMsg (k27_1 l x)) ≥ (0 : Int)) = false) → ((inK IntKind.i64 ((↑x : Int) + (1 : Int))) ∧ (∃ y : Nat, ((SLe (AS.mk [(0, vi f), (1, encL (encMsg 1) 1 l), (16, encL (encMsg 1) 1 l), (17, vi (↑(List.length l) : Int)), (18, vi ((↑x : Int) + (1 : Int)))] []) (AS.mk [(0, vi f), (1, encL (encMsg 1) 1 l), (16, encL (encMsg 1) 1 l), (17, vi (↑(List.length l) : Int)), (18, vi (↑y : Int))] [])) ∧ (((y ≤ List.length l) ∧ (firstFault (entryFault f l) 0 (List.length l) = firstFault (entryFault f l) y (List.length l - y))) ∧ (List.length l - y < List.length l - x)))))))))))))))))) ∧ ((decide ((↑x : Int) < (↑(List.length l) : Int)) = false) → (VLe (vi (0 : Int)) (vi (ledgerFault f l))))))))))))) := by
    delta k27_1; delta k27_0; delta vi
    have hl := hpre
    have hlen := hl.1
    unfold maxLen at hlen
    refine ⟨trivial, fun h => ?_, fun h => ?_⟩
    · have hf : ¬ okF f := by simpa using h
      refine vle_int ?_
      unfold ledgerFault
      rw [if_pos hf]
    · have hf : okF f := by simpa using h
      clear h
      refine ⟨fun h => ?_, fun h => ?_⟩
      · have h240 : 240 < l.length := by simp at h; omega
        refine vle_int ?_
        unfold ledgerFault
        rw [if_neg (not_not_intro hf), if_pos h240]
      · have h240 : ¬ 240 < l.length := by simp at h; omega
        have e : ledgerFault f l = firstFault (entryFault f l) 0 l.length := by
          unfold ledgerFault
          rw [if_neg (not_not_intro hf), if_neg h240]
        refine ⟨⟨0, SLe.refl _, by omega, rfl⟩, ?_⟩
        rintro i ⟨hi, hj⟩
        refine ⟨fun h => ?_, fun h => ?_⟩
        · have hlt : i < l.length := by simpa using h
          have hb := bdL_get hl hlt
          have hs := firstFault_from (e := entryFault f l) hlt
          have ed : decL decMsg (.sl i (gL (encMsg 1) l) 1) = l.take i := decL_take (dec_encMsg 1) 1 l i (by omega)
          have ev : VLe (.sl i (gL (encMsg 1) l) 1) (encL (encMsg 1) 1 (l.take i)) := vle_encL_eq (by simp; omega) (fun k hk => by
            have hk' : k < i := by simp at hk; omega
            have hkl : k < l.length := by omega
            rw [gL_lt _ _ _ hkl]
            simp) (Or.inl rfl)
          simp only [Int.toNat_natCast, dec_encMsg, Option.getD_none, Option.getD_some, Int.toNat_zero, Nat.sub_zero, ed]
          refine ⟨⟨by omega, by omega⟩, ⟨VLe.refl _, hf, hb⟩, fun h2 => ?_, fun h2 => ⟨⟨VLe.refl _, hb⟩, fun h3 => ?_, fun h3 => ⟨⟨by omega, by omega, by omega⟩, fun k hk => ⟨rfl, rfl⟩, ⟨ev, VLe.refl _, bdL_take hl i⟩, fun h4 => ?_, fun h4 => ⟨inK64 (by omega), i + 1, SLe.refl _, ⟨by omega, ?_⟩, by omega⟩⟩⟩⟩
          · have hc : msgFault f (l.getD i default) ≠ 0 := by simpa using h2
            refine vle_int ?_
            rw [e, hj, hs, entry_code hc, if_neg hc]
          · have hc : msgFault f (l.getD i default) = 0 := by simpa using h2
            have hr : ¬ refsBelow (l.getD i default) i := by simpa using h3
            refine vle_int ?_
            rw [e, hj, hs, entry_refs hc hr, if_neg (by decide)]
          · have hc : msgFault f (l.getD i default) = 0 := by simpa using h2
            have hr : refsBelow (l.getD i default) i := by simpa using h3
            have ht : l.getD i default ∈ l.take i := msgAt_nonneg.1 (of_decide_eq_true h4)
            refine vle_int ?_
            rw [e, hj, hs, entry_taken hc hr ht, if_neg (by decide)]
          · have hc : msgFault f (l.getD i default) = 0 := by simpa using h2
            have hr : refsBelow (l.getD i default) i := by simpa using h3
            have ht : l.getD i default ∉ l.take i := fun hm => (of_decide_eq_false h4) (msgAt_nonneg.2 hm)
            rw [hj, hs, entry_ok hc hr ht, if_pos rfl]
        · have hge : i = l.length := by simp at h; omega
          refine vle_int ?_
          rw [e, hj, hge, Nat.sub_self]
          rfl
  exact Eq.mp (by kernel_rfl) key
theorem so27 : Sound Tryz.prog 27 sp27 := by
  refine sound_of_body hmix (pol := 0) Tryz.func27 rfl (by kernel_rfl) fun args bin ob r bout hDe hob => ?_
  unfold sp27 at hDe
  split at hDe
  · rename_i a0 a1
    cases hDe
    exact ⟨rfl, rfl, Nat.le_of_ble_eq_true (by kernel_rfl), cx27 a0 ((decL decMsg) a1), Eq.mp (by kernel_rfl) htt, Eq.mp (by kernel_rfl) da27, Eq.mp (by kernel_rfl) (noM_sound (P := Tryz.prog)), by kernel_rfl, [.int .i64 (a0), encL (encMsg 1) 1 (((decL decMsg) a1))], args_of_vles (⟨VLe.refl _, hob.1, trivial⟩), Eq.mp (by kernel_rfl) (bd27 a0 ((decL decMsg) a1) (hob.2))⟩
  · cases hDe

/-- The size of a ledger that is taken off what is left. -/
def szSum : List Msg → Int → Int
  | [], left => left
  | m :: r, left => if szMsgF m left < 0 then -1 else szSum r (szMsgF m left)
def szMsgSF (l : List Msg) (left : Int) : Int := if left - l.length < 0 then -1 else szSum l (left - l.length)
theorem szSum_le : ∀ {l : List Msg} {left : Int}, -1 ≤ left → szSum l left ≤ left
  | [], left, h => Int.le_refl _
  | m :: r, left, h => by
    unfold szSum
    split
    · exact h
    · have := @szMsgF_le m left h
      have := @szSum_le r (szMsgF m left) (by omega)
      omega
theorem szSum_bd : ∀ {l : List Msg} {left : Int}, 0 ≤ szSum l left → ∀ m ∈ l, m.certs.length ≤ left ∧ m.refs.length ≤ left
  | [], left, h, m, hm => by simp at hm
  | x :: r, left, h, m, hm => by
    unfold szSum at h
    split at h
    · omega
    · rename_i h1
      rcases List.mem_cons.1 hm with rfl | hm
      · exact szMsgF_bd (by omega)
      · have h2 := szSum_bd h m hm
        have h3 := szMsgF_eq h1
        omega
theorem szMsgSF_bd {l : List Msg} {left : Int} (h : 0 ≤ szMsgSF l left) : l.length ≤ left ∧ ∀ m ∈ l, m.certs.length ≤ left ∧ m.refs.length ≤ left := by
  unfold szMsgSF at h
  split at h
  · omega
  · rename_i h1
    refine ⟨by omega, fun m hm => ?_⟩
    have := szSum_bd h m hm
    omega
theorem szMsgSF_le {l : List Msg} {left : Int} (h : -1 ≤ left) : szMsgSF l left ≤ left := by
  unfold szMsgSF
  split
  · exact h
  · have := @szSum_le l (left - l.length) (by omega)
    omega

end Go.Av
