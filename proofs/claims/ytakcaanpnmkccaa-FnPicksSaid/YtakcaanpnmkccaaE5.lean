/- What is wrong with a ledger: program and reference; the laws' helpers on ledgers. -/
import Derived.Test.YtakcaanpnmkccaaE2
import Derived.Test.YtakcaanpnmkccaaE3
namespace Go.Av
open Go.Proofs
set_option maxRecDepth 100000
set_option linter.unusedVariables false
set_option linter.unusedSimpArgs false

@[simp] theorem decPInt_ptr (k : IntKind) (n : Int) (o t : Nat) : decPInt (.ptr [.int k n] o t) = n := rfl
/-- A ledger whose lists are no longer than memory. -/
def bdL (l : List Msg) : Prop := l.length ≤ maxLen ∧ ∀ m ∈ l, m.bd
theorem bdL_get {l : List Msg} (h : bdL l) {i : Nat} (hi : i < l.length) : (l.getD i default).bd := h.2 _ (by simp [hi])
theorem bdL_take {l : List Msg} (h : bdL l) (i : Nat) : bdL (l.take i) := ⟨by have := h.1; simp; omega, fun m hm => h.2 m (List.mem_of_mem_take hm)⟩


/-! ### impl.refsTo$1 -/
def pr82 (r : Int) (most : Int) : Prop := True
noncomputable def rs82 (r : Int) (most : Int) : V := .bool (decide (most ≤ r))
noncomputable def sp82 : FSpec := fun args bin => match args, bin with
  | [.int .i64 a0, a1], [] => some (VLe a1 (encPInt 1 ((decPInt a1))) ∧ pr82 a0 (decPInt a1), rs82 a0 (decPInt a1), [])
  | _, _ => none
noncomputable def D82 : Nat → Option (Bool × FSpec) := lk []
theorem da82 : SoundAll Try.prog D82 := soundAll_nil
noncomputable def cx82 (r : Int) (most : Int) : Cx := ⟨tt, D82, Try.f82.ntmps, [0, 1, 3], [], [], fun _ => none, [], noM, []⟩
theorem bd82 (r : Int) (most : Int) (hpre : pr82 r most) : bodyP (cx82 r most) Try.f82 0 [.int .i64 (r), encPInt 1 (most)] (fun rr => VLe rr (rs82 r most)) := by
  have key :
      (VLe (V.bool (decide (r ≥ most))) (V.bool (decide (most ≤ r)))) := by
    exact VLe.refl _
  exact Eq.mp (by kernel_rfl) key
theorem so82 : Sound Try.prog 82 sp82 := by
  refine sound_of_body hmix (pol := 0) Try.func82 rfl (by kernel_rfl) fun args bin ob r bout hDe hob => ?_
  unfold sp82 at hDe
  split at hDe
  · rename_i a0 a1
    cases hDe
    exact ⟨rfl, rfl, Nat.le_of_ble_eq_true (by kernel_rfl), cx82 a0 (decPInt a1), Eq.mp (by kernel_rfl) htt, Eq.mp (by kernel_rfl) da82, Eq.mp (by kernel_rfl) (noM_sound (P := Try.prog)), by kernel_rfl, [.int .i64 (a0), encPInt 1 ((decPInt a1))], args_of_vles (⟨VLe.refl _, hob.1, trivial⟩), Eq.mp (by kernel_rfl) (bd82 a0 (decPInt a1) (hob.2))⟩
  · cases hDe

/-! ### slices.IndexFunc(()int64,int64)@impl.refsTo$1 -/
def pr78_82 (xs : List Int) (most : Int) : Prop := xs.length ≤ maxLen ∧ (True)
noncomputable def rs78_82 (xs : List Int) (most : Int) : V := .int .i64 (idxF (fun r => decide (most ≤ r)) xs)
noncomputable def sp78_82 : FSpec := fun args bin => match args, bin with
  | [a0, .fn 82 [a1]], [] => some (VLe a0 (encL encI 1 (((decL decI) a0))) ∧ VLe a1 (encPInt 1 ((decPInt a1))) ∧ pr78_82 ((decL decI) a0) (decPInt a1), rs78_82 ((decL decI) a0) (decPInt a1), [])
  | _, _ => none
noncomputable def in78_82_2 (xs : List Int) (most : Int) : LoopInv :=
  ⟨Nat, fun i => ⟨[(0, encL encI 1 xs), (1, .fn 82 [encPInt 1 (most)]), (7, .int .i64 xs.length), (8, .int .i64 i)], []⟩,
    fun i => i ≤ xs.length ∧ ∀ j, j < i → (fun r => decide (most ≤ r)) (xs.getD j default) = false, fun i => xs.length - i⟩
noncomputable def iv78_82 (xs : List Int) (most : Int) : Nat → Option LoopInv := fun rg_ => match rg_ with
  | 2 => some (in78_82_2 xs most)
  | _ => none
noncomputable def D78_82 : Nat → Option (Bool × FSpec) := lk [(82, (false, sp82))]
theorem da78_82 : SoundAll Try.prog D78_82 := soundAll_cons so82 (soundAll_nil)
noncomputable def cx78_82 (xs : List Int) (most : Int) : Cx := ⟨tt, D78_82, Try.f78.ntmps, [0, 1, 4, 5, 7, 8, 9, 16], [(2, ⟨[(0, none), (1, none), (7, none), (8, none)], []⟩)], [], iv78_82 xs most, [], noM, []⟩
theorem bd78_82 (xs : List Int) (most : Int) (hpre : pr78_82 xs most) : bodyP (cx78_82 xs most) Try.f78 0 [encL encI 1 (xs), .fn 82 [encPInt 1 (most)]] (fun rr => VLe rr (rs78_82 xs most)) := by
  have key :
      ((∃ x : Nat, ((SLe
   (AS.mk
   [(0, encL encI 1 xs), (1, V.fn (82 : FuncId) [encPInt 1 most]),
   (7, V.int IntKind.i64 (↑(List.length xs) : Int)), (8, V.int IntKind.i64 (0 : Int))]
   [])
   (AS.mk
   [(0, encL encI 1 xs), (1, V.fn (82 : FuncId) [encPInt 1 most]),
   (7, V.int IntKind.i64 (↑(List.length xs) : Int)), (8, V.int IntKind.i64 (↑x : Int))]
   [])) ∧
   ((x ≤ List.length xs) ∧
   (∀ j : Nat,
   ((j < x) →
   (decide (most ≤ List.getD xs j default) = false)))))) ∧
   (∀ x : Nat,
   (((x ≤ List.length xs) ∧
   (∀ j : Nat,
   ((j < x) →
   (decide (most ≤ List.getD xs j default) = false)))) →
   (((decide ((↑x : Int) < (↑(List.length xs) : Int)) = true) →
   ((((0 : Int) ≤ (↑x : Int)) ∧
   ((↑x : Int) < (↑(List.length xs) : Int))) ∧
   (((VLe (V.ptr [V.int IntKind.i64 most] 0 1)
   (encPInt 1 (decPInt (V.ptr [V.int IntKind.i64 most] 0 1)))) ∧
   (pr82 (List.getD xs (Int.toNat (↑x : Int)) default) (decPInt (V.ptr [V.int IntKind.i64 most] 0 1)))) ∧
   (((decide (decPInt (V.ptr [V.int IntKind.i64 most] 0 1) ≤ List.getD xs (Int.toNat (↑x : Int)) default) =
   true) →
   (VLe (V.int IntKind.i64 (↑x : Int)) (V.int IntKind.i64 (idxF (fun (r : Int) ↦ decide (most ≤ r)) xs)))) ∧
   ((decide (decPInt (V.ptr [V.int IntKind.i64 most] 0 1) ≤ List.getD xs (Int.toNat (↑x : Int)) default) =
   false) →
   ((inK IntKind.i64 ((↑x : Int) + (1 : Int))) ∧
   (∃ y : Nat, ((SLe
   (AS.mk
   [(0, encL encI 1 xs), (1, V.fn (82 : FuncId) [encPInt 1 most]),
   (7, V.int IntKind.i64 (↑(List.length xs) : Int)), (8, V.int IntKind.i64 ((↑x : Int) + (1 : Int)))]
   [])
   (AS.mk
   [(0, encL encI 1 xs), (1, V.fn (82 : FuncId) [encPInt 1 most]),
   (7, V.int IntKind.i64 (↑(List.length xs) : Int)), (8, V.int IntKind.i64 (↑y : Int))]
   [])) ∧
   (((y ≤ List.length xs) ∧
   (∀ j : Nat,
   ((j < y) →
   (decide (most ≤ List.getD xs j default) = false)))) ∧
   (List.length xs - y < List.length xs - x)))))))))) ∧
   ((decide ((↑x : Int) < (↑(List.length xs) : Int)) = false) →
   (VLe (V.int IntKind.i64 (-1 : Int)) (V.int IntKind.i64 (idxF (fun (r : Int) ↦ decide (most ≤ r)) xs)))))))) := by
    obtain ⟨hlen, hp⟩ := hpre
    unfold maxLen at hlen
    refine ⟨⟨0, SLe.refl _, by omega, fun j hj => absurd hj (Nat.not_lt_zero j)⟩, ?_⟩
    rintro i ⟨hi, hj⟩
    refine ⟨fun h => ?_, fun h => ?_⟩
    · have hlt : i < xs.length := by simpa using h
      have hin : xs.getD i default ∈ xs := by simp [hlt]
      simp only [Int.toNat_natCast, decI_int, dec_encPMsg, dec_encMsg, decL_Msg, dec_encPInt]
      refine ⟨⟨by omega, by omega⟩, ⟨VLe.refl _, trivial⟩, fun h2 => vle_int (idxF_some hlt hj h2).symm, fun h2 => ⟨inK64 (by omega), i + 1, SLe.refl _, ⟨by omega, fun j h3 => ?_⟩, by omega⟩⟩
      rcases Nat.lt_or_ge j i with h4 | h4
      · exact hj j h4
      · have : j = i := by omega
        subst this
        exact h2
    · have hge : i = xs.length := by simp at h; omega
      exact vle_int (idxF_none fun j h3 => hj j (by omega)).symm
  exact Eq.mp (by kernel_rfl) key
theorem so78_82 : Sound Try.prog 78 sp78_82 := by
  refine sound_of_body hmix (pol := 0) Try.func78 rfl (by kernel_rfl) fun args bin ob r bout hDe hob => ?_
  unfold sp78_82 at hDe
  split at hDe
  · rename_i a0 a1
    cases hDe
    exact ⟨rfl, rfl, Nat.le_of_ble_eq_true (by kernel_rfl), cx78_82 ((decL decI) a0) (decPInt a1), Eq.mp (by kernel_rfl) htt, Eq.mp (by kernel_rfl) da78_82, Eq.mp (by kernel_rfl) (noM_sound (P := Try.prog)), by kernel_rfl, [encL encI 1 (((decL decI) a0)), .fn 82 [encPInt 1 ((decPInt a1))]], args_of_vles (⟨hob.1, vle_fn ⟨hob.2.1, trivial⟩, trivial⟩), Eq.mp (by kernel_rfl) (bd78_82 ((decL decI) a0) (decPInt a1) (hob.2.2))⟩
  · cases hDe

/-! ### slices.ContainsFunc(()int64,int64)@impl.refsTo$1 -/
def pr50_82 (xs : List Int) (most : Int) : Prop := xs.length ≤ maxLen ∧ (True)
noncomputable def rs50_82 (xs : List Int) (most : Int) : V := .bool (xs.any (fun r => decide (most ≤ r)))
noncomputable def sp50_82 : FSpec := fun args bin => match args, bin with
  | [a0, .fn 82 [a1]], [] => some (VLe a0 (encL encI 1 (((decL decI) a0))) ∧ VLe a1 (encPInt 1 ((decPInt a1))) ∧ pr50_82 ((decL decI) a0) (decPInt a1), rs50_82 ((decL decI) a0) (decPInt a1), [])
  | _, _ => none
noncomputable def D50_82 : Nat → Option (Bool × FSpec) := lk [(78, (false, sp78_82))]
theorem da50_82 : SoundAll Try.prog D50_82 := soundAll_cons so78_82 (soundAll_nil)
noncomputable def cx50_82 (xs : List Int) (most : Int) : Cx := ⟨tt, D50_82, Try.f50.ntmps, [0, 1, 4], [], [], fun _ => none, [], noM, []⟩
theorem bd50_82 (xs : List Int) (most : Int) (hpre : pr50_82 xs most) : bodyP (cx50_82 xs most) Try.f50 0 [encL encI 1 (xs), .fn 82 [encPInt 1 (most)]] (fun rr => VLe rr (rs50_82 xs most)) := by
  have key :
      (((VLe (encL encI 1 xs) (encL encI 1 (decL decI (encL encI 1 xs)))) ∧
   ((VLe (V.ptr [V.int IntKind.i64 most] 0 1)
   (encPInt 1 (decPInt (V.ptr [V.int IntKind.i64 most] 0 1)))) ∧
   (pr78_82 (decL decI (encL encI 1 xs)) (decPInt (V.ptr [V.int IntKind.i64 most] 0 1))))) ∧
   (VLe
   (V.bool
   (decide
   (idxF (fun (r : Int) ↦ decide (decPInt (V.ptr [V.int IntKind.i64 most] 0 1) ≤ r))
   (decL decI (encL encI 1 xs)) ≥
   (0 : Int))))
   (V.bool (List.any xs fun (r : Int) ↦ decide (most ≤ r))))) := by
    simp only [decL_ints, decL_Cert, dec_encPMsg, dec_encMsg, decL_Msg, dec_encPInt]
    refine ⟨?_, vle_bool (idxF_nonneg _ _)⟩
    repeat' (first | exact VLe.refl _ | exact hpre | apply And.intro)
  exact Eq.mp (by kernel_rfl) key
theorem so50_82 : Sound Try.prog 50 sp50_82 := by
  refine sound_of_body hmix (pol := 0) Try.func50 rfl (by kernel_rfl) fun args bin ob r bout hDe hob => ?_
  unfold sp50_82 at hDe
  split at hDe
  · rename_i a0 a1
    cases hDe
    exact ⟨rfl, rfl, Nat.le_of_ble_eq_true (by kernel_rfl), cx50_82 ((decL decI) a0) (decPInt a1), Eq.mp (by kernel_rfl) htt, Eq.mp (by kernel_rfl) da50_82, Eq.mp (by kernel_rfl) (noM_sound (P := Try.prog)), by kernel_rfl, [encL encI 1 (((decL decI) a0)), .fn 82 [encPInt 1 ((decPInt a1))]], args_of_vles (⟨hob.1, vle_fn ⟨hob.2.1, trivial⟩, trivial⟩), Eq.mp (by kernel_rfl) (bd50_82 ((decL decI) a0) (decPInt a1) (hob.2.2))⟩
  · cases hDe

/-! ### impl.refsTo -/
def pr60 (m : Msg) (most : Int) : Prop := m.bd
noncomputable def rs60 (m : Msg) (most : Int) : V := .bool (decide (refsBelow m most))
noncomputable def sp60 : FSpec := fun args bin => match args, bin with
  | [a0, .int .i64 a1], [] => some (VLe a0 (encMsg 1 ((decMsg a0))) ∧ pr60 (decMsg a0) a1, rs60 (decMsg a0) a1, [])
  | _, _ => none
noncomputable def D60 : Nat → Option (Bool × FSpec) := lk [(50, (false, sp50_82))]
theorem da60 : SoundAll Try.prog D60 := soundAll_cons so50_82 (soundAll_nil)
noncomputable def cx60 (m : Msg) (most : Int) : Cx := ⟨tt, D60, Try.f60.ntmps, [0, 1, 2, 3, 4], [], [], fun _ => none, [], noM, []⟩
theorem bd60 (m : Msg) (most : Int) (hpre : pr60 m most) : bodyP (cx60 m most) Try.f60 0 [encMsg 1 (m), .int .i64 (most)] (fun rr => VLe rr (rs60 m most)) := by
  have key :
      (((VLe (encL encI 1 (Msg.refs m)) (encL encI 1 (decL decI (encL encI 1 (Msg.refs m))))) ∧
   ((VLe (V.ptr [V.int IntKind.i64 most] 0 1)
   (encPInt 1 (decPInt (V.ptr [V.int IntKind.i64 most] 0 1)))) ∧
   (pr50_82 (decL decI (encL encI 1 (Msg.refs m))) (decPInt (V.ptr [V.int IntKind.i64 most] 0 1))))) ∧
   (VLe
   (V.bool
   !List.any (decL decI (encL encI 1 (Msg.refs m))) fun (r : Int) ↦
   decide (decPInt (V.ptr [V.int IntKind.i64 most] 0 1) ≤ r))
   (V.bool (decide (refsBelow m most))))) := by
    simp only [decL_ints, decPInt_ptr]
    refine ⟨⟨VLe.refl _, VLe.refl _, hpre.2, trivial⟩, vle_bool ?_⟩
    rw [Bool.eq_iff_iff]
    simp only [Bool.not_eq_true', List.any_eq_false, decide_eq_true_eq, Int.not_le]
    constructor
    · intro h r hr
      have := of_decide_eq_false (Bool.eq_false_iff.2 (h r hr))
      omega
    · intro h x hx
      have h1 := h x hx
      exact Bool.eq_false_iff.1 (decide_eq_false (by omega))
  exact Eq.mp (by kernel_rfl) key
theorem so60 : Sound Try.prog 60 sp60 := by
  refine sound_of_body hmix (pol := 0) Try.func60 rfl (by kernel_rfl) fun args bin ob r bout hDe hob => ?_
  unfold sp60 at hDe
  split at hDe
  · rename_i a0 a1
    cases hDe
    exact ⟨rfl, rfl, Nat.le_of_ble_eq_true (by kernel_rfl), cx60 (decMsg a0) a1, Eq.mp (by kernel_rfl) htt, Eq.mp (by kernel_rfl) da60, Eq.mp (by kernel_rfl) (noM_sound (P := Try.prog)), by kernel_rfl, [encMsg 1 ((decMsg a0)), .int .i64 (a1)], args_of_vles (⟨hob.1, VLe.refl _, trivial⟩), Eq.mp (by kernel_rfl) (bd60 (decMsg a0) a1 (hob.2))⟩
  · cases hDe

/-! ### impl.msgAt$1 -/
def pr84 (x : Msg) (m : Msg) : Prop := x.bd
noncomputable def rs84 (x : Msg) (m : Msg) : V := .bool (decide (x = m))
noncomputable def sp84 : FSpec := fun args bin => match args, bin with
  | [a0, a1], [] => some (VLe a0 (encMsg 1 ((decMsg a0))) ∧ VLe a1 (encPMsg 1 ((decPMsg a1))) ∧ pr84 (decMsg a0) (decPMsg a1), rs84 (decMsg a0) (decPMsg a1), [])
  | _, _ => none
noncomputable def D84 : Nat → Option (Bool × FSpec) := lk [(85, (false, sp85))]
theorem da84 : SoundAll Try.prog D84 := soundAll_cons so85 (soundAll_nil)
noncomputable def cx84 (x : Msg) (m : Msg) : Cx := ⟨tt, D84, Try.f84.ntmps, [0, 1, 2, 3], [], [], fun _ => none, [], noM, []⟩
theorem bd84 (x : Msg) (m : Msg) (hpre : pr84 x m) : bodyP (cx84 x m) Try.f84 0 [encMsg 1 (x), encPMsg 1 (m)] (fun rr => VLe rr (rs84 x m)) := by
  have key :
      (((VLe (encMsg 1 x) (encMsg 1 (decMsg (encMsg 1 x)))) ∧
   ((VLe (encMsg 1 m) (encMsg 1 (decMsg (encMsg 1 m)))) ∧
   (pr85 (decMsg (encMsg 1 x)) (decMsg (encMsg 1 m))))) ∧
   (VLe (V.bool (decide (decMsg (encMsg 1 x) = decMsg (encMsg 1 m)))) (V.bool (decide (x = m))))) := by
    simp only [dec_encMsg]
    exact ⟨⟨VLe.refl _, VLe.refl _, hpre⟩, VLe.refl _⟩
  exact Eq.mp (by kernel_rfl) key
theorem so84 : Sound Try.prog 84 sp84 := by
  refine sound_of_body hmix (pol := 0) Try.func84 rfl (by kernel_rfl) fun args bin ob r bout hDe hob => ?_
  unfold sp84 at hDe
  split at hDe
  · rename_i a0 a1
    cases hDe
    exact ⟨rfl, rfl, Nat.le_of_ble_eq_true (by kernel_rfl), cx84 (decMsg a0) (decPMsg a1), Eq.mp (by kernel_rfl) htt, Eq.mp (by kernel_rfl) da84, Eq.mp (by kernel_rfl) (noM_sound (P := Try.prog)), by kernel_rfl, [encMsg 1 ((decMsg a0)), encPMsg 1 ((decPMsg a1))], args_of_vles (⟨hob.1, hob.2.1, trivial⟩), Eq.mp (by kernel_rfl) (bd84 (decMsg a0) (decPMsg a1) (hob.2.2))⟩
  · cases hDe

/-! ### slices.IndexFunc(()loop.example/g00369/impl.Msg,loop.example/g00369/impl.Msg)@impl.msgAt$1 -/
def pr83_84 (xs : List Msg) (m : Msg) : Prop := xs.length ≤ maxLen ∧ (∀ x ∈ xs, x.bd)
noncomputable def rs83_84 (xs : List Msg) (m : Msg) : V := .int .i64 (idxF (fun x => decide (x = m)) xs)
noncomputable def sp83_84 : FSpec := fun args bin => match args, bin with
  | [a0, .fn 84 [a1]], [] => some (VLe a0 (encL (encMsg 1) 1 (((decL decMsg) a0))) ∧ VLe a1 (encPMsg 1 ((decPMsg a1))) ∧ pr83_84 ((decL decMsg) a0) (decPMsg a1), rs83_84 ((decL decMsg) a0) (decPMsg a1), [])
  | _, _ => none
noncomputable def in83_84_2 (xs : List Msg) (m : Msg) : LoopInv :=
  ⟨Nat, fun i => ⟨[(0, encL (encMsg 1) 1 xs), (1, .fn 84 [encPMsg 1 (m)]), (7, .int .i64 xs.length), (8, .int .i64 i)], []⟩,
    fun i => i ≤ xs.length ∧ ∀ j, j < i → (fun x => decide (x = m)) (xs.getD j default) = false, fun i => xs.length - i⟩
noncomputable def iv83_84 (xs : List Msg) (m : Msg) : Nat → Option LoopInv := fun rg_ => match rg_ with
  | 2 => some (in83_84_2 xs m)
  | _ => none
noncomputable def D83_84 : Nat → Option (Bool × FSpec) := lk [(84, (false, sp84))]
theorem da83_84 : SoundAll Try.prog D83_84 := soundAll_cons so84 (soundAll_nil)
noncomputable def cx83_84 (xs : List Msg) (m : Msg) : Cx := ⟨tt, D83_84, Try.f83.ntmps, [0, 1, 4, 5, 7, 8, 9, 16], [(2, ⟨[(0, none), (1, none), (7, none), (8, none)], []⟩)], [], iv83_84 xs m, [], noM, []⟩
theorem bd83_84 (xs : List Msg) (m : Msg) (hpre : pr83_84 xs m) : bodyP (cx83_84 xs m) Try.f83 0 [encL (encMsg 1) 1 (xs), .fn 84 [encPMsg 1 (m)]] (fun rr => VLe rr (rs83_84 xs m)) := by
  have key :
      ((∃ x : Nat, ((SLe
   (AS.mk
   [(0, encL (encMsg 1) 1 xs), (1, V.fn (84 : FuncId) [encPMsg 1 m]),
   (7, V.int IntKind.i64 (↑(List.length xs) : Int)), (8, V.int IntKind.i64 (0 : Int))]
   [])
   (AS.mk
   [(0, encL (encMsg 1) 1 xs), (1, V.fn (84 : FuncId) [encPMsg 1 m]),
   (7, V.int IntKind.i64 (↑(List.length xs) : Int)), (8, V.int IntKind.i64 (↑x : Int))]
   [])) ∧
   ((x ≤ List.length xs) ∧
   (∀ j : Nat,
   ((j < x) →
   (decide (List.getD xs j default = m) = false)))))) ∧
   (∀ x : Nat,
   (((x ≤ List.length xs) ∧
   (∀ j : Nat,
   ((j < x) →
   (decide (List.getD xs j default = m) = false)))) →
   (((decide ((↑x : Int) < (↑(List.length xs) : Int)) = true) →
   ((((0 : Int) ≤ (↑x : Int)) ∧
   ((↑x : Int) < (↑(List.length xs) : Int))) ∧
   (((VLe (encMsg 1 (List.getD xs (Int.toNat (↑x : Int)) default))
   (encMsg 1 (decMsg (encMsg 1 (List.getD xs (Int.toNat (↑x : Int)) default))))) ∧
   ((VLe (encPMsg 1 m) (encPMsg 1 (decPMsg (encPMsg 1 m)))) ∧
   (pr84 (decMsg (encMsg 1 (List.getD xs (Int.toNat (↑x : Int)) default))) (decPMsg (encPMsg 1 m))))) ∧
   (((decide (decMsg (encMsg 1 (List.getD xs (Int.toNat (↑x : Int)) default)) = decPMsg (encPMsg 1 m)) = true) →
   (VLe (V.int IntKind.i64 (↑x : Int)) (V.int IntKind.i64 (idxF (fun (x : Msg) ↦ decide (x = m)) xs)))) ∧
   ((decide (decMsg (encMsg 1 (List.getD xs (Int.toNat (↑x : Int)) default)) = decPMsg (encPMsg 1 m)) = false) →
   ((inK IntKind.i64 ((↑x : Int) + (1 : Int))) ∧
   (∃ y : Nat, ((SLe
   (AS.mk
   [(0, encL (encMsg 1) 1 xs), (1, V.fn (84 : FuncId) [encPMsg 1 m]),
   (7, V.int IntKind.i64 (↑(List.length xs) : Int)), (8, V.int IntKind.i64 ((↑x : Int) + (1 : Int)))]
   [])
   (AS.mk
   [(0, encL (encMsg 1) 1 xs), (1, V.fn (84 : FuncId) [encPMsg 1 m]),
   (7, V.int IntKind.i64 (↑(List.length xs) : Int)), (8, V.int IntKind.i64 (↑y : Int))]
   [])) ∧
   (((y ≤ List.length xs) ∧
   (∀ j : Nat,
   ((j < y) →
   (decide (List.getD xs j default = m) = false)))) ∧
   (List.length xs - y < List.length xs - x)))))))))) ∧
   ((decide ((↑x : Int) < (↑(List.length xs) : Int)) = false) →
   (VLe (V.int IntKind.i64 (-1 : Int)) (V.int IntKind.i64 (idxF (fun (x : Msg) ↦ decide (x = m)) xs)))))))) := by
    obtain ⟨hlen, hp⟩ := hpre
    unfold maxLen at hlen
    refine ⟨⟨0, SLe.refl _, by omega, fun j hj => absurd hj (Nat.not_lt_zero j)⟩, ?_⟩
    rintro i ⟨hi, hj⟩
    refine ⟨fun h => ?_, fun h => ?_⟩
    · have hlt : i < xs.length := by simpa using h
      have hin : xs.getD i default ∈ xs := by simp [hlt]
      simp only [Int.toNat_natCast, dec_encMsg, dec_encPMsg, dec_encMsg, decL_Msg, dec_encPInt]
      refine ⟨⟨by omega, by omega⟩, ⟨VLe.refl _, VLe.refl _, hp _ hin⟩, fun h2 => vle_int (idxF_some hlt hj h2).symm, fun h2 => ⟨inK64 (by omega), i + 1, SLe.refl _, ⟨by omega, fun j h3 => ?_⟩, by omega⟩⟩
      rcases Nat.lt_or_ge j i with h4 | h4
      · exact hj j h4
      · have : j = i := by omega
        subst this
        exact h2
    · have hge : i = xs.length := by simp at h; omega
      exact vle_int (idxF_none fun j h3 => hj j (by omega)).symm
  exact Eq.mp (by kernel_rfl) key
theorem so83_84 : Sound Try.prog 83 sp83_84 := by
  refine sound_of_body hmix (pol := 0) Try.func83 rfl (by kernel_rfl) fun args bin ob r bout hDe hob => ?_
  unfold sp83_84 at hDe
  split at hDe
  · rename_i a0 a1
    cases hDe
    exact ⟨rfl, rfl, Nat.le_of_ble_eq_true (by kernel_rfl), cx83_84 ((decL decMsg) a0) (decPMsg a1), Eq.mp (by kernel_rfl) htt, Eq.mp (by kernel_rfl) da83_84, Eq.mp (by kernel_rfl) (noM_sound (P := Try.prog)), by kernel_rfl, [encL (encMsg 1) 1 (((decL decMsg) a0)), .fn 84 [encPMsg 1 ((decPMsg a1))]], args_of_vles (⟨hob.1, vle_fn ⟨hob.2.1, trivial⟩, trivial⟩), Eq.mp (by kernel_rfl) (bd83_84 ((decL decMsg) a0) (decPMsg a1) (hob.2.2))⟩
  · cases hDe

/-! ### impl.msgAt -/
def pr61 (l : List Msg) (m : Msg) : Prop := bdL l
noncomputable def rs61 (l : List Msg) (m : Msg) : V := .int .i64 (msgAt l m)
noncomputable def sp61 : FSpec := fun args bin => match args, bin with
  | [a0, a1], [] => some (VLe a0 (encL (encMsg 1) 1 (((decL decMsg) a0))) ∧ VLe a1 (encMsg 1 ((decMsg a1))) ∧ pr61 ((decL decMsg) a0) (decMsg a1), rs61 ((decL decMsg) a0) (decMsg a1), [])
  | _, _ => none
noncomputable def D61 : Nat → Option (Bool × FSpec) := lk [(83, (false, sp83_84))]
theorem da61 : SoundAll Try.prog D61 := soundAll_cons so83_84 (soundAll_nil)
noncomputable def cx61 (l : List Msg) (m : Msg) : Cx := ⟨tt, D61, Try.f61.ntmps, [0, 1, 3, 4], [], [], fun _ => none, [], noM, []⟩
theorem bd61 (l : List Msg) (m : Msg) (hpre : pr61 l m) : bodyP (cx61 l m) Try.f61 0 [encL (encMsg 1) 1 (l), encMsg 1 (m)] (fun rr => VLe rr (rs61 l m)) := by
  have key :
      (((VLe (encL (encMsg 1) 1 l)
   (encL (encMsg 1) 1 (decL decMsg (encL (encMsg 1) 1 l)))) ∧
   ((VLe (encPMsg 1 m) (encPMsg 1 (decPMsg (encPMsg 1 m)))) ∧
   (pr83_84 (decL decMsg (encL (encMsg 1) 1 l)) (decPMsg (encPMsg 1 m))))) ∧
   (VLe
   (V.int IntKind.i64
   (idxF (fun (x : Msg) ↦ decide (x = decPMsg (encPMsg 1 m)))
   (decL decMsg (encL (encMsg 1) 1 l))))
   (V.int IntKind.i64 (msgAt l m)))) := by
    simp only [decL_Msg, dec_encPMsg]
    exact ⟨⟨VLe.refl _, VLe.refl _, hpre⟩, VLe.refl _⟩
  exact Eq.mp (by kernel_rfl) key
theorem so61 : Sound Try.prog 61 sp61 := by
  refine sound_of_body hmix (pol := 0) Try.func61 rfl (by kernel_rfl) fun args bin ob r bout hDe hob => ?_
  unfold sp61 at hDe
  split at hDe
  · rename_i a0 a1
    cases hDe
    exact ⟨rfl, rfl, Nat.le_of_ble_eq_true (by kernel_rfl), cx61 ((decL decMsg) a0) (decMsg a1), Eq.mp (by kernel_rfl) htt, Eq.mp (by kernel_rfl) da61, Eq.mp (by kernel_rfl) (noM_sound (P := Try.prog)), by kernel_rfl, [encL (encMsg 1) 1 (((decL decMsg) a0)), encMsg 1 ((decMsg a1))], args_of_vles (⟨hob.1, hob.2.1, trivial⟩), Eq.mp (by kernel_rfl) (bd61 ((decL decMsg) a0) (decMsg a1) (hob.2.2))⟩
  · cases hDe

/-! ### spec.l8At -/
def pr57 (l : List Msg) (m : Msg) : Prop := bdL l
noncomputable def rs57 (l : List Msg) (m : Msg) : V := .int .i64 (msgAt l m)
noncomputable def sp57 : FSpec := fun args bin => match args, bin with
  | [a0, a1], [] => some (VLe a0 (encL (encMsg 1) 1 (((decL decMsg) a0))) ∧ VLe a1 (encPMsg 1 ((decPMsg a1))) ∧ pr57 ((decL decMsg) a0) (decPMsg a1), rs57 ((decL decMsg) a0) (decPMsg a1), [])
  | _, _ => none
noncomputable def in57_2 (l : List Msg) (m : Msg) : LoopInv :=
  ⟨Nat, fun i => ⟨[(0, encL (encMsg 1) 1 l), (1, encPMsg 1 m), (5, .int .i64 i)], []⟩, fun i => i ≤ l.length ∧ ∀ j, j < i → (fun x => decide (x = m)) (l.getD j default) = false, fun i => l.length - i⟩
noncomputable def iv57 (l : List Msg) (m : Msg) : Nat → Option LoopInv := fun rg_ => match rg_ with
  | 2 => some (in57_2 l m)
  | _ => none
noncomputable def D57 : Nat → Option (Bool × FSpec) := lk [(80, (false, sp80))]
theorem da57 : SoundAll Try.prog D57 := soundAll_cons so80 (soundAll_nil)
noncomputable def cx57 (l : List Msg) (m : Msg) : Cx := ⟨tt, D57, Try.f57.ntmps, [0, 1, 4, 5, 9, 16], [(2, ⟨[(0, none), (1, none), (5, none)], []⟩)], [], iv57 l m, [], noM, []⟩
theorem bd57 (l : List Msg) (m : Msg) (hpre : pr57 l m) : bodyP (cx57 l m) Try.f57 0 [encL (encMsg 1) 1 (l), encPMsg 1 (m)] (fun rr => VLe rr (rs57 l m)) := by
  have key :
      ((∃ x : Nat, ((SLe
   (AS.mk
   [(0, encL (encMsg 1) 1 l), (1, encPMsg 1 m),
   (5, V.int IntKind.i64 (0 : Int))]
   [])
   (AS.mk
   [(0, encL (encMsg 1) 1 l), (1, encPMsg 1 m),
   (5, V.int IntKind.i64 (↑x : Int))]
   [])) ∧
   ((x ≤ List.length l) ∧
   (∀ j : Nat,
   ((j < x) →
   (decide (List.getD l j default = m) = false)))))) ∧
   (∀ x : Nat,
   (((x ≤ List.length l) ∧
   (∀ j : Nat,
   ((j < x) →
   (decide (List.getD l j default = m) = false)))) →
   (((decide ((↑x : Int) < (↑(List.length l) : Int)) = true) →
   ((((0 : Int) ≤ (↑x : Int)) ∧
   ((↑x : Int) < (↑(List.length l) : Int))) ∧
   (((VLe (encPMsg 1 (List.getD l (Int.toNat (↑x : Int)) default))
   (encPMsg 1 (decPMsg (encPMsg 1 (List.getD l (Int.toNat (↑x : Int)) default))))) ∧
   ((VLe (encPMsg 1 m) (encPMsg 1 (decPMsg (encPMsg 1 m)))) ∧
   (pr80 (decPMsg (encPMsg 1 (List.getD l (Int.toNat (↑x : Int)) default))) (decPMsg (encPMsg 1 m))))) ∧
   (((decide (decPMsg (encPMsg 1 (List.getD l (Int.toNat (↑x : Int)) default)) = decPMsg (encPMsg 1 m)) = true) →
   (VLe (V.int IntKind.i64 (↑x : Int)) (V.int IntKind.i64 (msgAt l m)))) ∧
   ((decide (decPMsg (encPMsg 1 (List.getD l (Int.toNat (↑x : Int)) default)) = decPMsg (encPMsg 1 m)) =
   false) →
   ((inK IntKind.i64 ((↑x : Int) + (1 : Int))) ∧
   (∃ y : Nat, ((SLe
   (AS.mk
   [(0, encL (encMsg 1) 1 l), (1, encPMsg 1 m),
   (5, V.int IntKind.i64 ((↑x : Int) + (1 : Int)))]
   [])
   (AS.mk
   [(0, encL (encMsg 1) 1 l), (1, encPMsg 1 m),
   (5, V.int IntKind.i64 (↑y : Int))]
   [])) ∧
   (((y ≤ List.length l) ∧
   (∀ j : Nat,
   ((j < y) →
   (decide (List.getD l j default = m) = false)))) ∧
   (List.length l - y < List.length l - x)))))))))) ∧
   ((decide ((↑x : Int) < (↑(List.length l) : Int)) = false) →
   (VLe (V.int IntKind.i64 (-1 : Int)) (V.int IntKind.i64 (msgAt l m)))))))) := by
    have hlen := hpre.1
    unfold maxLen at hlen
    refine ⟨⟨0, SLe.refl _, by omega, fun j hj => absurd hj (Nat.not_lt_zero j)⟩, ?_⟩
    rintro i ⟨hi, hj⟩
    refine ⟨fun h => ?_, fun h => ?_⟩
    · have hlt : i < l.length := by simpa using h
      simp only [Int.toNat_natCast, dec_encPMsg]
      refine ⟨⟨by omega, by omega⟩, ⟨VLe.refl _, VLe.refl _, bdL_get hpre hlt⟩, fun h2 => vle_int (idxF_some hlt hj h2).symm, fun h2 => ⟨inK64 (by omega), i + 1, SLe.refl _, ⟨by omega, fun j h3 => ?_⟩, by omega⟩⟩
      rcases Nat.lt_or_ge j i with h4 | h4
      · exact hj j h4
      · have : j = i := by omega
        subst this
        exact h2
    · have hge : i = l.length := by simp at h; omega
      exact vle_int (idxF_none fun j h3 => hj j (by omega)).symm
  exact Eq.mp (by kernel_rfl) key
theorem so57 : Sound Try.prog 57 sp57 := by
  refine sound_of_body hmix (pol := 0) Try.func57 rfl (by kernel_rfl) fun args bin ob r bout hDe hob => ?_
  unfold sp57 at hDe
  split at hDe
  · rename_i a0 a1
    cases hDe
    exact ⟨rfl, rfl, Nat.le_of_ble_eq_true (by kernel_rfl), cx57 ((decL decMsg) a0) (decPMsg a1), Eq.mp (by kernel_rfl) htt, Eq.mp (by kernel_rfl) da57, Eq.mp (by kernel_rfl) (noM_sound (P := Try.prog)), by kernel_rfl, [encL (encMsg 1) 1 (((decL decMsg) a0)), encPMsg 1 ((decPMsg a1))], args_of_vles (⟨hob.1, hob.2.1, trivial⟩), Eq.mp (by kernel_rfl) (bd57 ((decL decMsg) a0) (decPMsg a1) (hob.2.2))⟩
  · cases hDe

/-! ### spec.l8Refs -/
def pr89 (m : Msg) (n : Int) : Prop := m.bd
noncomputable def rs89 (m : Msg) (n : Int) : V := .bool (decide (refsBelow m n))
noncomputable def sp89 : FSpec := fun args bin => match args, bin with
  | [a0, .int .i64 a1], [] => some (VLe a0 (encPMsg 1 ((decPMsg a0))) ∧ pr89 (decPMsg a0) a1, rs89 (decPMsg a0) a1, [])
  | _, _ => none
noncomputable def in89_2 (m : Msg) (n : Int) : LoopInv :=
  ⟨Nat, fun i => ⟨[(0, encPMsg 1 m), (1, .int .i64 n), (5, .int .i64 i)], []⟩, fun i => i ≤ m.refs.length ∧ ∀ j, j < i → m.refs.getD j default < n, fun i => m.refs.length - i⟩
noncomputable def iv89 (m : Msg) (n : Int) : Nat → Option LoopInv := fun rg_ => match rg_ with
  | 2 => some (in89_2 m n)
  | _ => none
noncomputable def D89 : Nat → Option (Bool × FSpec) := lk []
theorem da89 : SoundAll Try.prog D89 := soundAll_nil
noncomputable def cx89 (m : Msg) (n : Int) : Cx := ⟨tt, D89, Try.f89.ntmps, [0, 1, 4, 5, 12, 23], [(2, ⟨[(0, none), (1, none), (5, none)], []⟩)], [], iv89 m n, [], noM, []⟩
theorem bd89 (m : Msg) (n : Int) (hpre : pr89 m n) : bodyP (cx89 m n) Try.f89 0 [encPMsg 1 (m), .int .i64 (n)] (fun rr => VLe rr (rs89 m n)) := by
  have key :
      ((∃ x : Nat, ((SLe
   (AS.mk [(0, encPMsg 1 m), (1, V.int IntKind.i64 n), (5, V.int IntKind.i64 (0 : Int))]
   [])
   (AS.mk [(0, encPMsg 1 m), (1, V.int IntKind.i64 n), (5, V.int IntKind.i64 (↑x : Int))]
   [])) ∧
   ((x ≤ List.length (Msg.refs m)) ∧
   (∀ j : Nat,
   ((j < x) →
   (List.getD (Msg.refs m) j default < n)))))) ∧
   (∀ x : Nat,
   (((x ≤ List.length (Msg.refs m)) ∧
   (∀ j : Nat,
   ((j < x) →
   (List.getD (Msg.refs m) j default < n)))) →
   (((decide ((↑x : Int) < (↑(List.length (Msg.refs m)) : Int)) = true) →
   ((((0 : Int) ≤ (↑x : Int)) ∧
   ((↑x : Int) < (↑(List.length (Msg.refs m)) : Int))) ∧
   (((decide (List.getD (Msg.refs m) (Int.toNat (↑x : Int)) default ≥ n) = true) →
   (VLe (V.bool false) (V.bool (decide (refsBelow m n))))) ∧
   ((decide (List.getD (Msg.refs m) (Int.toNat (↑x : Int)) default ≥ n) = false) →
   ((inK IntKind.i64 ((↑x : Int) + (1 : Int))) ∧
   (∃ y : Nat, ((SLe
   (AS.mk
   [(0, encPMsg 1 m), (1, V.int IntKind.i64 n),
   (5, V.int IntKind.i64 ((↑x : Int) + (1 : Int)))]
   [])
   (AS.mk [(0, encPMsg 1 m), (1, V.int IntKind.i64 n), (5, V.int IntKind.i64 (↑y : Int))]
   [])) ∧
   (((y ≤ List.length (Msg.refs m)) ∧
   (∀ j : Nat,
   ((j < y) →
   (List.getD (Msg.refs m) j default < n)))) ∧
   (List.length (Msg.refs m) - y < List.length (Msg.refs m) - x))))))))) ∧
   ((decide ((↑x : Int) < (↑(List.length (Msg.refs m)) : Int)) = false) →
   (VLe (V.bool true) (V.bool (decide (refsBelow m n))))))))) := by
    have hlen := hpre.2
    unfold maxLen at hlen
    refine ⟨⟨0, SLe.refl _, by omega, fun j hj => absurd hj (Nat.not_lt_zero j)⟩, ?_⟩
    rintro i ⟨hi, hj⟩
    refine ⟨fun h => ?_, fun h => ?_⟩
    · have hlt : i < m.refs.length := by simpa using h
      have hin : m.refs.getD i default ∈ m.refs := by simp [hlt]
      simp only [Int.toNat_natCast]
      refine ⟨⟨by omega, by omega⟩, fun h2 => ?_, fun h2 => ⟨inK64 (by omega), i + 1, SLe.refl _, ⟨by omega, fun j h3 => ?_⟩, by omega⟩⟩
      · have h3 := of_decide_eq_true h2
        have : ¬ refsBelow m n := fun hh => by
          have := hh _ hin
          omega
        exact vle_bool (by simp [this])
      · rcases Nat.lt_or_ge j i with h4 | h4
        · exact hj j h4
        · have : j = i := by omega
          subst this
          have h3 := of_decide_eq_false h2
          omega
    · have hge : i = m.refs.length := by simp at h; omega
      have : refsBelow m n := fun r hr => by
        obtain ⟨k, hk, rfl⟩ := List.getElem_of_mem hr
        have := hj k (by omega)
        simpa [hk] using this
      exact vle_bool (by simp [this])
  exact Eq.mp (by kernel_rfl) key
theorem so89 : Sound Try.prog 89 sp89 := by
  refine sound_of_body hmix (pol := 0) Try.func89 rfl (by kernel_rfl) fun args bin ob r bout hDe hob => ?_
  unfold sp89 at hDe
  split at hDe
  · rename_i a0 a1
    cases hDe
    exact ⟨rfl, rfl, Nat.le_of_ble_eq_true (by kernel_rfl), cx89 (decPMsg a0) a1, Eq.mp (by kernel_rfl) htt, Eq.mp (by kernel_rfl) da89, Eq.mp (by kernel_rfl) (noM_sound (P := Try.prog)), by kernel_rfl, [encPMsg 1 ((decPMsg a0)), .int .i64 (a1)], args_of_vles (⟨hob.1, VLe.refl _, trivial⟩), Eq.mp (by kernel_rfl) (bd89 (decPMsg a0) a1 (hob.2))⟩
  · cases hDe

theorem firstFault_step {e : Nat → Int} {i n : Nat} (h : e i = 0) : firstFault e i (n + 1) = firstFault e (i + 1) n := by simp [firstFault, h]
theorem firstFault_stop {e : Nat → Int} {i n : Nat} (h : e i ≠ 0) : firstFault e i (n + 1) = e i := by simp [firstFault, h]
theorem firstFault_from {e : Nat → Int} {i n : Nat} (hi : i < n) : firstFault e i (n - i) = if e i = 0 then firstFault e (i + 1) (n - (i + 1)) else e i := by
  have : n - i = (n - (i + 1)) + 1 := by omega
  rw [this]
  by_cases h : e i = 0
  · rw [firstFault_step h, if_pos h]
  · rw [firstFault_stop h, if_neg h]
theorem entry_code {f : Int} {l : List Msg} {i : Nat} (h : msgFault f (l.getD i default) ≠ 0) : entryFault f l i = msgFault f (l.getD i default) := by
  unfold entryFault; rw [if_pos h]
theorem entry_refs {f : Int} {l : List Msg} {i : Nat} (h : msgFault f (l.getD i default) = 0) (h2 : ¬ refsBelow (l.getD i default) i) : entryFault f l i = 4 := by
  unfold entryFault; rw [if_neg (not_not_intro h), if_pos h2]
theorem entry_taken {f : Int} {l : List Msg} {i : Nat} (h : msgFault f (l.getD i default) = 0) (h2 : refsBelow (l.getD i default) i) (h3 : l.getD i default ∈ l.take i) : entryFault f l i = 6 := by
  unfold entryFault; rw [if_neg (not_not_intro h), if_neg (not_not_intro h2), if_pos h3]
theorem entry_ok {f : Int} {l : List Msg} {i : Nat} (h : msgFault f (l.getD i default) = 0) (h2 : refsBelow (l.getD i default) i) (h3 : l.getD i default ∉ l.take i) : entryFault f l i = 0 := by
  unfold entryFault; rw [if_neg (not_not_intro h), if_neg (not_not_intro h2), if_neg h3]
/-- The first place of a message is its own, or it stands before. -/
theorem msgAt_own {l : List Msg} {i : Nat} (hi : i < l.length) : msgAt l (l.getD i default) = i ↔ l.getD i default ∉ l.take i := by
  constructor
  · intro h hm
    obtain ⟨k, hk, he⟩ := List.getElem_of_mem hm
    have hki : k < i := by simp at hk; omega
    have hkl : k < l.length := by omega
    unfold msgAt idxF at h
    cases hf : l.findIdx? (fun x => decide (x = l.getD i default)) with
    | none => rw [hf] at h; simp at h
    | some q =>
      rw [hf] at h
      have hq : q = i := by simp at h; omega
      subst hq
      obtain ⟨_, _, hno⟩ := List.findIdx?_eq_some_iff_getElem.1 hf
      have := hno k hki
      simp at he
      simp [he] at this
  · intro h
    unfold msgAt
    refine idxF_some hi (fun j hj => ?_) (by simp)
    have hjl : j < l.length := by omega
    have : l.getD j default ≠ l.getD i default := fun e => h (by
      rw [← e]
      have : l.getD j default = (l.take i)[j]'(by simp; omega) := by simp [hjl]
      rw [this]
      exact List.getElem_mem _)
    simpa using this

/-! ### spec.l8Ledger -/
def pr70 (f : Int) (l : List Msg) : Prop := okF f ∧ bdL l
noncomputable def rs70 (f : Int) (l : List Msg) : V := .int .i64 (ledgerFault f l)
noncomputable def sp70 : FSpec := fun args bin => match args, bin with
  | [.int .i64 a0, a1], [] => some (VLe a1 (encL (encMsg 1) 1 (((decL decMsg) a1))) ∧ pr70 a0 ((decL decMsg) a1), rs70 a0 ((decL decMsg) a1), [])
  | _, _ => none
noncomputable def in70_4 (f : Int) (l : List Msg) : LoopInv :=
  ⟨Nat, fun i => ⟨[(0, .int .i64 f), (1, encL (encMsg 1) 1 l), (5, .int .i64 i)], []⟩, fun i => i ≤ l.length ∧ firstFault (entryFault f l) 0 l.length = firstFault (entryFault f l) i (l.length - i), fun i => l.length - i⟩
noncomputable def iv70 (f : Int) (l : List Msg) : Nat → Option LoopInv := fun rg_ => match rg_ with
  | 4 => some (in70_4 f l)
  | _ => none
noncomputable def D70 : Nat → Option (Bool × FSpec) := lk [(34, (false, sp34)), (89, (false, sp89)), (57, (false, sp57))]
theorem da70 : SoundAll Try.prog D70 := soundAll_cons so34 (soundAll_cons so89 (soundAll_cons so57 (soundAll_nil)))
noncomputable def cx70 (f : Int) (l : List Msg) : Cx := ⟨tt, D70, Try.f70.ntmps, [0, 1, 4, 5, 6, 9, 13, 22, 29, 36], [(4, ⟨[(0, none), (1, none), (5, none)], []⟩)], [], iv70 f l, [], noM, []⟩
theorem bd70 (f : Int) (l : List Msg) (hpre : pr70 f l) : bodyP (cx70 f l) Try.f70 0 [.int .i64 (f), encL (encMsg 1) 1 (l)] (fun rr => VLe rr (rs70 f l)) := by
  have key :
      (((decide ((↑(List.length l) : Int) > (240 : Int)) = true) →
   (VLe (V.int IntKind.i64 (2 : Int)) (V.int IntKind.i64 (ledgerFault f l)))) ∧
   ((decide ((↑(List.length l) : Int) > (240 : Int)) = false) →
   ((∃ x : Nat, ((SLe
   (AS.mk
   [(0, V.int IntKind.i64 f), (1, encL (encMsg 1) 1 l),
   (5, V.int IntKind.i64 (0 : Int))]
   [])
   (AS.mk
   [(0, V.int IntKind.i64 f), (1, encL (encMsg 1) 1 l),
   (5, V.int IntKind.i64 (↑x : Int))]
   [])) ∧
   ((x ≤ List.length l) ∧
   (firstFault (entryFault f l) 0 (List.length l) = firstFault (entryFault f l) x (List.length l - x))))) ∧
   (∀ x : Nat,
   (((x ≤ List.length l) ∧
   (firstFault (entryFault f l) 0 (List.length l) = firstFault (entryFault f l) x (List.length l - x))) →
   (((decide ((↑x : Int) < (↑(List.length l) : Int)) = true) →
   ((((0 : Int) ≤ (↑x : Int)) ∧
   ((↑x : Int) < (↑(List.length l) : Int))) ∧
   (((VLe (encPMsg 1 (List.getD l (Int.toNat (↑x : Int)) default))
   (encPMsg 1 (decPMsg (encPMsg 1 (List.getD l (Int.toNat (↑x : Int)) default))))) ∧
   (pr34 f (decPMsg (encPMsg 1 (List.getD l (Int.toNat (↑x : Int)) default))))) ∧
   ((((msgFault f (decPMsg (encPMsg 1 (List.getD l (Int.toNat (↑x : Int)) default))) != (0 : Int)) = true) →
   (VLe (V.int IntKind.i64 (msgFault f (decPMsg (encPMsg 1 (List.getD l (Int.toNat (↑x : Int)) default)))))
   (V.int IntKind.i64 (ledgerFault f l)))) ∧
   (((msgFault f (decPMsg (encPMsg 1 (List.getD l (Int.toNat (↑x : Int)) default))) != (0 : Int)) = false) →
   ((((0 : Int) ≤ (↑x : Int)) ∧
   ((↑x : Int) < (↑(List.length l) : Int))) ∧
   (((VLe (encPMsg 1 (List.getD l (Int.toNat (↑x : Int)) default))
   (encPMsg 1 (decPMsg (encPMsg 1 (List.getD l (Int.toNat (↑x : Int)) default))))) ∧
   (pr89 (decPMsg (encPMsg 1 (List.getD l (Int.toNat (↑x : Int)) default))) (↑x : Int))) ∧
   ((((!decide (refsBelow (decPMsg (encPMsg 1 (List.getD l (Int.toNat (↑x : Int)) default))) (↑x : Int))) = true) →
   (VLe (V.int IntKind.i64 (4 : Int)) (V.int IntKind.i64 (ledgerFault f l)))) ∧
   (((!decide (refsBelow (decPMsg (encPMsg 1 (List.getD l (Int.toNat (↑x : Int)) default))) (↑x : Int))) = false) →
   ((((0 : Int) ≤ (↑x : Int)) ∧
   ((↑x : Int) < (↑(List.length l) : Int))) ∧
   (((VLe (encL (encMsg 1) 1 l)
   (encL (encMsg 1) 1 (decL decMsg (encL (encMsg 1) 1 l)))) ∧
   ((VLe (encPMsg 1 (List.getD l (Int.toNat (↑x : Int)) default))
   (encPMsg 1 (decPMsg (encPMsg 1 (List.getD l (Int.toNat (↑x : Int)) default))))) ∧
   (pr57 (decL decMsg (encL (encMsg 1) 1 l))
   (decPMsg (encPMsg 1 (List.getD l (Int.toNat (↑x : Int)) default)))))) ∧
   ((((msgAt (decL decMsg (encL (encMsg 1) 1 l))
   (decPMsg (encPMsg 1 (List.getD l (Int.toNat (↑x : Int)) default))) !=
   (↑x : Int)) =
   true) →
   (VLe (V.int IntKind.i64 (6 : Int)) (V.int IntKind.i64 (ledgerFault f l)))) ∧
   (((msgAt (decL decMsg (encL (encMsg 1) 1 l))
   (decPMsg (encPMsg 1 (List.getD l (Int.toNat (↑x : Int)) default))) !=
   (↑x : Int)) =
   false) →
   ((inK IntKind.i64 ((↑x : Int) + (1 : Int))) ∧
   (∃ y : Nat, ((SLe
   (AS.mk
   [(0, V.int IntKind.i64 f), (1, encL (encMsg 1) 1 l),
   (5, V.int IntKind.i64 ((↑x : Int) + (1 : Int)))]
   [])
   (AS.mk
   [(0, V.int IntKind.i64 f), (1, encL (encMsg 1) 1 l),
   (5, V.int IntKind.i64 (↑y : Int))]
   [])) ∧
   (((y ≤ List.length l) ∧
   (firstFault (entryFault f l) 0 (List.length l) = firstFault (entryFault f l) y (List.length l - y))) ∧
   (List.length l - y < List.length l - x)))))))))))))))))) ∧
   ((decide ((↑x : Int) < (↑(List.length l) : Int)) = false) →
   (VLe (V.int IntKind.i64 (0 : Int)) (V.int IntKind.i64 (ledgerFault f l)))))))))) := by
    obtain ⟨hf, hl⟩ := hpre
    have hlen := hl.1
    unfold maxLen at hlen
    refine ⟨fun h => ?_, fun h => ?_⟩
    · have h240 : 240 < l.length := by simp at h; omega
      refine vle_int ?_
      unfold ledgerFault
      rw [if_neg (not_not_intro hf), if_pos h240]
    · have h240 : ¬ 240 < l.length := by simp at h; omega
      have e : ledgerFault f l = firstFault (entryFault f l) 0 l.length := by
        unfold ledgerFault
        rw [if_neg (not_not_intro hf), if_neg h240]
      refine ⟨⟨0, SLe.refl _, by omega, rfl⟩, ?_⟩
      rintro i ⟨hi, hj⟩
      refine ⟨fun h => ?_, fun h => ?_⟩
      · have hlt : i < l.length := by simpa using h
        have hb := bdL_get hl hlt
        have hs := firstFault_from (e := entryFault f l) hlt
        simp only [Int.toNat_natCast, dec_encPMsg, decL_Msg]
        refine ⟨⟨by omega, by omega⟩, ⟨VLe.refl _, hf, hb⟩, fun h2 => ?_, fun h2 => ⟨⟨by omega, by omega⟩, ⟨VLe.refl _, hb⟩, fun h3 => ?_, fun h3 => ⟨⟨by omega, by omega⟩, ⟨VLe.refl _, VLe.refl _, hl⟩, fun h4 => ?_, fun h4 => ⟨inK64 (by omega), i + 1, SLe.refl _, ⟨by omega, ?_⟩, by omega⟩⟩⟩⟩
        · have hc : msgFault f (l.getD i default) ≠ 0 := by simpa using h2
          refine vle_int ?_
          rw [e, hj, hs, entry_code hc, if_neg hc]
        · have hc : msgFault f (l.getD i default) = 0 := by simpa using h2
          have hr : ¬ refsBelow (l.getD i default) i := by simpa using h3
          refine vle_int ?_
          rw [e, hj, hs, entry_refs hc hr, if_neg (by decide)]
        · have hc : msgFault f (l.getD i default) = 0 := by simpa using h2
          have hr : refsBelow (l.getD i default) i := by simpa using h3
          have ht : l.getD i default ∈ l.take i := Classical.not_not.1 fun hn => by
            have := (msgAt_own hlt).2 hn
            rw [this] at h4
            simp at h4
          refine vle_int ?_
          rw [e, hj, hs, entry_taken hc hr ht, if_neg (by decide)]
        · have hc : msgFault f (l.getD i default) = 0 := by simpa using h2
          have hr : refsBelow (l.getD i default) i := by simpa using h3
          have ht : l.getD i default ∉ l.take i := (msgAt_own hlt).1 (by simpa using h4)
          rw [hj, hs, entry_ok hc hr ht, if_pos rfl]
      · have hge : i = l.length := by simp at h; omega
        refine vle_int ?_
        rw [e, hj, hge, Nat.sub_self]
        rfl
  exact Eq.mp (by kernel_rfl) key
theorem so70 : Sound Try.prog 70 sp70 := by
  refine sound_of_body hmix (pol := 0) Try.func70 rfl (by kernel_rfl) fun args bin ob r bout hDe hob => ?_
  unfold sp70 at hDe
  split at hDe
  · rename_i a0 a1
    cases hDe
    exact ⟨rfl, rfl, Nat.le_of_ble_eq_true (by kernel_rfl), cx70 a0 ((decL decMsg) a1), Eq.mp (by kernel_rfl) htt, Eq.mp (by kernel_rfl) da70, Eq.mp (by kernel_rfl) (noM_sound (P := Try.prog)), by kernel_rfl, [.int .i64 (a0), encL (encMsg 1) 1 (((decL decMsg) a1))], args_of_vles (⟨VLe.refl _, hob.1, trivial⟩), Eq.mp (by kernel_rfl) (bd70 a0 ((decL decMsg) a1) (hob.2))⟩
  · cases hDe

/-! ### spec.l8Asked -/
def pr33 (f : Int) (l : List Msg) : Prop := bdL l
noncomputable def rs33 (f : Int) (l : List Msg) : V := .int .i64 (ledgerFault f l)
noncomputable def sp33 : FSpec := fun args bin => match args, bin with
  | [.int .i64 a0, a1], [] => some (VLe a1 (encL (encMsg 1) 1 (((decL decMsg) a1))) ∧ pr33 a0 ((decL decMsg) a1), rs33 a0 ((decL decMsg) a1), [])
  | _, _ => none
noncomputable def D33 : Nat → Option (Bool × FSpec) := lk [(40, (false, sp40)), (70, (false, sp70))]
theorem da33 : SoundAll Try.prog D33 := soundAll_cons so40 (soundAll_cons so70 (soundAll_nil))
noncomputable def cx33 (f : Int) (l : List Msg) : Cx := ⟨tt, D33, Try.f33.ntmps, [0, 1, 4, 7], [], [], fun _ => none, [], noM, []⟩
theorem bd33 (f : Int) (l : List Msg) (hpre : pr33 f l) : bodyP (cx33 f l) Try.f33 0 [.int .i64 (f), encL (encMsg 1) 1 (l)] (fun rr => VLe rr (rs33 f l)) := by
  have key :
      ((pr40 f) ∧
   ((((!decide (okF f)) = true) →
   (VLe (V.int IntKind.i64 (3 : Int)) (V.int IntKind.i64 (ledgerFault f l)))) ∧
   (((!decide (okF f)) = false) →
   (((VLe (encL (encMsg 1) 1 l)
   (encL (encMsg 1) 1 (decL decMsg (encL (encMsg 1) 1 l)))) ∧
   (pr70 f (decL decMsg (encL (encMsg 1) 1 l)))) ∧
   (VLe (V.int IntKind.i64 (ledgerFault f (decL decMsg (encL (encMsg 1) 1 l))))
   (V.int IntKind.i64 (ledgerFault f l))))))) := by
    simp only [decL_Msg]
    refine ⟨trivial, fun h => ?_, fun h => ?_⟩
    · have hf : ¬ okF f := by simpa using h
      refine vle_int ?_
      unfold ledgerFault
      rw [if_pos hf]
    · have hf : okF f := by simpa using h
      exact ⟨⟨VLe.refl _, hf, hpre⟩, VLe.refl _⟩
  exact Eq.mp (by kernel_rfl) key
theorem so33 : Sound Try.prog 33 sp33 := by
  refine sound_of_body hmix (pol := 0) Try.func33 rfl (by kernel_rfl) fun args bin ob r bout hDe hob => ?_
  unfold sp33 at hDe
  split at hDe
  · rename_i a0 a1
    cases hDe
    exact ⟨rfl, rfl, Nat.le_of_ble_eq_true (by kernel_rfl), cx33 a0 ((decL decMsg) a1), Eq.mp (by kernel_rfl) htt, Eq.mp (by kernel_rfl) da33, Eq.mp (by kernel_rfl) (noM_sound (P := Try.prog)), by kernel_rfl, [.int .i64 (a0), encL (encMsg 1) 1 (((decL decMsg) a1))], args_of_vles (⟨VLe.refl _, hob.1, trivial⟩), Eq.mp (by kernel_rfl) (bd33 a0 ((decL decMsg) a1) (hob.2))⟩
  · cases hDe

/-! ### impl.LedgerFault -/
def pr30 (f : Int) (l : List Msg) : Prop := bdL l
noncomputable def rs30 (f : Int) (l : List Msg) : V := .int .i64 (ledgerFault f l)
noncomputable def sp30 : FSpec := fun args bin => match args, bin with
  | [.int .i64 a0, a1], [] => some (VLe a1 (encL (encMsg 1) 1 (((decL decMsg) a1))) ∧ pr30 a0 ((decL decMsg) a1), rs30 a0 ((decL decMsg) a1), [])
  | _, _ => none
noncomputable def in30_6 (f : Int) (l : List Msg) : LoopInv :=
  ⟨Nat, fun i => ⟨[(0, .int .i64 f), (1, encL (encMsg 1) 1 l), (16, encL (encMsg 1) 1 l), (17, .int .i64 l.length), (18, .int .i64 i)], []⟩, fun i => i ≤ l.length ∧ firstFault (entryFault f l) 0 l.length = firstFault (entryFault f l) i (l.length - i), fun i => l.length - i⟩
noncomputable def iv30 (f : Int) (l : List Msg) : Nat → Option LoopInv := fun rg_ => match rg_ with
  | 6 => some (in30_6 f l)
  | _ => none
noncomputable def D30 : Nat → Option (Bool × FSpec) := lk [(36, (false, sp36)), (31, (false, sp31)), (60, (false, sp60)), (61, (false, sp61))]
theorem da30 : SoundAll Try.prog D30 := soundAll_cons so36 (soundAll_cons so31 (soundAll_cons so60 (soundAll_cons so61 (soundAll_nil))))
noncomputable def cx30 (f : Int) (l : List Msg) : Cx := ⟨tt, D30, Try.f30.ntmps, [0, 1, 4, 5, 6, 7, 8, 12, 16, 17, 18, 19, 27, 29, 34], [(6, ⟨[(0, none), (1, none), (16, none), (17, none), (18, none)], []⟩)], [], iv30 f l, [], noM, []⟩
theorem bd30 (f : Int) (l : List Msg) (hpre : pr30 f l) : bodyP (cx30 f l) Try.f30 0 [.int .i64 (f), encL (encMsg 1) 1 (l)] (fun rr => VLe rr (rs30 f l)) := by
  have key :
      ((pr36 f) ∧
   ((((!decide (okF f)) = true) →
   (VLe (V.int IntKind.i64 (3 : Int)) (V.int IntKind.i64 (ledgerFault f l)))) ∧
   (((!decide (okF f)) = false) →
   (((decide ((↑(List.length l) : Int) > (240 : Int)) = true) →
   (VLe (V.int IntKind.i64 (2 : Int)) (V.int IntKind.i64 (ledgerFault f l)))) ∧
   ((decide ((↑(List.length l) : Int) > (240 : Int)) = false) →
   ((∃ x : Nat, ((SLe
   (AS.mk
   [(0, V.int IntKind.i64 f), (1, encL (encMsg 1) 1 l),
   (16, encL (encMsg 1) 1 l), (17, V.int IntKind.i64 (↑(List.length l) : Int)),
   (18, V.int IntKind.i64 (0 : Int))]
   [])
   (AS.mk
   [(0, V.int IntKind.i64 f), (1, encL (encMsg 1) 1 l),
   (16, encL (encMsg 1) 1 l), (17, V.int IntKind.i64 (↑(List.length l) : Int)),
   (18, V.int IntKind.i64 (↑x : Int))]
   [])) ∧
   ((x ≤ List.length l) ∧
   (firstFault (entryFault f l) 0 (List.length l) = firstFault (entryFault f l) x (List.length l - x))))) ∧
   (∀ x : Nat,
   (((x ≤ List.length l) ∧
   (firstFault (entryFault f l) 0 (List.length l) = firstFault (entryFault f l) x (List.length l - x))) →
   (((decide ((↑x : Int) < (↑(List.length l) : Int)) = true) →
   ((((0 : Int) ≤ (↑x : Int)) ∧
   ((↑x : Int) < (↑(List.length l) : Int))) ∧
   (((VLe (encMsg 1 (List.getD l (Int.toNat (↑x : Int)) default))
   (encMsg 1 (decMsg (encMsg 1 (List.getD l (Int.toNat (↑x : Int)) default))))) ∧
   (pr31 f (decMsg (encMsg 1 (List.getD l (Int.toNat (↑x : Int)) default))))) ∧
   ((((msgFault f (decMsg (encMsg 1 (List.getD l (Int.toNat (↑x : Int)) default))) != (0 : Int)) = true) →
   (VLe (V.int IntKind.i64 (msgFault f (decMsg (encMsg 1 (List.getD l (Int.toNat (↑x : Int)) default)))))
   (V.int IntKind.i64 (ledgerFault f l)))) ∧
   (((msgFault f (decMsg (encMsg 1 (List.getD l (Int.toNat (↑x : Int)) default))) != (0 : Int)) = false) →
   (((VLe (encMsg 1 (List.getD l (Int.toNat (↑x : Int)) default))
   (encMsg 1 (decMsg (encMsg 1 (List.getD l (Int.toNat (↑x : Int)) default))))) ∧
   (pr60 (decMsg (encMsg 1 (List.getD l (Int.toNat (↑x : Int)) default))) (↑x : Int))) ∧
   ((((!decide (refsBelow (decMsg (encMsg 1 (List.getD l (Int.toNat (↑x : Int)) default))) (↑x : Int))) = true) →
   (VLe (V.int IntKind.i64 (4 : Int)) (V.int IntKind.i64 (ledgerFault f l)))) ∧
   (((!decide (refsBelow (decMsg (encMsg 1 (List.getD l (Int.toNat (↑x : Int)) default))) (↑x : Int))) = false) →
   ((((0 : Int) ≤ Option.getD none (0 : Int)) ∧
   ((Option.getD none (0 : Int) ≤ Option.getD (some (↑x : Int)) (↑(List.length l) : Int)) ∧
   (Option.getD (some (↑x : Int)) (↑(List.length l) : Int) ≤ (↑(List.length l) : Int)))) ∧
   ((sizedL 7 (List.length l) (gL (encMsg 1) l)) ∧
   (((VLe
   (V.sl (Int.toNat (Option.getD (some (↑x : Int)) (↑(List.length l) : Int)) - 0)
   (match (motive := Option Int → Nat → V) none with
   | none => gL (encMsg 1) l
   | some val => dropg (gL (encMsg 1) l) 0)
   1)
   (encL (encMsg 1) 1
   (decL decMsg
   (V.sl (Int.toNat (Option.getD (some (↑x : Int)) (↑(List.length l) : Int)) - 0)
   (match (motive := Option Int → Nat → V) none with
   | none => gL (encMsg 1) l
   | some val => dropg (gL (encMsg 1) l) 0)
   1)))) ∧
   ((VLe (encMsg 1 (List.getD l (Int.toNat (↑x : Int)) default))
   (encMsg 1 (decMsg (encMsg 1 (List.getD l (Int.toNat (↑x : Int)) default))))) ∧
   (pr61
   (decL decMsg
   (V.sl (Int.toNat (Option.getD (some (↑x : Int)) (↑(List.length l) : Int)) - 0)
   (match (motive := Option Int → Nat → V) none with
   | none => gL (encMsg 1) l
   | some val => dropg (gL (encMsg 1) l) 0)
   1))
   (decMsg (encMsg 1 (List.getD l (Int.toNat (↑x : Int)) default)))))) ∧
   (((decide
   (msgAt
   (decL decMsg
   (V.sl (Int.toNat (Option.getD (some (↑x : Int)) (↑(List.length l) : Int)) - 0)
   (match (motive := Option Int → Nat → V) none with
   | none => gL (encMsg 1) l
   | some val => dropg (gL (encMsg 1) l) 0)
   1))
   (decMsg (encMsg 1 (List.getD l (Int.toNat (↑x : Int)) default))) ≥
   (0 : Int)) =
   true) →
   (VLe (V.int IntKind.i64 (6 : Int)) (V.int IntKind.i64 (ledgerFault f l)))) ∧
   ((decide
   (msgAt
   (decL decMsg
   (V.sl (Int.toNat (Option.getD (some (↑x : Int)) (↑(List.length l) : Int)) - 0)
   (match (motive := Option Int → Nat → V) none with
   | none => gL (encMsg 1) l
   | some val => dropg (gL (encMsg 1) l) 0)
   1))
   (decMsg (encMsg 1 (List.getD l (Int.toNat (↑x : Int)) default))) ≥
   (0 : Int)) =
   false) →
   ((inK IntKind.i64 ((↑x : Int) + (1 : Int))) ∧
   (∃ y : Nat, ((SLe
   (AS.mk
   [(0, V.int IntKind.i64 f), (1, encL (encMsg 1) 1 l),
   (16, encL (encMsg 1) 1 l), (17, V.int IntKind.i64 (↑(List.length l) : Int)),
   (18, V.int IntKind.i64 ((↑x : Int) + (1 : Int)))]
   [])
   (AS.mk
   [(0, V.int IntKind.i64 f), (1, encL (encMsg 1) 1 l),
   (16, encL (encMsg 1) 1 l), (17, V.int IntKind.i64 (↑(List.length l) : Int)),
   (18, V.int IntKind.i64 (↑y : Int))]
   [])) ∧
   (((y ≤ List.length l) ∧
   (firstFault (entryFault f l) 0 (List.length l) = firstFault (entryFault f l) y (List.length l - y))) ∧
   (List.length l - y < List.length l - x)))))))))))))))))) ∧
   ((decide ((↑x : Int) < (↑(List.length l) : Int)) = false) →
   (VLe (V.int IntKind.i64 (0 : Int)) (V.int IntKind.i64 (ledgerFault f l))))))))))))) := by
    have hl := hpre
    have hlen := hl.1
    unfold maxLen at hlen
    refine ⟨trivial, fun h => ?_, fun h => ?_⟩
    · have hf : ¬ okF f := by simpa using h
      refine vle_int ?_
      unfold ledgerFault
      rw [if_pos hf]
    · have hf : okF f := by simpa using h
      clear h
      refine ⟨fun h => ?_, fun h => ?_⟩
      · have h240 : 240 < l.length := by simp at h; omega
        refine vle_int ?_
        unfold ledgerFault
        rw [if_neg (not_not_intro hf), if_pos h240]
      · have h240 : ¬ 240 < l.length := by simp at h; omega
        have e : ledgerFault f l = firstFault (entryFault f l) 0 l.length := by
          unfold ledgerFault
          rw [if_neg (not_not_intro hf), if_neg h240]
        refine ⟨⟨0, SLe.refl _, by omega, rfl⟩, ?_⟩
        rintro i ⟨hi, hj⟩
        refine ⟨fun h => ?_, fun h => ?_⟩
        · have hlt : i < l.length := by simpa using h
          have hb := bdL_get hl hlt
          have hs := firstFault_from (e := entryFault f l) hlt
          have ed : decL decMsg (.sl i (gL (encMsg 1) l) 1) = l.take i := decL_take (dec_encMsg 1) 1 l i (by omega)
          have ev : VLe (.sl i (gL (encMsg 1) l) 1) (encL (encMsg 1) 1 (l.take i)) := vle_encL_eq (by simp; omega) (fun k hk => by
            have hk' : k < i := by simp at hk; omega
            have hkl : k < l.length := by omega
            rw [gL_lt _ _ _ hkl]
            simp) (Or.inl rfl)
          simp only [Int.toNat_natCast, dec_encMsg, Option.getD_none, Option.getD_some, Int.toNat_zero, Nat.sub_zero, ed]
          refine ⟨⟨by omega, by omega⟩, ⟨VLe.refl _, hf, hb⟩, fun h2 => ?_, fun h2 => ⟨⟨VLe.refl _, hb⟩, fun h3 => ?_, fun h3 => ⟨⟨by omega, by omega, by omega⟩, fun k hk => ⟨rfl, rfl⟩, ⟨ev, VLe.refl _, bdL_take hl i⟩, fun h4 => ?_, fun h4 => ⟨inK64 (by omega), i + 1, SLe.refl _, ⟨by omega, ?_⟩, by omega⟩⟩⟩⟩
          · have hc : msgFault f (l.getD i default) ≠ 0 := by simpa using h2
            refine vle_int ?_
            rw [e, hj, hs, entry_code hc, if_neg hc]
          · have hc : msgFault f (l.getD i default) = 0 := by simpa using h2
            have hr : ¬ refsBelow (l.getD i default) i := by simpa using h3
            refine vle_int ?_
            rw [e, hj, hs, entry_refs hc hr, if_neg (by decide)]
          · have hc : msgFault f (l.getD i default) = 0 := by simpa using h2
            have hr : refsBelow (l.getD i default) i := by simpa using h3
            have ht : l.getD i default ∈ l.take i := msgAt_nonneg.1 (of_decide_eq_true h4)
            refine vle_int ?_
            rw [e, hj, hs, entry_taken hc hr ht, if_neg (by decide)]
          · have hc : msgFault f (l.getD i default) = 0 := by simpa using h2
            have hr : refsBelow (l.getD i default) i := by simpa using h3
            have ht : l.getD i default ∉ l.take i := fun hm => (of_decide_eq_false h4) (msgAt_nonneg.2 hm)
            rw [hj, hs, entry_ok hc hr ht, if_pos rfl]
        · have hge : i = l.length := by simp at h; omega
          refine vle_int ?_
          rw [e, hj, hge, Nat.sub_self]
          rfl
  exact Eq.mp (by kernel_rfl) key
theorem so30 : Sound Try.prog 30 sp30 := by
  refine sound_of_body hmix (pol := 0) Try.func30 rfl (by kernel_rfl) fun args bin ob r bout hDe hob => ?_
  unfold sp30 at hDe
  split at hDe
  · rename_i a0 a1
    cases hDe
    exact ⟨rfl, rfl, Nat.le_of_ble_eq_true (by kernel_rfl), cx30 a0 ((decL decMsg) a1), Eq.mp (by kernel_rfl) htt, Eq.mp (by kernel_rfl) da30, Eq.mp (by kernel_rfl) (noM_sound (P := Try.prog)), by kernel_rfl, [.int .i64 (a0), encL (encMsg 1) 1 (((decL decMsg) a1))], args_of_vles (⟨VLe.refl _, hob.1, trivial⟩), Eq.mp (by kernel_rfl) (bd30 a0 ((decL decMsg) a1) (hob.2))⟩
  · cases hDe

/-- The size of a ledger that is taken off what is left. -/
def szSum : List Msg → Int → Int
  | [], left => left
  | m :: r, left => if szMsgF m left < 0 then -1 else szSum r (szMsgF m left)
def szMsgSF (l : List Msg) (left : Int) : Int := if left - l.length < 0 then -1 else szSum l (left - l.length)
theorem szSum_le : ∀ {l : List Msg} {left : Int}, -1 ≤ left → szSum l left ≤ left
  | [], left, h => Int.le_refl _
  | m :: r, left, h => by
    unfold szSum
    split
    · exact h
    · have := @szMsgF_le m left h
      have := @szSum_le r (szMsgF m left) (by omega)
      omega
theorem szSum_bd : ∀ {l : List Msg} {left : Int}, 0 ≤ szSum l left → ∀ m ∈ l, m.certs.length ≤ left ∧ m.refs.length ≤ left
  | [], left, h, m, hm => by simp at hm
  | x :: r, left, h, m, hm => by
    unfold szSum at h
    split at h
    · omega
    · rename_i h1
      rcases List.mem_cons.1 hm with rfl | hm
      · exact szMsgF_bd (by omega)
      · have h2 := szSum_bd h m hm
        have h3 := szMsgF_eq h1
        omega
theorem szMsgSF_bd {l : List Msg} {left : Int} (h : 0 ≤ szMsgSF l left) : l.length ≤ left ∧ ∀ m ∈ l, m.certs.length ≤ left ∧ m.refs.length ≤ left := by
  unfold szMsgSF at h
  split at h
  · omega
  · rename_i h1
    refine ⟨by omega, fun m hm => ?_⟩
    have := szSum_bd h m hm
    omega
theorem szMsgSF_le {l : List Msg} {left : Int} (h : -1 ≤ left) : szMsgSF l left ≤ left := by
  unfold szMsgSF
  split
  · exact h
  · have := @szSum_le l (left - l.length) (by omega)
    omega

end Go.Av
