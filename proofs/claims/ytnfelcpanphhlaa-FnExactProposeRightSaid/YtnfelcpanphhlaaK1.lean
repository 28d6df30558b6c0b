/- Marks: functions that write numbers into what a call told, and into what it was handed. -/
import Derived.Test.YtnfelcpanphhlaaE5
namespace Go.Av
open Go.Proofs
set_option maxRecDepth 100000
set_option linter.unusedVariables false
set_option linter.unusedSimpArgs false

/-- The numbers that a row of so many is marked with. -/
def markI (k : Int) (n : Nat) : List Int := (List.range n).map fun i : Nat => k + i
@[simp] theorem markI_len (k : Int) (n : Nat) : (markI k n).length = n := by simp [markI]
theorem markI_get (k : Int) (n i : Nat) (h : i < n) : (markI k n).getD i default = k + i := by simp [markI, h]
def markC (k : Int) (n : Nat) : List Cert := (List.range n).map fun i : Nat => ⟨k + 3 * i, k + 3 * i + 1, k + 3 * i + 2⟩
@[simp] theorem markC_len (k : Int) (n : Nat) : (markC k n).length = n := by simp [markC]
theorem markC_get (k : Int) (n i : Nat) (h : i < n) : (markC k n).getD i default = ⟨k + 3 * i, k + 3 * i + 1, k + 3 * i + 2⟩ := by simp [markC, h]
/-- How many numbers a message holds. -/
def cntM (m : Msg) : Int := 5 + 3 * m.certs.length + m.refs.length
def cntL (l : List Msg) (i : Nat) : Int := ((l.take i).map cntM).sum
theorem cntL_succ {l : List Msg} {i : Nat} (h : i < l.length) : cntL l (i + 1) = cntL l i + cntM (l.getD i default) := by
  unfold cntL
  rw [List.take_add_one, List.map_append, List.sum_append]
  simp [h]
theorem cntM_nonneg (m : Msg) : 0 ≤ cntM m := by unfold cntM; omega
theorem sum_nonneg' : ∀ (l : List Int), (∀ x ∈ l, 0 ≤ x) → 0 ≤ l.sum
  | [], _ => by simp
  | x :: r, h => by
    have h1 := h x (by simp)
    have h2 := sum_nonneg' r fun y hy => h y (List.mem_cons_of_mem _ hy)
    simp only [List.sum_cons]
    omega
theorem cntL_nonneg (l : List Msg) (i : Nat) : 0 ≤ cntL l i := sum_nonneg' _ fun x hx => by
  obtain ⟨m, _, rfl⟩ := List.mem_map.1 hx
  exact cntM_nonneg m
theorem cntL_mono (l : List Msg) (i : Nat) : cntL l i ≤ cntL l l.length := by
  unfold cntL
  have h1 : l.take l.length = l.take i ++ l.drop i := by rw [List.take_append_drop, List.take_length]
  rw [h1, List.map_append, List.sum_append]
  have := sum_nonneg' ((l.drop i).map cntM) fun x hx => by
    obtain ⟨m, _, rfl⟩ := List.mem_map.1 hx
    exact cntM_nonneg m
  omega

theorem SLe.refl' {s s' : AS} (h : s = s') : SLe s s' := h ▸ SLe.refl s
/-- One element written anew. -/
theorem ble_set {α : Type} [Inhabited α] {enc : α → V} {sz n i te : Nat} {xs : List α} {v : V} {x : α} (hi : i < xs.length) (h : ELe v (enc x)) :
    BLe (.arr sz n (setg (gL enc xs) i v) te) (.arr sz n (gL enc (xs.set i x)) te) := by
  refine ble_arr (fun k hk => ?_) (Or.inl rfl)
  simp only [setg, gL]
  by_cases e : k = i
  · subst e
    rw [if_pos rfl, getD_set_eq _ _ _ _ hi]
    exact h
  · rw [if_neg e, getD_set_ne _ _ _ _ e]
    exact ELe.refl _


/-! ### laws.markInt64S -/
noncomputable def in56m_2 (l : List Int) (k : Int) : LoopInv :=
  ⟨Nat, fun i => ⟨[(0, encL encI 1 l), (1, .int .i64 (k + i)), (5, .int .i64 i)], []⟩, fun i => i ≤ l.length, fun i => l.length - i⟩
noncomputable def iv56m (l : List Int) (k : Int) : Nat → Option LoopInv := fun k0 => match k0 with
  | 2 => some (in56m_2 l k)
  | _ => none
def mp56 (l : List Int) (k : Int) : Prop := 0 ≤ k ∧ k + l.length ≤ 4611686018427387904
noncomputable def mm56 : MSpec := fun n g k => some (VLe (.sl n g 1) (encL encI 1 (decL decI (.sl n g 1))) ∧ mp56 (decL decI (.sl n g 1)) k, (fun (l : List Int) => k + (l.length : Int)) (decL decI (.sl n g 1)))
noncomputable def M56 : Nat → Option MSpec := lk []
theorem ma56 : SoundAllM Try.prog M56 := soundAllM_nil
noncomputable def D56m : Nat → Option (Bool × FSpec) := lk []
theorem da56m : SoundAll Try.prog D56m := soundAll_nil
noncomputable def cx56m (l : List Int) (k : Int) : Cx := ⟨tt, D56m, Try.f56.ntmps, [0, 1, 4, 5, 9], [(2, ⟨[(0, none), (1, none), (5, none)], []⟩)], [], iv56m l k, [], M56, []⟩
theorem bd56m (l : List Int) (k : Int) (hpre : mp56 l k) : bodyM (cx56m l k) Try.f56 [encL encI 1 l, .int .i64 k] (fun r => r = k + (l.length : Int)) := by
  have key :
      ((∃ x : Nat, ((SLe
   (AS.mk
   [(0, encL encI 1 l), (1, V.int IntKind.i64 k), (5, V.int IntKind.i64 (0 : Int))] [])
   (AS.mk
   [(0, encL encI 1 l), (1, V.int IntKind.i64 (k + (↑x : Int))),
   (5, V.int IntKind.i64 (↑x : Int))]
   [])) ∧
   (x ≤ List.length l))) ∧
   (∀ x : Nat,
   ((x ≤ List.length l) →
   (((decide ((↑x : Int) < (↑(List.length l) : Int)) = true) →
   ((((0 : Int) ≤ (↑x : Int)) ∧
   ((↑x : Int) < (↑(List.length l) : Int))) ∧
   ((inK IntKind.i64 (k + (↑x : Int) + (1 : Int))) ∧
   ((inK IntKind.i64 ((↑x : Int) + (1 : Int))) ∧
   (∃ y : Nat, ((SLe
   (AS.mk
   [(0, encL encI 1 l), (1, V.int IntKind.i64 (k + (↑x : Int) + (1 : Int))),
   (5, V.int IntKind.i64 ((↑x : Int) + (1 : Int)))]
   [])
   (AS.mk
   [(0, encL encI 1 l), (1, V.int IntKind.i64 (k + (↑y : Int))),
   (5, V.int IntKind.i64 (↑y : Int))]
   [])) ∧
   ((y ≤ List.length l) ∧
   (List.length l - y < List.length l - x)))))))) ∧
   ((decide ((↑x : Int) < (↑(List.length l) : Int)) = false) →
   (k + (↑x : Int) = k + (↑(List.length l) : Int))))))) := by
    unfold mp56 at hpre
    refine ⟨⟨0, sle_of ⟨rfl, VLe.refl _, rfl, vle_int (by omega), rfl, VLe.refl _, trivial⟩ trivial, by omega⟩, fun i hi => ⟨fun h => ?_, fun h => ?_⟩⟩
    · have hlt : i < l.length := by simpa using h
      exact ⟨by omega, inK64 (by omega), inK64 (by omega), i + 1, sle_of ⟨rfl, VLe.refl _, rfl, vle_int (by omega), rfl, vle_int (by omega), trivial⟩ trivial, by omega, by omega⟩
    · have : i = l.length := by simp at h; omega
      omega
  exact Eq.mp (by kernel_rfl) key
theorem sm56 : SoundMk Try.prog 56 mm56 := by
  refine soundMk_of_body Try.func56 rfl (by kernel_rfl) (Nat.le_of_ble_eq_true (by kernel_rfl)) fun n g k ob r he ho => ?_
  cases he
  exact ⟨cx56m (decL decI (.sl n g 1)) k, Eq.mp (by kernel_rfl) htt, Eq.mp (by kernel_rfl) da56m, Eq.mp (by kernel_rfl) ma56, by kernel_rfl, _, ho.1, Eq.mp (by kernel_rfl) (bd56m _ k ho.2)⟩

/-! ### laws.markCertS -/
noncomputable def in113m_2 (l : List Cert) (k : Int) : LoopInv :=
  ⟨Nat, fun i => ⟨[(0, encL (encCert 1) 1 l), (1, .int .i64 (k + 3 * i)), (5, .int .i64 i)], []⟩, fun i => i ≤ l.length, fun i => l.length - i⟩
noncomputable def iv113m (l : List Cert) (k : Int) : Nat → Option LoopInv := fun k0 => match k0 with
  | 2 => some (in113m_2 l k)
  | _ => none
def mp113 (l : List Cert) (k : Int) : Prop := 0 ≤ k ∧ k + 3 * l.length ≤ 4611686018427387904
noncomputable def mm113 : MSpec := fun n g k => some (VLe (.sl n g 1) (encL (encCert 1) 1 (decL decCert (.sl n g 1))) ∧ mp113 (decL decCert (.sl n g 1)) k, (fun (l : List Cert) => k + 3 * (l.length : Int)) (decL decCert (.sl n g 1)))
noncomputable def M113 : Nat → Option MSpec := lk []
theorem ma113 : SoundAllM Try.prog M113 := soundAllM_nil
noncomputable def D113m : Nat → Option (Bool × FSpec) := lk []
theorem da113m : SoundAll Try.prog D113m := soundAll_nil
noncomputable def cx113m (l : List Cert) (k : Int) : Cx := ⟨tt, D113m, Try.f113.ntmps, [0, 1, 4, 5, 9], [(2, ⟨[(0, none), (1, none), (5, none)], []⟩)], [], iv113m l k, [], M113, []⟩
theorem bd113m (l : List Cert) (k : Int) (hpre : mp113 l k) : bodyM (cx113m l k) Try.f113 [encL (encCert 1) 1 l, .int .i64 k] (fun r => r = k + 3 * (l.length : Int)) := by
  have key :
      ((∃ x : Nat, ((SLe
   (AS.mk
   [(0, encL (encCert 1) 1 l), (1, V.int IntKind.i64 k),
   (5, V.int IntKind.i64 (0 : Int))]
   [])
   (AS.mk
   [(0, encL (encCert 1) 1 l), (1, V.int IntKind.i64 (k + (3 : Int) * (↑x : Int))),
   (5, V.int IntKind.i64 (↑x : Int))]
   [])) ∧
   (x ≤ List.length l))) ∧
   (∀ x : Nat,
   ((x ≤ List.length l) →
   (((decide ((↑x : Int) < (↑(List.length l) : Int)) = true) →
   ((((0 : Int) ≤ (↑x : Int)) ∧
   ((↑x : Int) < (↑(List.length l) : Int))) ∧
   ((inK IntKind.i64 (k + (3 : Int) * (↑x : Int) + (1 : Int))) ∧
   ((((0 : Int) ≤ (↑x : Int)) ∧
   ((↑x : Int) < (↑(List.length l) : Int))) ∧
   ((inK IntKind.i64 (k + (3 : Int) * (↑x : Int) + (1 : Int) + (1 : Int))) ∧
   ((((0 : Int) ≤ (↑x : Int)) ∧
   ((↑x : Int) < (↑(List.length l) : Int))) ∧
   ((inK IntKind.i64 (k + (3 : Int) * (↑x : Int) + (1 : Int) + (1 : Int) + (1 : Int))) ∧
   ((inK IntKind.i64 ((↑x : Int) + (1 : Int))) ∧
   (∃ y : Nat, ((SLe
   (AS.mk
   [(0, encL (encCert 1) 1 l),
   (1, V.int IntKind.i64 (k + (3 : Int) * (↑x : Int) + (1 : Int) + (1 : Int) + (1 : Int))),
   (5, V.int IntKind.i64 ((↑x : Int) + (1 : Int)))]
   [])
   (AS.mk
   [(0, encL (encCert 1) 1 l), (1, V.int IntKind.i64 (k + (3 : Int) * (↑y : Int))),
   (5, V.int IntKind.i64 (↑y : Int))]
   [])) ∧
   ((y ≤ List.length l) ∧
   (List.length l - y < List.length l - x)))))))))))) ∧
   ((decide ((↑x : Int) < (↑(List.length l) : Int)) = false) →
   (k + (3 : Int) * (↑x : Int) = k + (3 : Int) * (↑(List.length l) : Int))))))) := by
    unfold mp113 at hpre
    refine ⟨⟨0, sle_of ⟨rfl, VLe.refl _, rfl, vle_int (by omega), rfl, VLe.refl _, trivial⟩ trivial, by omega⟩, fun i hi => ⟨fun h => ?_, fun h => ?_⟩⟩
    · have hlt : i < l.length := by simpa using h
      repeat' (first | omega | exact inK64 (by omega) | apply And.intro)
      exact ⟨i + 1, sle_of ⟨rfl, VLe.refl _, rfl, vle_int (by omega), rfl, vle_int (by omega), trivial⟩ trivial, by omega, by omega⟩
    · have : i = l.length := by simp at h; omega
      omega
  exact Eq.mp (by kernel_rfl) key
theorem sm113 : SoundMk Try.prog 113 mm113 := by
  refine soundMk_of_body Try.func113 rfl (by kernel_rfl) (Nat.le_of_ble_eq_true (by kernel_rfl)) fun n g k ob r he ho => ?_
  cases he
  exact ⟨cx113m (decL decCert (.sl n g 1)) k, Eq.mp (by kernel_rfl) htt, Eq.mp (by kernel_rfl) da113m, Eq.mp (by kernel_rfl) ma113, by kernel_rfl, _, ho.1, Eq.mp (by kernel_rfl) (bd113m _ k ho.2)⟩

/-! ### laws.markMsgS -/
noncomputable def in46m_2 (l : List Msg) (k : Int) : LoopInv :=
  ⟨Nat, fun i => ⟨[(0, encL (encMsg 1) 1 l), (1, .int .i64 (k + cntL l i)), (5, .int .i64 i)], []⟩, fun i => i ≤ l.length, fun i => l.length - i⟩
noncomputable def iv46m (l : List Msg) (k : Int) : Nat → Option LoopInv := fun k0 => match k0 with
  | 2 => some (in46m_2 l k)
  | _ => none
def mp46 (l : List Msg) (k : Int) : Prop := 0 ≤ k ∧ k + cntL l l.length ≤ 4611686018427387904 ∧ l.length ≤ 4611686018427387904
noncomputable def mm46 : MSpec := fun n g k => some (VLe (.sl n g 1) (encL (encMsg 1) 1 (decL decMsg (.sl n g 1))) ∧ mp46 (decL decMsg (.sl n g 1)) k, (fun (l : List Msg) => k + cntL l l.length) (decL decMsg (.sl n g 1)))
noncomputable def M46 : Nat → Option MSpec := lk [(113, mm113), (56, mm56)]
theorem ma46 : SoundAllM Try.prog M46 := soundAllM_cons sm113 (soundAllM_cons sm56 (soundAllM_nil))
noncomputable def D46m : Nat → Option (Bool × FSpec) := lk []
theorem da46m : SoundAll Try.prog D46m := soundAll_nil
noncomputable def cx46m (l : List Msg) (k : Int) : Cx := ⟨tt, D46m, Try.f46.ntmps, [0, 1, 4, 5, 9], [(2, ⟨[(0, none), (1, none), (5, none)], []⟩)], [], iv46m l k, [], M46, []⟩
theorem bd46m (l : List Msg) (k : Int) (hpre : mp46 l k) : bodyM (cx46m l k) Try.f46 [encL (encMsg 1) 1 l, .int .i64 k] (fun r => r = k + cntL l l.length) := by
  have key :
      ((∃ x : Nat, ((SLe
   (AS.mk
   [(0, encL (encMsg 1) 1 l), (1, V.int IntKind.i64 k),
   (5, V.int IntKind.i64 (0 : Int))]
   [])
   (AS.mk
   [(0, encL (encMsg 1) 1 l), (1, V.int IntKind.i64 (k + cntL l x)),
   (5, V.int IntKind.i64 (↑x : Int))]
   [])) ∧
   (x ≤ List.length l))) ∧
   (∀ x : Nat,
   ((x ≤ List.length l) →
   (((decide ((↑x : Int) < (↑(List.length l) : Int)) = true) →
   ((((0 : Int) ≤ (↑x : Int)) ∧
   ((↑x : Int) < (↑(List.length l) : Int))) ∧
   ((inK IntKind.i64 (k + cntL l x + (1 : Int))) ∧
   ((((0 : Int) ≤ (↑x : Int)) ∧
   ((↑x : Int) < (↑(List.length l) : Int))) ∧
   ((inK IntKind.i64 (k + cntL l x + (1 : Int) + (1 : Int))) ∧
   ((((0 : Int) ≤ (↑x : Int)) ∧
   ((↑x : Int) < (↑(List.length l) : Int))) ∧
   ((inK IntKind.i64 (k + cntL l x + (1 : Int) + (1 : Int) + (1 : Int))) ∧
   ((((0 : Int) ≤ (↑x : Int)) ∧
   ((↑x : Int) < (↑(List.length l) : Int))) ∧
   ((inK IntKind.i64 (k + cntL l x + (1 : Int) + (1 : Int) + (1 : Int) + (1 : Int))) ∧
   ((((0 : Int) ≤ (↑x : Int)) ∧
   ((↑x : Int) < (↑(List.length l) : Int))) ∧
   ((inK IntKind.i64 (k + cntL l x + (1 : Int) + (1 : Int) + (1 : Int) + (1 : Int) + (1 : Int))) ∧
   ((((0 : Int) ≤ (↑x : Int)) ∧
   ((↑x : Int) < (↑(List.length l) : Int))) ∧
   (((VLe (encL (encCert 1) 1 (Msg.certs (List.getD l (Int.toNat (↑x : Int)) default)))
   (encL (encCert 1) 1
   (decL decCert (encL (encCert 1) 1 (Msg.certs (List.getD l (Int.toNat (↑x : Int)) default)))))) ∧
   (mp113 (decL decCert (encL (encCert 1) 1 (Msg.certs (List.getD l (Int.toNat (↑x : Int)) default))))
   (k + cntL l x + (1 : Int) + (1 : Int) + (1 : Int) + (1 : Int) + (1 : Int)))) ∧
   ((((0 : Int) ≤ (↑x : Int)) ∧
   ((↑x : Int) < (↑(List.length l) : Int))) ∧
   (((VLe (encL encI 1 (Msg.refs (List.getD l (Int.toNat (↑x : Int)) default)))
   (encL encI 1 (decL decI (encL encI 1 (Msg.refs (List.getD l (Int.toNat (↑x : Int)) default)))))) ∧
   (mp56 (decL decI (encL encI 1 (Msg.refs (List.getD l (Int.toNat (↑x : Int)) default))))
   (k + cntL l x + (1 : Int) + (1 : Int) + (1 : Int) + (1 : Int) + (1 : Int) +
   (3 : Int) *
   (↑(List.length
   (decL decCert
   (encL (encCert 1) 1 (Msg.certs (List.getD l (Int.toNat (↑x : Int)) default))))) :
   Int)))) ∧
   ((inK IntKind.i64 ((↑x : Int) + (1 : Int))) ∧
   (∃ y : Nat, ((SLe
   (AS.mk
   [(0, encL (encMsg 1) 1 l),
   (1,
   V.int IntKind.i64
   (k + cntL l x + (1 : Int) + (1 : Int) + (1 : Int) + (1 : Int) + (1 : Int) +
   (3 : Int) *
   (↑(List.length
   (decL decCert
   (encL (encCert 1) 1
   (Msg.certs (List.getD l (Int.toNat (↑x : Int)) default))))) :
   Int) +
   (↑(List.length (decL decI (encL encI 1 (Msg.refs (List.getD l (Int.toNat (↑x : Int)) default))))) :
   Int))),
   (5, V.int IntKind.i64 ((↑x : Int) + (1 : Int)))]
   [])
   (AS.mk
   [(0, encL (encMsg 1) 1 l), (1, V.int IntKind.i64 (k + cntL l y)),
   (5, V.int IntKind.i64 (↑y : Int))]
   [])) ∧
   ((y ≤ List.length l) ∧
   (List.length l - y < List.length l - x)))))))))))))))))))) ∧
   ((decide ((↑x : Int) < (↑(List.length l) : Int)) = false) →
   (k + cntL l x = k + cntL l (List.length l))))))) := by
    unfold mp46 at hpre
    refine ⟨⟨0, sle_of ⟨rfl, VLe.refl _, rfl, vle_int (by simp [cntL]), rfl, VLe.refl _, trivial⟩ trivial, by omega⟩, fun i hi => ⟨fun h => ?_, fun h => ?_⟩⟩
    · have hlt : i < l.length := by simpa using h
      have hs := cntL_succ hlt
      have hn := cntL_nonneg l i
      have hm := cntL_mono l (i + 1)
      have hc : cntM (l.getD i default) = 5 + 3 * (l.getD i default).certs.length + (l.getD i default).refs.length := rfl
      simp only [Int.toNat_natCast, decL_Cert, decL_ints]
      refine ⟨by omega, inK64 (by omega), by omega, inK64 (by omega), by omega, inK64 (by omega), by omega, inK64 (by omega), by omega, inK64 (by omega), by omega, ⟨VLe.refl _, by unfold mp113; omega⟩, by omega, ⟨VLe.refl _, by unfold mp56; omega⟩, inK64 (by omega), i + 1, sle_of ⟨rfl, VLe.refl _, rfl, vle_int (by omega), rfl, vle_int (by omega), trivial⟩ trivial, by omega, by omega⟩
    · have : i = l.length := by simp at h; omega
      subst this
      rfl
  exact Eq.mp (by kernel_rfl) key
theorem sm46 : SoundMk Try.prog 46 mm46 := by
  refine soundMk_of_body Try.func46 rfl (by kernel_rfl) (Nat.le_of_ble_eq_true (by kernel_rfl)) fun n g k ob r he ho => ?_
  cases he
  exact ⟨cx46m (decL decMsg (.sl n g 1)) k, Eq.mp (by kernel_rfl) htt, Eq.mp (by kernel_rfl) da46m, Eq.mp (by kernel_rfl) ma46, by kernel_rfl, _, ho.1, Eq.mp (by kernel_rfl) (bd46m _ k ho.2)⟩

/-! ### laws.markInt64S -/
noncomputable def in56_2 (y0 : List Int) (k : Int) : LoopInv :=
  ⟨Nat × List Int, fun p => ⟨[(0, .osl 0 y0.length), (1, .int .i64 (k + p.1)), (5, .int .i64 p.1)], [(0, .arr 1 y0.length (gL encI p.2) tagS)]⟩, fun p => p.1 ≤ y0.length ∧ p.2.length = y0.length ∧ ∀ j, j < p.1 → p.2.getD j default = k + j, fun p => y0.length - p.1⟩
noncomputable def iv56 (y0 : List Int) (k : Int) : Nat → Option LoopInv := fun k0 => match k0 with
  | 2 => some (in56_2 y0 k)
  | _ => none
noncomputable def D56 : Nat → Option (Bool × FSpec) := lk []
theorem da56 : SoundAll Try.prog D56 := soundAll_nil
noncomputable def cx56 (y0 : List Int) (k : Int) : Cx := ⟨tt, D56, Try.f56.ntmps, [0, 1, 4, 5, 9], [(2, ⟨[(0, none), (1, none), (5, none)], [(0, [])]⟩)], [], iv56 y0 k, [], noM, []⟩
def pr56 (n0 : Nat) (k : Int) : Prop := 0 ≤ k ∧ k + n0 ≤ 4611686018427387904
theorem bd56 (y0 : List Int) (k : Int) (hpre : pr56 y0.length k) : bodyO (cx56 y0 k) Try.f56 [] [.osl 0 y0.length, .int .i64 k] [.arr 1 y0.length (gL encI y0) tagS] (fun rr bs => VLe rr (.int .i64 (k + (y0.length : Int))) ∧ BinLe bs [.arr 1 y0.length (gL encI (markI k y0.length)) tagS]) := by
  have key :
      ((∃ x : Nat × List Int, ((SLe
   (AS.mk
   [(0, V.osl 0 (List.length y0)), (1, V.int IntKind.i64 k),
   (5, V.int IntKind.i64 (0 : Int))]
   [(0, Blk.arr 1 (List.length y0) (gL encI y0) 100)])
   (AS.mk
   [(0, V.osl 0 (List.length y0)), (1, V.int IntKind.i64 (k + (↑(Prod.fst x) : Int))),
   (5, V.int IntKind.i64 (↑(Prod.fst x) : Int))]
   [(0, Blk.arr 1 (List.length y0) (gL encI (Prod.snd x)) 100)])) ∧
   ((Prod.fst x ≤ List.length y0) ∧
   ((List.length (Prod.snd x) = List.length y0) ∧
   (∀ j : Nat,
   ((j < Prod.fst x) →
   (List.getD (Prod.snd x) j default = k + (↑j : Int)))))))) ∧
   (∀ x : Nat × List Int,
   (((Prod.fst x ≤ List.length y0) ∧
   ((List.length (Prod.snd x) = List.length y0) ∧
   (∀ j : Nat,
   ((j < Prod.fst x) →
   (List.getD (Prod.snd x) j default = k + (↑j : Int)))))) →
   (((decide ((↑(Prod.fst x) : Int) < (↑(List.length y0) : Int)) = true) →
   ((((0 : Int) ≤ (↑(Prod.fst x) : Int)) ∧
   ((↑(Prod.fst x) : Int) < (↑(List.length y0) : Int))) ∧
   ((Int.toNat (↑(Prod.fst x) : Int) < List.length y0) ∧
   ((inK IntKind.i64 (k + (↑(Prod.fst x) : Int) + (1 : Int))) ∧
   ((inK IntKind.i64 ((↑(Prod.fst x) : Int) + (1 : Int))) ∧
   (∃ y : Nat × List Int, ((SLe
   (AS.mk
   [(0, V.osl 0 (List.length y0)),
   (1, V.int IntKind.i64 (k + (↑(Prod.fst x) : Int) + (1 : Int))),
   (5, V.int IntKind.i64 ((↑(Prod.fst x) : Int) + (1 : Int)))]
   [(0,
   Blk.arr 1 (List.length y0)
   (setg (gL encI (Prod.snd x)) (Int.toNat (↑(Prod.fst x) : Int))
   (V.int IntKind.i64 (k + (↑(Prod.fst x) : Int))))
   100)])
   (AS.mk
   [(0, V.osl 0 (List.length y0)), (1, V.int IntKind.i64 (k + (↑(Prod.fst y) : Int))),
   (5, V.int IntKind.i64 (↑(Prod.fst y) : Int))]
   [(0, Blk.arr 1 (List.length y0) (gL encI (Prod.snd y)) 100)])) ∧
   (((Prod.fst y ≤ List.length y0) ∧
   ((List.length (Prod.snd y) = List.length y0) ∧
   (∀ j : Nat,
   ((j < Prod.fst y) →
   (List.getD (Prod.snd y) j default = k + (↑j : Int)))))) ∧
   (List.length y0 - Prod.fst y < List.length y0 - Prod.fst x))))))))) ∧
   ((decide ((↑(Prod.fst x) : Int) < (↑(List.length y0) : Int)) = false) →
   ((VLe (V.int IntKind.i64 (k + (↑(Prod.fst x) : Int))) (V.int IntKind.i64 (k + (↑(List.length y0) : Int)))) ∧
   ((BLe (Blk.arr 1 (List.length y0) (gL encI (Prod.snd x)) 100)
   (Blk.arr 1 (List.length y0) (gL encI (markI k (List.length y0))) 100)) ∧
   (True)))))))) := by
    unfold pr56 at hpre
    refine ⟨⟨(0, y0), SLe.refl' (by simp), by omega, rfl, fun j hj => absurd hj (Nat.not_lt_zero j)⟩, ?_⟩
    rintro ⟨i, ys⟩ ⟨hi, hl, hj⟩
    simp only at hi hl hj ⊢
    refine ⟨fun h => ?_, fun h => ?_⟩
    · have hlt : i < y0.length := by simpa using h
      refine ⟨by omega, by omega, inK64 (by omega), inK64 (by omega), (i + 1, ys.set i (k + i)), ?_, ⟨by simp only; omega, by simpa using hl, fun j h3 => ?_⟩, by simp only; omega⟩
      · refine sle_of ⟨rfl, VLe.refl _, rfl, vle_int (by simp only; omega), rfl, vle_int (by simp), trivial⟩ ⟨rfl, ?_, trivial⟩
        exact ble_set (by omega) (ELe.refl _)
      · simp only at h3 ⊢
        by_cases e : j = i
        · subst e; rw [getD_set_eq _ _ _ _ (by omega)]
        · rw [getD_set_ne _ _ _ _ e]; exact hj j (by omega)
    · have hge : i = y0.length := by simp at h; omega
      subst hge
      refine ⟨vle_int rfl, ble_arr (fun j hj' => ELe.of_eq ?_) (Or.inl rfl), trivial⟩
      simp only [gL]
      rw [hj j hj', markI_get _ _ _ hj']
  exact Eq.mp (by kernel_rfl) key
noncomputable def sp56 : FSpec := fun args bin => match args, bin with
  | [.osl i0 m0, .int .i64 k], [.arr s0 p0 g0 t0] => some ((i0 = 0 ∧ s0 = 1 ∧ t0 = tagS ∧ p0 = m0 ∧ ∃ y : List Int, y.length = m0 ∧ ∀ i, i < m0 → ELe (g0 i) (gL encI y i)) ∧ pr56 m0 k, .int .i64 (k + (m0 : Int)), [.arr 1 m0 (gL encI (markI k m0)) tagS])
  | _, _ => none
theorem so56 : Sound Try.prog 56 sp56 := by
  refine sound_of_bodyO hmix (tpl := []) Try.func56 rfl (by kernel_rfl) fun args bin ob r bout hDe hob => ?_
  unfold sp56 at hDe
  split at hDe
  · rename_i i0 m0 k s0 p0 g0 t0
    cases hDe
    obtain ⟨⟨rfl, rfl, rfl, rfl, y0, rfl, h0⟩, hpre⟩ := hob
    exact ⟨Nat.le_of_ble_eq_true (by kernel_rfl), cx56 y0 k, Eq.mp (by kernel_rfl) htt, Eq.mp (by kernel_rfl) da56, Eq.mp (by kernel_rfl) (noM_sound (P := Try.prog)), by kernel_rfl, _, [.arr 1 y0.length (gL encI y0) tagS], ArgsLe.refl _, ⟨ble_arr h0 (Or.inl rfl), trivial⟩, Eq.mp (by kernel_rfl) (bd56 y0 k hpre)⟩
  · cases hDe

/-! ### laws.markCertS -/
noncomputable def in113_2 (y0 : List Cert) (k : Int) : LoopInv :=
  ⟨Nat × List Cert, fun p => ⟨[(0, .osl 0 y0.length), (1, .int .i64 (k + 3 * p.1)), (5, .int .i64 p.1)], [(0, .arr 3 y0.length (gL (encCert 1) p.2) tagS)]⟩, fun p => p.1 ≤ y0.length ∧ p.2.length = y0.length ∧ ∀ j, j < p.1 → p.2.getD j default = ⟨k + 3 * j, k + 3 * j + 1, k + 3 * j + 2⟩, fun p => y0.length - p.1⟩
noncomputable def iv113 (y0 : List Cert) (k : Int) : Nat → Option LoopInv := fun k0 => match k0 with
  | 2 => some (in113_2 y0 k)
  | _ => none
noncomputable def D113 : Nat → Option (Bool × FSpec) := lk []
theorem da113 : SoundAll Try.prog D113 := soundAll_nil
noncomputable def cx113 (y0 : List Cert) (k : Int) : Cx := ⟨tt, D113, Try.f113.ntmps, [0, 1, 4, 5, 9], [(2, ⟨[(0, none), (1, none), (5, none)], [(0, [])]⟩)], [], iv113 y0 k, [], noM, []⟩
def pr113 (n0 : Nat) (k : Int) : Prop := 0 ≤ k ∧ k + 3 * n0 ≤ 4611686018427387904
theorem bd113 (y0 : List Cert) (k : Int) (hpre : pr113 y0.length k) : bodyO (cx113 y0 k) Try.f113 [] [.osl 0 y0.length, .int .i64 k] [.arr 3 y0.length (gL (encCert 1) y0) tagS] (fun rr bs => VLe rr (.int .i64 (k + 3 * (y0.length : Int))) ∧ BinLe bs [.arr 3 y0.length (gL (encCert 1) (markC k y0.length)) tagS]) := by
  have key :
      ((∃ x : Nat × List Cert, ((SLe
   (AS.mk
   [(0, V.osl 0 (List.length y0)), (1, V.int IntKind.i64 k),
   (5, V.int IntKind.i64 (0 : Int))]
   [(0, Blk.arr 3 (List.length y0) (gL (encCert 1) y0) 100)])
   (AS.mk
   [(0, V.osl 0 (List.length y0)),
   (1, V.int IntKind.i64 (k + (3 : Int) * (↑(Prod.fst x) : Int))),
   (5, V.int IntKind.i64 (↑(Prod.fst x) : Int))]
   [(0, Blk.arr 3 (List.length y0) (gL (encCert 1) (Prod.snd x)) 100)])) ∧
   ((Prod.fst x ≤ List.length y0) ∧
   ((List.length (Prod.snd x) = List.length y0) ∧
   (∀ j : Nat,
   ((j < Prod.fst x) →
   (List.getD (Prod.snd x) j default =
   Cert.mk (k + (3 : Int) * (↑j : Int)) (k + (3 : Int) * (↑j : Int) + (1 : Int)) (k + (3 : Int) * (↑j : Int) + (2 : Int))))))))) ∧
   (∀ x : Nat × List Cert,
   (((Prod.fst x ≤ List.length y0) ∧
   ((List.length (Prod.snd x) = List.length y0) ∧
   (∀ j : Nat,
   ((j < Prod.fst x) →
   (List.getD (Prod.snd x) j default =
   Cert.mk (k + (3 : Int) * (↑j : Int)) (k + (3 : Int) * (↑j : Int) + (1 : Int)) (k + (3 : Int) * (↑j : Int) + (2 : Int))))))) →
   (((decide ((↑(Prod.fst x) : Int) < (↑(List.length y0) : Int)) = true) →
   ((((0 : Int) ≤ (↑(Prod.fst x) : Int)) ∧
   ((↑(Prod.fst x) : Int) < (↑(List.length y0) : Int))) ∧
   ((Int.toNat (↑(Prod.fst x) : Int) < List.length y0) ∧
   ((inK IntKind.i64 (k + (3 : Int) * (↑(Prod.fst x) : Int) + (1 : Int))) ∧
   ((((0 : Int) ≤ (↑(Prod.fst x) : Int)) ∧
   ((↑(Prod.fst x) : Int) < (↑(List.length y0) : Int))) ∧
   ((Int.toNat (↑(Prod.fst x) : Int) < List.length y0) ∧
   ((inK IntKind.i64 (k + (3 : Int) * (↑(Prod.fst x) : Int) + (1 : Int) + (1 : Int))) ∧
   ((((0 : Int) ≤ (↑(Prod.fst x) : Int)) ∧
   ((↑(Prod.fst x) : Int) < (↑(List.length y0) : Int))) ∧
   ((Int.toNat (↑(Prod.fst x) : Int) < List.length y0) ∧
   ((inK IntKind.i64 (k + (3 : Int) * (↑(Prod.fst x) : Int) + (1 : Int) + (1 : Int) + (1 : Int))) ∧
   ((inK IntKind.i64 ((↑(Prod.fst x) : Int) + (1 : Int))) ∧
   (∃ y : Nat × List Cert, ((SLe
   (AS.mk
   [(0, V.osl 0 (List.length y0)),
   (1, V.int IntKind.i64 (k + (3 : Int) * (↑(Prod.fst x) : Int) + (1 : Int) + (1 : Int) + (1 : Int))),
   (5, V.int IntKind.i64 ((↑(Prod.fst x) : Int) + (1 : Int)))]
   [(0,
   Blk.arr 3 (List.length y0)
   (setg
   (setg
   (setg (gL (encCert 1) (Prod.snd x)) (Int.toNat (↑(Prod.fst x) : Int))
   (V.agg
   [V.int IntKind.i64 (k + (3 : Int) * (↑(Prod.fst x) : Int)),
   V.int IntKind.i64 (Cert.view (List.getD (Prod.snd x) (Int.toNat (↑(Prod.fst x) : Int)) default)),
   V.int IntKind.i64 (Cert.value (List.getD (Prod.snd x) (Int.toNat (↑(Prod.fst x) : Int)) default))]))
   (Int.toNat (↑(Prod.fst x) : Int))
   (V.agg
   [List.getD
   (V.cells
   (setg (gL (encCert 1) (Prod.snd x)) (Int.toNat (↑(Prod.fst x) : Int))
   (V.agg
   [V.int IntKind.i64 (k + (3 : Int) * (↑(Prod.fst x) : Int)),
   V.int IntKind.i64
   (Cert.view (List.getD (Prod.snd x) (Int.toNat (↑(Prod.fst x) : Int)) default)),
   V.int IntKind.i64
   (Cert.value (List.getD (Prod.snd x) (Int.toNat (↑(Prod.fst x) : Int)) default))])
   (Int.toNat (↑(Prod.fst x) : Int))))
   0 V.undef,
   V.int IntKind.i64 (k + (3 : Int) * (↑(Prod.fst x) : Int) + (1 : Int)),
   List.getD
   (V.cells
   (setg (gL (encCert 1) (Prod.snd x)) (Int.toNat (↑(Prod.fst x) : Int))
   (V.agg
   [V.int IntKind.i64 (k + (3 : Int) * (↑(Prod.fst x) : Int)),
   V.int IntKind.i64
   (Cert.view (List.getD (Prod.snd x) (Int.toNat (↑(Prod.fst x) : Int)) default)),
   V.int IntKind.i64
   (Cert.value (List.getD (Prod.snd x) (Int.toNat (↑(Prod.fst x) : Int)) default))])
   (Int.toNat (↑(Prod.fst x) : Int))))
   2 V.undef]))
   (Int.toNat (↑(Prod.fst x) : Int))
   (V.agg
   [List.getD
   (V.cells
   (setg
   (setg (gL (encCert 1) (Prod.snd x)) (Int.toNat (↑(Prod.fst x) : Int))
   (V.agg
   [V.int IntKind.i64 (k + (3 : Int) * (↑(Prod.fst x) : Int)),
   V.int IntKind.i64
   (Cert.view (List.getD (Prod.snd x) (Int.toNat (↑(Prod.fst x) : Int)) default)),
   V.int IntKind.i64
   (Cert.value (List.getD (Prod.snd x) (Int.toNat (↑(Prod.fst x) : Int)) default))]))
   (Int.toNat (↑(Prod.fst x) : Int))
   (V.agg
   [List.getD
   (V.cells
   (setg (gL (encCert 1) (Prod.snd x)) (Int.toNat (↑(Prod.fst x) : Int))
   (V.agg
   [V.int IntKind.i64 (k + (3 : Int) * (↑(Prod.fst x) : Int)),
   V.int IntKind.i64
   (Cert.view (List.getD (Prod.snd x) (Int.toNat (↑(Prod.fst x) : Int)) default)),
   V.int IntKind.i64
   (Cert.value (List.getD (Prod.snd x) (Int.toNat (↑(Prod.fst x) : Int)) default))])
   (Int.toNat (↑(Prod.fst x) : Int))))
   0 V.undef,
   V.int IntKind.i64 (k + (3 : Int) * (↑(Prod.fst x) : Int) + (1 : Int)),
   List.getD
   (V.cells
   (setg (gL (encCert 1) (Prod.snd x)) (Int.toNat (↑(Prod.fst x) : Int))
   (V.agg
   [V.int IntKind.i64 (k + (3 : Int) * (↑(Prod.fst x) : Int)),
   V.int IntKind.i64
   (Cert.view (List.getD (Prod.snd x) (Int.toNat (↑(Prod.fst x) : Int)) default)),
   V.int IntKind.i64
   (Cert.value (List.getD (Prod.snd x) (Int.toNat (↑(Prod.fst x) : Int)) default))])
   (Int.toNat (↑(Prod.fst x) : Int))))
   2 V.undef])
   (Int.toNat (↑(Prod.fst x) : Int))))
   0 V.undef,
   List.getD
   (V.cells
   (setg
   (setg (gL (encCert 1) (Prod.snd x)) (Int.toNat (↑(Prod.fst x) : Int))
   (V.agg
   [V.int IntKind.i64 (k + (3 : Int) * (↑(Prod.fst x) : Int)),
   V.int IntKind.i64
   (Cert.view (List.getD (Prod.snd x) (Int.toNat (↑(Prod.fst x) : Int)) default)),
   V.int IntKind.i64
   (Cert.value (List.getD (Prod.snd x) (Int.toNat (↑(Prod.fst x) : Int)) default))]))
   (Int.toNat (↑(Prod.fst x) : Int))
   (V.agg
   [List.getD
   (V.cells
   (setg (gL (encCert 1) (Prod.snd x)) (Int.toNat (↑(Prod.fst x) : Int))
   (V.agg
   [V.int IntKind.i64 (k + (3 : Int) * (↑(Prod.fst x) : Int)),
   V.int IntKind.i64
   (Cert.view (List.getD (Prod.snd x) (Int.toNat (↑(Prod.fst x) : Int)) default)),
   V.int IntKind.i64
   (Cert.value (List.getD (Prod.snd x) (Int.toNat (↑(Prod.fst x) : Int)) default))])
   (Int.toNat (↑(Prod.fst x) : Int))))
   0 V.undef,
   V.int IntKind.i64 (k + (3 : Int) * (↑(Prod.fst x) : Int) + (1 : Int)),
   List.getD
   (V.cells
   (setg (gL (encCert 1) (Prod.snd x)) (Int.toNat (↑(Prod.fst x) : Int))
   (V.agg
   [V.int IntKind.i64 (k + (3 : Int) * (↑(Prod.fst x) : Int)),
   V.int IntKind.i64
   (Cert.view (List.getD (Prod.snd x) (Int.toNat (↑(Prod.fst x) : Int)) default)),
   V.int IntKind.i64
   (Cert.value (List.getD (Prod.snd x) (Int.toNat (↑(Prod.fst x) : Int)) default))])
   (Int.toNat (↑(Prod.fst x) : Int))))
   2 V.undef])
   (Int.toNat (↑(Prod.fst x) : Int))))
   1 V.undef,
   V.int IntKind.i64 (k + (3 : Int) * (↑(Prod.fst x) : Int) + (1 : Int) + (1 : Int))]))
   100)])
   (AS.mk
   [(0, V.osl 0 (List.length y0)),
   (1, V.int IntKind.i64 (k + (3 : Int) * (↑(Prod.fst y) : Int))),
   (5, V.int IntKind.i64 (↑(Prod.fst y) : Int))]
   [(0, Blk.arr 3 (List.length y0) (gL (encCert 1) (Prod.snd y)) 100)])) ∧
   (((Prod.fst y ≤ List.length y0) ∧
   ((List.length (Prod.snd y) = List.length y0) ∧
   (∀ j : Nat,
   ((j < Prod.fst y) →
   (List.getD (Prod.snd y) j default =
   Cert.mk (k + (3 : Int) * (↑j : Int)) (k + (3 : Int) * (↑j : Int) + (1 : Int)) (k + (3 : Int) * (↑j : Int) + (2 : Int))))))) ∧
   (List.length y0 - Prod.fst y < List.length y0 - Prod.fst x))))))))))))))) ∧
   ((decide ((↑(Prod.fst x) : Int) < (↑(List.length y0) : Int)) = false) →
   ((VLe (V.int IntKind.i64 (k + (3 : Int) * (↑(Prod.fst x) : Int)))
   (V.int IntKind.i64 (k + (3 : Int) * (↑(List.length y0) : Int)))) ∧
   ((BLe (Blk.arr 3 (List.length y0) (gL (encCert 1) (Prod.snd x)) 100)
   (Blk.arr 3 (List.length y0) (gL (encCert 1) (markC k (List.length y0))) 100)) ∧
   (True)))))))) := by
    unfold pr113 at hpre
    refine ⟨⟨(0, y0), SLe.refl' (by simp), by omega, rfl, fun j hj => absurd hj (Nat.not_lt_zero j)⟩, ?_⟩
    rintro ⟨i, ys⟩ ⟨hi, hl, hj⟩
    simp only at hi hl hj ⊢
    refine ⟨fun h => ?_, fun h => ?_⟩
    · have hlt : i < y0.length := by simpa using h
      simp only [Int.toNat_natCast]
      refine ⟨by omega, by omega, inK64 (by omega), by omega, by omega, inK64 (by omega), by omega, by omega, inK64 (by omega), inK64 (by omega), (i + 1, ys.set i ⟨k + 3 * i, k + 3 * i + 1, k + 3 * i + 2⟩), ?_, ⟨by simp only; omega, by simpa using hl, fun j h3 => ?_⟩, by simp only; omega⟩
      · refine sle_of ⟨rfl, VLe.refl _, rfl, vle_int (by simp only; omega), rfl, vle_int (by simp), trivial⟩ ⟨rfl, ?_, trivial⟩
        refine ble_arr (fun q hq => ?_) (Or.inl rfl)
        by_cases e : q = i
        · subst e
          simp only [gL]
          rw [getD_set_eq _ _ _ _ (show q < ys.length by omega)]
          refine ELe.of_eq ?_
          simp [setg, gL, V.cells, encCert]
          omega
        · simp only [setg, e, if_false, gL]
          rw [getD_set_ne _ _ _ _ e]
          exact ELe.refl _
      · simp only at h3 ⊢
        by_cases e : j = i
        · subst e; rw [getD_set_eq _ _ _ _ (by omega)]
        · rw [getD_set_ne _ _ _ _ e]; exact hj j (by omega)
    · have hge : i = y0.length := by simp at h; omega
      subst hge
      refine ⟨vle_int rfl, ble_arr (fun j hj' => ELe.of_eq ?_) (Or.inl rfl), trivial⟩
      simp only [gL]
      rw [hj j hj', markC_get _ _ _ hj']
  exact Eq.mp (by kernel_rfl) key
noncomputable def sp113 : FSpec := fun args bin => match args, bin with
  | [.osl i0 m0, .int .i64 k], [.arr s0 p0 g0 t0] => some ((i0 = 0 ∧ s0 = 3 ∧ t0 = tagS ∧ p0 = m0 ∧ ∃ y : List Cert, y.length = m0 ∧ ∀ i, i < m0 → ELe (g0 i) (gL (encCert 1) y i)) ∧ pr113 m0 k, .int .i64 (k + 3 * (m0 : Int)), [.arr 3 m0 (gL (encCert 1) (markC k m0)) tagS])
  | _, _ => none
theorem so113 : Sound Try.prog 113 sp113 := by
  refine sound_of_bodyO hmix (tpl := []) Try.func113 rfl (by kernel_rfl) fun args bin ob r bout hDe hob => ?_
  unfold sp113 at hDe
  split at hDe
  · rename_i i0 m0 k s0 p0 g0 t0
    cases hDe
    obtain ⟨⟨rfl, rfl, rfl, rfl, y0, rfl, h0⟩, hpre⟩ := hob
    exact ⟨Nat.le_of_ble_eq_true (by kernel_rfl), cx113 y0 k, Eq.mp (by kernel_rfl) htt, Eq.mp (by kernel_rfl) da113, Eq.mp (by kernel_rfl) (noM_sound (P := Try.prog)), by kernel_rfl, _, [.arr 3 y0.length (gL (encCert 1) y0) tagS], ArgsLe.refl _, ⟨ble_arr h0 (Or.inl rfl), trivial⟩, Eq.mp (by kernel_rfl) (bd113 y0 k hpre)⟩
  · cases hDe

/-! ### laws.markIntsResult -/
noncomputable def D47 : Nat → Option (Bool × FSpec) := lk [(56, (true, sp56))]
theorem da47 : SoundAll Try.prog D47 := soundAll_cons so56 (soundAll_nil)
noncomputable def cx47 (c0 : Int) (y0 : List Int) (k : Int) : Cx := ⟨tt, D47, Try.f47.ntmps, [0, 1, 2, 4], [], [], fun _ => none, [], noM, []⟩
def pr47 (n0 : Nat) (k : Int) : Prop := 0 ≤ k ∧ k + n0 ≤ 4611686018427387904
theorem bd47 (c0 : Int) (y0 : List Int) (k : Int) (hpre : pr47 y0.length k) : bodyO (cx47 c0 y0 k) Try.f47 [] [.agg [.int .i64 (c0), .osl 0 y0.length], .int .i64 k] [.arr 1 y0.length (gL encI y0) tagS] (fun rr bs => VLe rr (.int .i64 (k + (y0.length : Int))) ∧ BinLe bs [.arr 1 y0.length (gL encI (markI k y0.length)) tagS]) := by
  have key :
      ((((0 = 0) ∧
   ((1 = 1) ∧
   ((100 = 100) ∧
   ((List.length y0 = List.length y0) ∧
   (∃ y : List Int, ((List.length y = List.length y0) ∧
   (∀ i : Nat,
   ((i < List.length y0) →
   (ELe (V.int IntKind.i64 (List.getD y0 i default)) (V.int IntKind.i64 (List.getD y i default))))))))))) ∧
   (pr56 (List.length y0) k)) ∧
   ((List.length y0 = List.length y0) ∧
   ((VLe (V.int IntKind.i64 (k + (↑(List.length y0) : Int))) (V.int IntKind.i64 (k + (↑(List.length y0) : Int)))) ∧
   ((BLe (Blk.arr 1 (List.length y0) (gL encI (markI k (List.length y0))) 100)
   (Blk.arr 1 (List.length y0) (gL encI (markI k (List.length y0))) 100)) ∧
   (True))))) := by
    exact ⟨⟨⟨rfl, rfl, rfl, rfl, y0, rfl, fun _ _ => ELe.refl _⟩, hpre⟩, rfl, VLe.refl _, BLe.refl _, trivial⟩
  exact Eq.mp (by kernel_rfl) key
noncomputable def sp47 : FSpec := fun args bin => match args, bin with
  | [.agg [.int .i64 (c0), .osl i0 m0], .int .i64 k], [.arr s0 p0 g0 t0] => some ((i0 = 0 ∧ s0 = 1 ∧ t0 = tagS ∧ p0 = m0 ∧ ∃ y : List Int, y.length = m0 ∧ ∀ i, i < m0 → ELe (g0 i) (gL encI y i)) ∧ pr47 m0 k, .int .i64 (k + (m0 : Int)), [.arr 1 m0 (gL encI (markI k m0)) tagS])
  | _, _ => none
theorem so47 : Sound Try.prog 47 sp47 := by
  refine sound_of_bodyO hmix (tpl := []) Try.func47 rfl (by kernel_rfl) fun args bin ob r bout hDe hob => ?_
  unfold sp47 at hDe
  split at hDe
  · rename_i c0 i0 m0 k s0 p0 g0 t0
    cases hDe
    obtain ⟨⟨rfl, rfl, rfl, rfl, y0, rfl, h0⟩, hpre⟩ := hob
    exact ⟨Nat.le_of_ble_eq_true (by kernel_rfl), cx47 c0 y0 k, Eq.mp (by kernel_rfl) htt, Eq.mp (by kernel_rfl) da47, Eq.mp (by kernel_rfl) (noM_sound (P := Try.prog)), by kernel_rfl, _, [.arr 1 y0.length (gL encI y0) tagS], ArgsLe.refl _, ⟨ble_arr h0 (Or.inl rfl), trivial⟩, Eq.mp (by kernel_rfl) (bd47 c0 y0 k hpre)⟩
  · cases hDe

/-! ### laws.markCertsResult -/
noncomputable def D52 : Nat → Option (Bool × FSpec) := lk [(113, (true, sp113))]
theorem da52 : SoundAll Try.prog D52 := soundAll_cons so113 (soundAll_nil)
noncomputable def cx52 (c0 : Int) (y0 : List Cert) (k : Int) : Cx := ⟨tt, D52, Try.f52.ntmps, [0, 1, 2, 4], [], [], fun _ => none, [], noM, []⟩
def pr52 (n0 : Nat) (k : Int) : Prop := 0 ≤ k ∧ k + 3 * n0 ≤ 4611686018427387904
theorem bd52 (c0 : Int) (y0 : List Cert) (k : Int) (hpre : pr52 y0.length k) : bodyO (cx52 c0 y0 k) Try.f52 [] [.agg [.int .i64 (c0), .osl 0 y0.length], .int .i64 k] [.arr 3 y0.length (gL (encCert 1) y0) tagS] (fun rr bs => VLe rr (.int .i64 (k + 3 * (y0.length : Int))) ∧ BinLe bs [.arr 3 y0.length (gL (encCert 1) (markC k y0.length)) tagS]) := by
  have key :
      ((((0 = 0) ∧
   ((3 = 3) ∧
   ((100 = 100) ∧
   ((List.length y0 = List.length y0) ∧
   (∃ y : List Cert, ((List.length y = List.length y0) ∧
   (∀ i : Nat,
   ((i < List.length y0) →
   (ELe (encCert 1 (List.getD y0 i default)) (encCert 1 (List.getD y i default))))))))))) ∧
   (pr113 (List.length y0) k)) ∧
   ((List.length y0 = List.length y0) ∧
   ((VLe (V.int IntKind.i64 (k + (3 : Int) * (↑(List.length y0) : Int)))
   (V.int IntKind.i64 (k + (3 : Int) * (↑(List.length y0) : Int)))) ∧
   ((BLe (Blk.arr 3 (List.length y0) (gL (encCert 1) (markC k (List.length y0))) 100)
   (Blk.arr 3 (List.length y0) (gL (encCert 1) (markC k (List.length y0))) 100)) ∧
   (True))))) := by
    exact ⟨⟨⟨rfl, rfl, rfl, rfl, y0, rfl, fun _ _ => ELe.refl _⟩, hpre⟩, rfl, VLe.refl _, BLe.refl _, trivial⟩
  exact Eq.mp (by kernel_rfl) key
noncomputable def sp52 : FSpec := fun args bin => match args, bin with
  | [.agg [.int .i64 (c0), .osl i0 m0], .int .i64 k], [.arr s0 p0 g0 t0] => some ((i0 = 0 ∧ s0 = 3 ∧ t0 = tagS ∧ p0 = m0 ∧ ∃ y : List Cert, y.length = m0 ∧ ∀ i, i < m0 → ELe (g0 i) (gL (encCert 1) y i)) ∧ pr52 m0 k, .int .i64 (k + 3 * (m0 : Int)), [.arr 3 m0 (gL (encCert 1) (markC k m0)) tagS])
  | _, _ => none
theorem so52 : Sound Try.prog 52 sp52 := by
  refine sound_of_bodyO hmix (tpl := []) Try.func52 rfl (by kernel_rfl) fun args bin ob r bout hDe hob => ?_
  unfold sp52 at hDe
  split at hDe
  · rename_i c0 i0 m0 k s0 p0 g0 t0
    cases hDe
    obtain ⟨⟨rfl, rfl, rfl, rfl, y0, rfl, h0⟩, hpre⟩ := hob
    exact ⟨Nat.le_of_ble_eq_true (by kernel_rfl), cx52 c0 y0 k, Eq.mp (by kernel_rfl) htt, Eq.mp (by kernel_rfl) da52, Eq.mp (by kernel_rfl) (noM_sound (P := Try.prog)), by kernel_rfl, _, [.arr 3 y0.length (gL (encCert 1) y0) tagS], ArgsLe.refl _, ⟨ble_arr h0 (Or.inl rfl), trivial⟩, Eq.mp (by kernel_rfl) (bd52 c0 y0 k hpre)⟩
  · cases hDe

/-! ### laws.markMsg -/
noncomputable def D73 : Nat → Option (Bool × FSpec) := lk [(113, (true, sp113)), (56, (true, sp56))]
theorem da73 : SoundAll Try.prog D73 := soundAll_cons so113 (soundAll_cons so56 (soundAll_nil))
noncomputable def cx73 (c0 : Int) (c1 : Int) (c2 : Int) (c3 : Int) (c4 : Int) (y0 : List Cert) (y1 : List Int) (k : Int) : Cx := ⟨tt, D73, Try.f73.ntmps, [0, 1, 2, 4], [], [], fun _ => none, [], noM, []⟩
def pr73 (n0 : Nat) (n1 : Nat) (k : Int) : Prop := 0 ≤ k ∧ k + 3 * n0 + n1 ≤ 4611686018427387904
theorem bd73 (c0 : Int) (c1 : Int) (c2 : Int) (c3 : Int) (c4 : Int) (y0 : List Cert) (y1 : List Int) (k : Int) (hpre : pr73 y0.length y1.length k) : bodyO (cx73 c0 c1 c2 c3 c4 y0 y1 k) Try.f73 [] [.agg [.int .i64 (c0), .int .i64 (c1), .int .i64 (c2), .int .i64 (c3), .int .i64 (c4), .osl 0 y0.length, .osl 1 y1.length], .int .i64 k] [.arr 3 y0.length (gL (encCert 1) y0) tagS, .arr 1 y1.length (gL encI y1) tagS] (fun rr bs => VLe rr (.int .i64 (k + 3 * (y0.length : Int) + (y1.length : Int))) ∧ BinLe bs [.arr 3 y0.length (gL (encCert 1) (markC k y0.length)) tagS, .arr 1 y1.length (gL encI (markI (k + 3 * y0.length) y1.length)) tagS]) := by
  have key :
      ((((0 = 0) ∧
   ((3 = 3) ∧
   ((100 = 100) ∧
   ((List.length y0 = List.length y0) ∧
   (∃ y : List Cert, ((List.length y = List.length y0) ∧
   (∀ i : Nat,
   ((i < List.length y0) →
   (ELe (encCert 1 (List.getD y0 i default)) (encCert 1 (List.getD y i default))))))))))) ∧
   (pr113 (List.length y0) k)) ∧
   ((List.length y0 = List.length y0) ∧
   ((((0 = 0) ∧
   ((1 = 1) ∧
   ((100 = 100) ∧
   ((List.length y1 = List.length y1) ∧
   (∃ y : List Int, ((List.length y = List.length y1) ∧
   (∀ i : Nat,
   ((i < List.length y1) →
   (ELe (V.int IntKind.i64 (List.getD y1 i default)) (V.int IntKind.i64 (List.getD y i default))))))))))) ∧
   (pr56 (List.length y1) (k + (3 : Int) * (↑(List.length y0) : Int)))) ∧
   ((List.length y1 = List.length y1) ∧
   ((VLe (V.int IntKind.i64 (k + (3 : Int) * (↑(List.length y0) : Int) + (↑(List.length y1) : Int)))
   (V.int IntKind.i64 (k + (3 : Int) * (↑(List.length y0) : Int) + (↑(List.length y1) : Int)))) ∧
   ((BLe (Blk.arr 3 (List.length y0) (gL (encCert 1) (markC k (List.length y0))) 100)
   (Blk.arr 3 (List.length y0) (gL (encCert 1) (markC k (List.length y0))) 100)) ∧
   ((BLe
   (Blk.arr 1 (List.length y1) (gL encI (markI (k + (3 : Int) * (↑(List.length y0) : Int)) (List.length y1)))
   100)
   (Blk.arr 1 (List.length y1) (gL encI (markI (k + (3 : Int) * (↑(List.length y0) : Int)) (List.length y1)))
   100)) ∧
   (True)))))))) := by
    unfold pr73 at hpre
    refine ⟨⟨⟨rfl, rfl, rfl, rfl, y0, rfl, fun _ _ => ELe.refl _⟩, by unfold pr113; omega⟩, rfl, ⟨⟨rfl, rfl, rfl, rfl, y1, rfl, fun _ _ => ELe.refl _⟩, by unfold pr56; omega⟩, rfl, VLe.refl _, BLe.refl _, BLe.refl _, trivial⟩
  exact Eq.mp (by kernel_rfl) key
noncomputable def sp73 : FSpec := fun args bin => match args, bin with
  | [.agg [.int .i64 (c0), .int .i64 (c1), .int .i64 (c2), .int .i64 (c3), .int .i64 (c4), .osl i0 m0, .osl i1 m1], .int .i64 k], [.arr s0 p0 g0 t0, .arr s1 p1 g1 t1] => some ((i0 = 0 ∧ s0 = 3 ∧ t0 = tagS ∧ p0 = m0 ∧ ∃ y : List Cert, y.length = m0 ∧ ∀ i, i < m0 → ELe (g0 i) (gL (encCert 1) y i)) ∧ (i1 = 1 ∧ s1 = 1 ∧ t1 = tagS ∧ p1 = m1 ∧ ∃ y : List Int, y.length = m1 ∧ ∀ i, i < m1 → ELe (g1 i) (gL encI y i)) ∧ pr73 m0 m1 k, .int .i64 (k + 3 * (m0 : Int) + (m1 : Int)), [.arr 3 m0 (gL (encCert 1) (markC k m0)) tagS, .arr 1 m1 (gL encI (markI (k + 3 * m0) m1)) tagS])
  | _, _ => none
theorem so73 : Sound Try.prog 73 sp73 := by
  refine sound_of_bodyO hmix (tpl := []) Try.func73 rfl (by kernel_rfl) fun args bin ob r bout hDe hob => ?_
  unfold sp73 at hDe
  split at hDe
  · rename_i c0 c1 c2 c3 c4 i0 m0 i1 m1 k s0 p0 g0 t0 s1 p1 g1 t1
    cases hDe
    obtain ⟨⟨rfl, rfl, rfl, rfl, y0, rfl, h0⟩, ⟨rfl, rfl, rfl, rfl, y1, rfl, h1⟩, hpre⟩ := hob
    exact ⟨Nat.le_of_ble_eq_true (by kernel_rfl), cx73 c0 c1 c2 c3 c4 y0 y1 k, Eq.mp (by kernel_rfl) htt, Eq.mp (by kernel_rfl) da73, Eq.mp (by kernel_rfl) (noM_sound (P := Try.prog)), by kernel_rfl, _, [.arr 3 y0.length (gL (encCert 1) y0) tagS, .arr 1 y1.length (gL encI y1) tagS], ArgsLe.refl _, ⟨ble_arr h0 (Or.inl rfl), ble_arr h1 (Or.inl rfl), trivial⟩, Eq.mp (by kernel_rfl) (bd73 c0 c1 c2 c3 c4 y0 y1 k hpre)⟩
  · cases hDe

/-- What is told of a row that is held against its marks. -/
def heldI (xs : List Int) (k : Int) : Int := if xs = markI k xs.length then k + xs.length else -1
noncomputable def heldC (xs : List Cert) (k : Int) : Int := if xs = markC k xs.length then k + 3 * xs.length else -1
theorem heldI_mark (k : Int) (n : Nat) : heldI (markI k n) k = k + n := by simp [heldI]
theorem heldC_mark (k : Int) (n : Nat) : heldC (markC k n) k = k + 3 * n := by simp [heldC]
theorem eq_of_getD {α : Type} [Inhabited α] {xs ys : List α} (hl : xs.length = ys.length) (h : ∀ j, j < xs.length → xs.getD j default = ys.getD j default) : xs = ys := by
  refine List.ext_getElem hl fun k h1 h2 => ?_
  have := h k h1
  simpa [h1, h2] using this

/-! ### Marked rows as values -/
theorem decL_markI (k : Int) (n t : Nat) : decL decI (.sl n (gL encI (markI k n)) t) = markI k n := by
  have h := decL_encL decI_encI t (markI k n)
  unfold encL at h
  rwa [markI_len] at h
theorem vle_markI (k : Int) (n t : Nat) : VLe (.sl n (gL encI (markI k n)) t) (encL encI t (markI k n)) := by
  unfold encL
  rw [markI_len]
  exact VLe.refl _
theorem decL_markC (k : Int) (n t : Nat) : decL decCert (.sl n (gL (encCert 1) (markC k n)) t) = markC k n := by
  have h := decL_encL (dec_encCert 1) t (markC k n)
  unfold encL at h
  rwa [markC_len] at h
theorem vle_markC (k : Int) (n t : Nat) : VLe (.sl n (gL (encCert 1) (markC k n)) t) (encL (encCert 1) t (markC k n)) := by
  unfold encL
  rw [markC_len]
  exact VLe.refl _
theorem dec_markInts (c k : Int) (n : Nat) : decIntsResult (.agg [.int .i64 c, .sl n (gL encI (markI k n)) 1]) = ⟨c, markI k n⟩ := by
  show (⟨c, decL decI (.sl n (gL encI (markI k n)) 1)⟩ : IntsResult) = _
  rw [decL_markI]
theorem vle_markInts (c k : Int) (n : Nat) : VLe (.agg [.int .i64 c, .sl n (gL encI (markI k n)) 1]) (encIntsResult 1 ⟨c, markI k n⟩) := vle_agg ⟨VLe.refl _, vle_markI k n 1, trivial⟩
theorem dec_markCerts (c k : Int) (n : Nat) : decCertsResult (.agg [.int .i64 c, .sl n (gL (encCert 1) (markC k n)) 1]) = ⟨c, markC k n⟩ := by
  show (⟨c, decL decCert (.sl n (gL (encCert 1) (markC k n)) 1)⟩ : CertsResult) = _
  rw [decL_markC]
theorem vle_markCerts (c k : Int) (n : Nat) : VLe (.agg [.int .i64 c, .sl n (gL (encCert 1) (markC k n)) 1]) (encCertsResult 1 ⟨c, markC k n⟩) := vle_agg ⟨VLe.refl _, vle_markC k n 1, trivial⟩
/-- What the bound on the arguments gives for marks. -/
theorem cntL_le {l : List Msg} {n : Nat} (hl : l.length ≤ n) (h : ∀ x ∈ l, x.certs.length ≤ n ∧ x.refs.length ≤ n) : cntL l l.length ≤ (l.length : Int) * (5 + 4 * n) := by
  unfold cntL
  rw [List.take_length]
  clear hl
  induction l with
  | nil => simp
  | cons x r ih =>
    have h1 := h x (by simp)
    have h2 := ih fun y hy => h y (List.mem_cons_of_mem _ hy)
    have h3 : cntM x ≤ 5 + 4 * (n : Int) := by unfold cntM; omega
    simp only [List.map_cons, List.sum_cons, List.length_cons]
    rw [Int.natCast_add, Int.add_mul]
    omega

/-! ### laws.heldInt64S -/
def pr114 (xs : List Int) (k : Int) : Prop := 0 ≤ k ∧ k + xs.length ≤ 4611686018427387904
noncomputable def rs114 (xs : List Int) (k : Int) : V := .int .i64 (heldI xs k)
noncomputable def sp114 : FSpec := fun args bin => match args, bin with
  | [a0, .int .i64 a1], [] => some (VLe a0 (encL encI 1 (((decL decI) a0))) ∧ pr114 ((decL decI) a0) a1, rs114 ((decL decI) a0) a1, [])
  | _, _ => none
noncomputable def in114_2 (xs : List Int) (k : Int) : LoopInv :=
  ⟨Nat, fun i => ⟨[(0, encL encI 1 xs), (1, .int .i64 (k + i)), (5, .int .i64 i)], []⟩, fun i => i ≤ xs.length ∧ ∀ j, j < i → xs.getD j default = k + j, fun i => xs.length - i⟩
noncomputable def iv114 (xs : List Int) (k : Int) : Nat → Option LoopInv := fun rg_ => match rg_ with
  | 2 => some (in114_2 xs k)
  | _ => none
noncomputable def D114 : Nat → Option (Bool × FSpec) := lk []
theorem da114 : SoundAll Try.prog D114 := soundAll_nil
noncomputable def cx114 (xs : List Int) (k : Int) : Cx := ⟨tt, D114, Try.f114.ntmps, [0, 1, 4, 5, 9, 17], [(2, ⟨[(0, none), (1, none), (5, none)], []⟩)], [], iv114 xs k, [], noM, []⟩
theorem bd114 (xs : List Int) (k : Int) (hpre : pr114 xs k) : bodyP (cx114 xs k) Try.f114 0 [encL encI 1 (xs), .int .i64 (k)] (fun rr => VLe rr (rs114 xs k)) := by
  have key :
      ((∃ x : Nat, ((SLe
   (AS.mk
   [(0, encL encI 1 xs), (1, V.int IntKind.i64 k), (5, V.int IntKind.i64 (0 : Int))]
   [])
   (AS.mk
   [(0, encL encI 1 xs), (1, V.int IntKind.i64 (k + (↑x : Int))),
   (5, V.int IntKind.i64 (↑x : Int))]
   [])) ∧
   ((x ≤ List.length xs) ∧
   (∀ j : Nat,
   ((j < x) →
   (List.getD xs j default = k + (↑j : Int))))))) ∧
   (∀ x : Nat,
   (((x ≤ List.length xs) ∧
   (∀ j : Nat,
   ((j < x) →
   (List.getD xs j default = k + (↑j : Int))))) →
   (((decide ((↑x : Int) < (↑(List.length xs) : Int)) = true) →
   ((((0 : Int) ≤ (↑x : Int)) ∧
   ((↑x : Int) < (↑(List.length xs) : Int))) ∧
   ((((List.getD xs (Int.toNat (↑x : Int)) default != k + (↑x : Int)) = true) →
   (VLe (V.int IntKind.i64 (-1 : Int)) (V.int IntKind.i64 (heldI xs k)))) ∧
   (((List.getD xs (Int.toNat (↑x : Int)) default != k + (↑x : Int)) = false) →
   ((inK IntKind.i64 (k + (↑x : Int) + (1 : Int))) ∧
   ((inK IntKind.i64 ((↑x : Int) + (1 : Int))) ∧
   (∃ y : Nat, ((SLe
   (AS.mk
   [(0, encL encI 1 xs), (1, V.int IntKind.i64 (k + (↑x : Int) + (1 : Int))),
   (5, V.int IntKind.i64 ((↑x : Int) + (1 : Int)))]
   [])
   (AS.mk
   [(0, encL encI 1 xs), (1, V.int IntKind.i64 (k + (↑y : Int))),
   (5, V.int IntKind.i64 (↑y : Int))]
   [])) ∧
   (((y ≤ List.length xs) ∧
   (∀ j : Nat,
   ((j < y) →
   (List.getD xs j default = k + (↑j : Int))))) ∧
   (List.length xs - y < List.length xs - x)))))))))) ∧
   ((decide ((↑x : Int) < (↑(List.length xs) : Int)) = false) →
   (VLe (V.int IntKind.i64 (k + (↑x : Int))) (V.int IntKind.i64 (heldI xs k)))))))) := by
    unfold pr114 at hpre
    refine ⟨⟨0, SLe.refl' (by simp), by omega, fun j hj => absurd hj (Nat.not_lt_zero j)⟩, ?_⟩
    rintro i ⟨hi, hj⟩
    refine ⟨fun h => ?_, fun h => ?_⟩
    · have hlt : i < xs.length := by simpa using h
      simp only [Int.toNat_natCast]
      refine ⟨by omega, fun h2 => ?_, fun h2 => ⟨inK64 (by omega), inK64 (by omega), i + 1, sle_of ⟨rfl, VLe.refl _, rfl, vle_int (by omega), rfl, vle_int (by omega), trivial⟩ trivial, ⟨by omega, fun j h3 => ?_⟩, by omega⟩⟩
      · refine vle_int ?_
        have : xs ≠ markI k xs.length := fun e => by
          have h4 : xs.getD i default = k + i := by
            have := markI_get k xs.length i hlt
            rw [← e] at this
            exact this
          rw [h4] at h2
          simp at h2
        unfold heldI
        rw [if_neg this]
      · rcases Nat.lt_or_ge j i with h4 | h4
        · exact hj j h4
        · have : j = i := by omega
          subst this
          simpa using h2
    · refine vle_int ?_
      have hge : i = xs.length := by simp at h; omega
      subst hge
      have : xs = markI k xs.length := eq_of_getD (by simp) fun j hj' => by rw [hj j hj', markI_get _ _ _ hj']
      unfold heldI
      rw [if_pos this]
  exact Eq.mp (by kernel_rfl) key
theorem so114 : Sound Try.prog 114 sp114 := by
  refine sound_of_body hmix (pol := 0) Try.func114 rfl (by kernel_rfl) fun args bin ob r bout hDe hob => ?_
  unfold sp114 at hDe
  split at hDe
  · rename_i a0 a1
    cases hDe
    exact ⟨rfl, rfl, Nat.le_of_ble_eq_true (by kernel_rfl), cx114 ((decL decI) a0) a1, Eq.mp (by kernel_rfl) htt, Eq.mp (by kernel_rfl) da114, Eq.mp (by kernel_rfl) (noM_sound (P := Try.prog)), by kernel_rfl, [encL encI 1 (((decL decI) a0)), .int .i64 (a1)], args_of_vles (⟨hob.1, VLe.refl _, trivial⟩), Eq.mp (by kernel_rfl) (bd114 ((decL decI) a0) a1 (hob.2))⟩
  · cases hDe

/-! ### laws.heldCertS -/
def pr117 (xs : List Cert) (k : Int) : Prop := 0 ≤ k ∧ k + 3 * xs.length ≤ 4611686018427387904
noncomputable def rs117 (xs : List Cert) (k : Int) : V := .int .i64 (heldC xs k)
noncomputable def sp117 : FSpec := fun args bin => match args, bin with
  | [a0, .int .i64 a1], [] => some (VLe a0 (encL (encCert 1) 1 (((decL decCert) a0))) ∧ pr117 ((decL decCert) a0) a1, rs117 ((decL decCert) a0) a1, [])
  | _, _ => none
noncomputable def in117_2 (xs : List Cert) (k : Int) : LoopInv :=
  ⟨Nat, fun i => ⟨[(0, encL (encCert 1) 1 xs), (1, .int .i64 (k + 3 * i)), (5, .int .i64 i)], []⟩, fun i => i ≤ xs.length ∧ ∀ j, j < i → xs.getD j default = ⟨k + 3 * j, k + 3 * j + 1, k + 3 * j + 2⟩, fun i => xs.length - i⟩
noncomputable def iv117 (xs : List Cert) (k : Int) : Nat → Option LoopInv := fun rg_ => match rg_ with
  | 2 => some (in117_2 xs k)
  | _ => none
noncomputable def D117 : Nat → Option (Bool × FSpec) := lk []
theorem da117 : SoundAll Try.prog D117 := soundAll_nil
noncomputable def cx117 (xs : List Cert) (k : Int) : Cx := ⟨tt, D117, Try.f117.ntmps, [0, 1, 4, 5, 9, 18, 27, 36], [(2, ⟨[(0, none), (1, none), (5, none)], []⟩)], [], iv117 xs k, [], noM, []⟩
theorem bd117 (xs : List Cert) (k : Int) (hpre : pr117 xs k) : bodyP (cx117 xs k) Try.f117 0 [encL (encCert 1) 1 (xs), .int .i64 (k)] (fun rr => VLe rr (rs117 xs k)) := by
  have key :
      ((∃ x : Nat, ((SLe
   (AS.mk
   [(0, encL (encCert 1) 1 xs), (1, V.int IntKind.i64 k),
   (5, V.int IntKind.i64 (0 : Int))]
   [])
   (AS.mk
   [(0, encL (encCert 1) 1 xs), (1, V.int IntKind.i64 (k + (3 : Int) * (↑x : Int))),
   (5, V.int IntKind.i64 (↑x : Int))]
   [])) ∧
   ((x ≤ List.length xs) ∧
   (∀ j : Nat,
   ((j < x) →
   (List.getD xs j default =
   Cert.mk (k + (3 : Int) * (↑j : Int)) (k + (3 : Int) * (↑j : Int) + (1 : Int)) (k + (3 : Int) * (↑j : Int) + (2 : Int)))))))) ∧
   (∀ x : Nat,
   (((x ≤ List.length xs) ∧
   (∀ j : Nat,
   ((j < x) →
   (List.getD xs j default =
   Cert.mk (k + (3 : Int) * (↑j : Int)) (k + (3 : Int) * (↑j : Int) + (1 : Int)) (k + (3 : Int) * (↑j : Int) + (2 : Int)))))) →
   (((decide ((↑x : Int) < (↑(List.length xs) : Int)) = true) →
   ((((0 : Int) ≤ (↑x : Int)) ∧
   ((↑x : Int) < (↑(List.length xs) : Int))) ∧
   ((((Cert.slot (List.getD xs (Int.toNat (↑x : Int)) default) != k + (3 : Int) * (↑x : Int)) = true) →
   (VLe (V.int IntKind.i64 (-1 : Int)) (V.int IntKind.i64 (heldC xs k)))) ∧
   (((Cert.slot (List.getD xs (Int.toNat (↑x : Int)) default) != k + (3 : Int) * (↑x : Int)) = false) →
   ((inK IntKind.i64 (k + (3 : Int) * (↑x : Int) + (1 : Int))) ∧
   ((((0 : Int) ≤ (↑x : Int)) ∧
   ((↑x : Int) < (↑(List.length xs) : Int))) ∧
   ((((Cert.view (List.getD xs (Int.toNat (↑x : Int)) default) != k + (3 : Int) * (↑x : Int) + (1 : Int)) = true) →
   (VLe (V.int IntKind.i64 (-1 : Int)) (V.int IntKind.i64 (heldC xs k)))) ∧
   (((Cert.view (List.getD xs (Int.toNat (↑x : Int)) default) != k + (3 : Int) * (↑x : Int) + (1 : Int)) = false) →
   ((inK IntKind.i64 (k + (3 : Int) * (↑x : Int) + (1 : Int) + (1 : Int))) ∧
   ((((0 : Int) ≤ (↑x : Int)) ∧
   ((↑x : Int) < (↑(List.length xs) : Int))) ∧
   ((((Cert.value (List.getD xs (Int.toNat (↑x : Int)) default) != k + (3 : Int) * (↑x : Int) + (1 : Int) + (1 : Int)) = true) →
   (VLe (V.int IntKind.i64 (-1 : Int)) (V.int IntKind.i64 (heldC xs k)))) ∧
   (((Cert.value (List.getD xs (Int.toNat (↑x : Int)) default) != k + (3 : Int) * (↑x : Int) + (1 : Int) + (1 : Int)) = false) →
   ((inK IntKind.i64 (k + (3 : Int) * (↑x : Int) + (1 : Int) + (1 : Int) + (1 : Int))) ∧
   ((inK IntKind.i64 ((↑x : Int) + (1 : Int))) ∧
   (∃ y : Nat, ((SLe
   (AS.mk
   [(0, encL (encCert 1) 1 xs),
   (1, V.int IntKind.i64 (k + (3 : Int) * (↑x : Int) + (1 : Int) + (1 : Int) + (1 : Int))),
   (5, V.int IntKind.i64 ((↑x : Int) + (1 : Int)))]
   [])
   (AS.mk
   [(0, encL (encCert 1) 1 xs), (1, V.int IntKind.i64 (k + (3 : Int) * (↑y : Int))),
   (5, V.int IntKind.i64 (↑y : Int))]
   [])) ∧
   (((y ≤ List.length xs) ∧
   (∀ j : Nat,
   ((j < y) →
   (List.getD xs j default =
   Cert.mk (k + (3 : Int) * (↑j : Int)) (k + (3 : Int) * (↑j : Int) + (1 : Int)) (k + (3 : Int) * (↑j : Int) + (2 : Int)))))) ∧
   (List.length xs - y < List.length xs - x)))))))))))))))))) ∧
   ((decide ((↑x : Int) < (↑(List.length xs) : Int)) = false) →
   (VLe (V.int IntKind.i64 (k + (3 : Int) * (↑x : Int))) (V.int IntKind.i64 (heldC xs k)))))))) := by
    unfold pr117 at hpre
    refine ⟨⟨0, SLe.refl' (by simp), by omega, fun j hj => absurd hj (Nat.not_lt_zero j)⟩, ?_⟩
    rintro i ⟨hi, hj⟩
    refine ⟨fun h => ?_, fun h => ?_⟩
    · have hlt : i < xs.length := by simpa using h
      have no : xs.getD i default ≠ ⟨k + 3 * i, k + 3 * i + 1, k + 3 * i + 2⟩ → VLe (.int .i64 (-1)) (.int .i64 (heldC xs k)) := fun hn => by
        refine vle_int ?_
        have : xs ≠ markC k xs.length := fun e => hn (by rw [e]; exact markC_get _ _ _ hlt)
        unfold heldC
        rw [if_neg this]
      simp only [Int.toNat_natCast]
      refine ⟨by omega, fun h2 => ?_, fun h2 => ⟨inK64 (by omega), by omega, fun h3 => ?_, fun h3 => ⟨inK64 (by omega), by omega, fun h4 => ?_, fun h4 => ⟨inK64 (by omega), inK64 (by omega), i + 1, sle_of ⟨rfl, VLe.refl _, rfl, vle_int (by omega), rfl, vle_int (by omega), trivial⟩ trivial, ⟨by omega, fun j h5 => ?_⟩, by omega⟩⟩⟩⟩
      · exact no fun e => by rw [e] at h2; simp at h2
      · exact no fun e => by rw [e] at h3; simp at h3
      · exact no fun e => by rw [e] at h4; simp at h4; omega
      · rcases Nat.lt_or_ge j i with h6 | h6
        · exact hj j h6
        · have : j = i := by omega
          subst this
          rw [eq_Cert]
          have a2 : (xs.getD j default).slot = k + 3 * j := by simpa using h2
          have a3 : (xs.getD j default).view = k + 3 * j + 1 := by simpa using h3
          have a4 : (xs.getD j default).value = k + 3 * j + 1 + 1 := by simpa using h4
          exact ⟨a2, a3, a4.trans (by simp only; omega)⟩
    · refine vle_int ?_
      have hge : i = xs.length := by simp at h; omega
      subst hge
      have : xs = markC k xs.length := eq_of_getD (by simp) fun j hj' => by rw [hj j hj', markC_get _ _ _ hj']
      unfold heldC
      rw [if_pos this]
  exact Eq.mp (by kernel_rfl) key
theorem so117 : Sound Try.prog 117 sp117 := by
  refine sound_of_body hmix (pol := 0) Try.func117 rfl (by kernel_rfl) fun args bin ob r bout hDe hob => ?_
  unfold sp117 at hDe
  split at hDe
  · rename_i a0 a1
    cases hDe
    exact ⟨rfl, rfl, Nat.le_of_ble_eq_true (by kernel_rfl), cx117 ((decL decCert) a0) a1, Eq.mp (by kernel_rfl) htt, Eq.mp (by kernel_rfl) da117, Eq.mp (by kernel_rfl) (noM_sound (P := Try.prog)), by kernel_rfl, [encL (encCert 1) 1 (((decL decCert) a0)), .int .i64 (a1)], args_of_vles (⟨hob.1, VLe.refl _, trivial⟩), Eq.mp (by kernel_rfl) (bd117 ((decL decCert) a0) a1 (hob.2))⟩
  · cases hDe

theorem heldI_cases (xs : List Int) (k : Int) : heldI xs k = k + xs.length ∨ heldI xs k = -1 := by unfold heldI; split <;> simp
theorem heldC_cases (xs : List Cert) (k : Int) : heldC xs k = k + 3 * xs.length ∨ heldC xs k = -1 := by unfold heldC; split <;> simp

/-! ### laws.heldIntsResult -/
def pr48 (a : IntsResult) (k : Int) : Prop := 0 ≤ k ∧ k + a.list.length ≤ 4611686018427387904
noncomputable def rs48 (a : IntsResult) (k : Int) : V := .int .i64 (heldI a.list k)
noncomputable def sp48 : FSpec := fun args bin => match args, bin with
  | [a0, .int .i64 a1], [] => some (VLe a0 (encIntsResult 1 ((decIntsResult a0))) ∧ pr48 (decIntsResult a0) a1, rs48 (decIntsResult a0) a1, [])
  | _, _ => none
noncomputable def D48 : Nat → Option (Bool × FSpec) := lk [(114, (false, sp114))]
theorem da48 : SoundAll Try.prog D48 := soundAll_cons so114 (soundAll_nil)
noncomputable def cx48 (a : IntsResult) (k : Int) : Cx := ⟨tt, D48, Try.f48.ntmps, [0, 1, 2, 4, 10], [], [], fun _ => none, [], noM, []⟩
theorem bd48 (a : IntsResult) (k : Int) (hpre : pr48 a k) : bodyP (cx48 a k) Try.f48 0 [encIntsResult 1 (a), .int .i64 (k)] (fun rr => VLe rr (rs48 a k)) := by
  have key :
      (((VLe (encL encI 1 (IntsResult.list a))
   (encL encI 1 (decL decI (encL encI 1 (IntsResult.list a))))) ∧
   (pr114 (decL decI (encL encI 1 (IntsResult.list a))) k)) ∧
   (((decide (heldI (decL decI (encL encI 1 (IntsResult.list a))) k < (0 : Int)) = true) →
   (VLe (V.int IntKind.i64 (-1 : Int)) (V.int IntKind.i64 (heldI (IntsResult.list a) k)))) ∧
   ((decide (heldI (decL decI (encL encI 1 (IntsResult.list a))) k < (0 : Int)) = false) →
   (VLe (V.int IntKind.i64 (heldI (decL decI (encL encI 1 (IntsResult.list a))) k))
   (V.int IntKind.i64 (heldI (IntsResult.list a) k)))))) := by
    have hc := heldI_cases a.list k
    unfold pr48 at hpre
    simp only [decL_ints]
    exact ⟨⟨VLe.refl _, hpre⟩, fun h => vle_int (by simp at h; omega), fun _ => VLe.refl _⟩
  exact Eq.mp (by kernel_rfl) key
theorem so48 : Sound Try.prog 48 sp48 := by
  refine sound_of_body hmix (pol := 0) Try.func48 rfl (by kernel_rfl) fun args bin ob r bout hDe hob => ?_
  unfold sp48 at hDe
  split at hDe
  · rename_i a0 a1
    cases hDe
    exact ⟨rfl, rfl, Nat.le_of_ble_eq_true (by kernel_rfl), cx48 (decIntsResult a0) a1, Eq.mp (by kernel_rfl) htt, Eq.mp (by kernel_rfl) da48, Eq.mp (by kernel_rfl) (noM_sound (P := Try.prog)), by kernel_rfl, [encIntsResult 1 ((decIntsResult a0)), .int .i64 (a1)], args_of_vles (⟨hob.1, VLe.refl _, trivial⟩), Eq.mp (by kernel_rfl) (bd48 (decIntsResult a0) a1 (hob.2))⟩
  · cases hDe

/-! ### laws.heldCertsResult -/
def pr53 (a : CertsResult) (k : Int) : Prop := 0 ≤ k ∧ k + 3 * a.certs.length ≤ 4611686018427387904
noncomputable def rs53 (a : CertsResult) (k : Int) : V := .int .i64 (heldC a.certs k)
noncomputable def sp53 : FSpec := fun args bin => match args, bin with
  | [a0, .int .i64 a1], [] => some (VLe a0 (encCertsResult 1 ((decCertsResult a0))) ∧ pr53 (decCertsResult a0) a1, rs53 (decCertsResult a0) a1, [])
  | _, _ => none
noncomputable def D53 : Nat → Option (Bool × FSpec) := lk [(117, (false, sp117))]
theorem da53 : SoundAll Try.prog D53 := soundAll_cons so117 (soundAll_nil)
noncomputable def cx53 (a : CertsResult) (k : Int) : Cx := ⟨tt, D53, Try.f53.ntmps, [0, 1, 2, 4, 10], [], [], fun _ => none, [], noM, []⟩
theorem bd53 (a : CertsResult) (k : Int) (hpre : pr53 a k) : bodyP (cx53 a k) Try.f53 0 [encCertsResult 1 (a), .int .i64 (k)] (fun rr => VLe rr (rs53 a k)) := by
  have key :
      (((VLe (encL (encCert 1) 1 (CertsResult.certs a))
   (encL (encCert 1) 1 (decL decCert (encL (encCert 1) 1 (CertsResult.certs a))))) ∧
   (pr117 (decL decCert (encL (encCert 1) 1 (CertsResult.certs a))) k)) ∧
   (((decide (heldC (decL decCert (encL (encCert 1) 1 (CertsResult.certs a))) k < (0 : Int)) = true) →
   (VLe (V.int IntKind.i64 (-1 : Int)) (V.int IntKind.i64 (heldC (CertsResult.certs a) k)))) ∧
   ((decide (heldC (decL decCert (encL (encCert 1) 1 (CertsResult.certs a))) k < (0 : Int)) = false) →
   (VLe (V.int IntKind.i64 (heldC (decL decCert (encL (encCert 1) 1 (CertsResult.certs a))) k))
   (V.int IntKind.i64 (heldC (CertsResult.certs a) k)))))) := by
    have hc := heldC_cases a.certs k
    unfold pr53 at hpre
    simp only [decL_Cert]
    exact ⟨⟨VLe.refl _, hpre⟩, fun h => vle_int (by simp at h; omega), fun _ => VLe.refl _⟩
  exact Eq.mp (by kernel_rfl) key
theorem so53 : Sound Try.prog 53 sp53 := by
  refine sound_of_body hmix (pol := 0) Try.func53 rfl (by kernel_rfl) fun args bin ob r bout hDe hob => ?_
  unfold sp53 at hDe
  split at hDe
  · rename_i a0 a1
    cases hDe
    exact ⟨rfl, rfl, Nat.le_of_ble_eq_true (by kernel_rfl), cx53 (decCertsResult a0) a1, Eq.mp (by kernel_rfl) htt, Eq.mp (by kernel_rfl) da53, Eq.mp (by kernel_rfl) (noM_sound (P := Try.prog)), by kernel_rfl, [encCertsResult 1 ((decCertsResult a0)), .int .i64 (a1)], args_of_vles (⟨hob.1, VLe.refl _, trivial⟩), Eq.mp (by kernel_rfl) (bd53 (decCertsResult a0) a1 (hob.2))⟩
  · cases hDe

/-! ### laws.eqIntsResult -/
def pr45 (a : IntsResult) (b : IntsResult) : Prop := a.list.length ≤ maxLen
noncomputable def rs45 (a : IntsResult) (b : IntsResult) : V := .bool (decide (a = b))
noncomputable def sp45 : FSpec := fun args bin => match args, bin with
  | [a0, a1], [] => some (VLe a0 (encIntsResult 1 ((decIntsResult a0))) ∧ VLe a1 (encIntsResult 1 ((decIntsResult a1))) ∧ pr45 (decIntsResult a0) (decIntsResult a1), rs45 (decIntsResult a0) (decIntsResult a1), [])
  | _, _ => none
noncomputable def D45 : Nat → Option (Bool × FSpec) := lk [(55, (false, sp55))]
theorem da45 : SoundAll Try.prog D45 := soundAll_cons so55 (soundAll_nil)
noncomputable def cx45 (a : IntsResult) (b : IntsResult) : Cx := ⟨tt, D45, Try.f45.ntmps, [0, 1, 2, 3, 4, 9, 15], [], [], fun _ => none, [], noM, []⟩
theorem bd45 (a : IntsResult) (b : IntsResult) (hpre : pr45 a b) : bodyP (cx45 a b) Try.f45 0 [encIntsResult 1 (a), encIntsResult 1 (b)] (fun rr => VLe rr (rs45 a b)) := by
  have key :
      ((((IntsResult.code a != IntsResult.code b) = true) →
   (VLe (V.bool false) (V.bool (decide (a = b))))) ∧
   (((IntsResult.code a != IntsResult.code b) = false) →
   (((VLe (encL encI 1 (IntsResult.list a))
   (encL encI 1 (decL decI (encL encI 1 (IntsResult.list a))))) ∧
   ((VLe (encL encI 1 (IntsResult.list b))
   (encL encI 1 (decL decI (encL encI 1 (IntsResult.list b))))) ∧
   (pr55 (decL decI (encL encI 1 (IntsResult.list a))) (decL decI (encL encI 1 (IntsResult.list b)))))) ∧
   ((((!decide (decL decI (encL encI 1 (IntsResult.list a)) = decL decI (encL encI 1 (IntsResult.list b)))) =
   true) →
   (VLe (V.bool false) (V.bool (decide (a = b))))) ∧
   (((!decide (decL decI (encL encI 1 (IntsResult.list a)) = decL decI (encL encI 1 (IntsResult.list b)))) =
   false) →
   (VLe (V.bool true) (V.bool (decide (a = b))))))))) := by
    simp only [decL_ints]
    refine ⟨fun h => vle_bool ?_, fun h => ⟨⟨VLe.refl _, VLe.refl _, hpre⟩, fun h2 => vle_bool ?_, fun h2 => vle_bool ?_⟩⟩
    · have : a ≠ b := fun e => by subst e; simp at h
      simp [this]
    · have : a ≠ b := fun e => by subst e; simp at h2
      simp [this]
    · have h1 : a.code = b.code := by simpa using h
      have h3 : a.list = b.list := by simpa using h2
      simp [eq_IntsResult, h1, h3]
  exact Eq.mp (by kernel_rfl) key
theorem so45 : Sound Try.prog 45 sp45 := by
  refine sound_of_body hmix (pol := 0) Try.func45 rfl (by kernel_rfl) fun args bin ob r bout hDe hob => ?_
  unfold sp45 at hDe
  split at hDe
  · rename_i a0 a1
    cases hDe
    exact ⟨rfl, rfl, Nat.le_of_ble_eq_true (by kernel_rfl), cx45 (decIntsResult a0) (decIntsResult a1), Eq.mp (by kernel_rfl) htt, Eq.mp (by kernel_rfl) da45, Eq.mp (by kernel_rfl) (noM_sound (P := Try.prog)), by kernel_rfl, [encIntsResult 1 ((decIntsResult a0)), encIntsResult 1 ((decIntsResult a1))], args_of_vles (⟨hob.1, hob.2.1, trivial⟩), Eq.mp (by kernel_rfl) (bd45 (decIntsResult a0) (decIntsResult a1) (hob.2.2))⟩
  · cases hDe

/-! ### laws.eqCertsResult -/
def pr51 (a : CertsResult) (b : CertsResult) : Prop := a.certs.length ≤ maxLen
noncomputable def rs51 (a : CertsResult) (b : CertsResult) : V := .bool (decide (a = b))
noncomputable def sp51 : FSpec := fun args bin => match args, bin with
  | [a0, a1], [] => some (VLe a0 (encCertsResult 1 ((decCertsResult a0))) ∧ VLe a1 (encCertsResult 1 ((decCertsResult a1))) ∧ pr51 (decCertsResult a0) (decCertsResult a1), rs51 (decCertsResult a0) (decCertsResult a1), [])
  | _, _ => none
noncomputable def D51 : Nat → Option (Bool × FSpec) := lk [(92, (false, sp92))]
theorem da51 : SoundAll Try.prog D51 := soundAll_cons so92 (soundAll_nil)
noncomputable def cx51 (a : CertsResult) (b : CertsResult) : Cx := ⟨tt, D51, Try.f51.ntmps, [0, 1, 2, 3, 4, 9, 15], [], [], fun _ => none, [], noM, []⟩
theorem bd51 (a : CertsResult) (b : CertsResult) (hpre : pr51 a b) : bodyP (cx51 a b) Try.f51 0 [encCertsResult 1 (a), encCertsResult 1 (b)] (fun rr => VLe rr (rs51 a b)) := by
  have key :
      ((((CertsResult.code a != CertsResult.code b) = true) →
   (VLe (V.bool false) (V.bool (decide (a = b))))) ∧
   (((CertsResult.code a != CertsResult.code b) = false) →
   (((VLe (encL (encCert 1) 1 (CertsResult.certs a))
   (encL (encCert 1) 1 (decL decCert (encL (encCert 1) 1 (CertsResult.certs a))))) ∧
   ((VLe (encL (encCert 1) 1 (CertsResult.certs b))
   (encL (encCert 1) 1 (decL decCert (encL (encCert 1) 1 (CertsResult.certs b))))) ∧
   (pr92 (decL decCert (encL (encCert 1) 1 (CertsResult.certs a)))
   (decL decCert (encL (encCert 1) 1 (CertsResult.certs b)))))) ∧
   ((((!decide
   (decL decCert (encL (encCert 1) 1 (CertsResult.certs a)) =
   decL decCert (encL (encCert 1) 1 (CertsResult.certs b)))) =
   true) →
   (VLe (V.bool false) (V.bool (decide (a = b))))) ∧
   (((!decide
   (decL decCert (encL (encCert 1) 1 (CertsResult.certs a)) =
   decL decCert (encL (encCert 1) 1 (CertsResult.certs b)))) =
   false) →
   (VLe (V.bool true) (V.bool (decide (a = b))))))))) := by
    simp only [decL_Cert]
    refine ⟨fun h => vle_bool ?_, fun h => ⟨⟨VLe.refl _, VLe.refl _, hpre, fun _ _ _ => trivial⟩, fun h2 => vle_bool ?_, fun h2 => vle_bool ?_⟩⟩
    · have : a ≠ b := fun e => by subst e; simp at h
      simp [this]
    · have : a ≠ b := fun e => by subst e; simp at h2
      simp [this]
    · have h1 : a.code = b.code := by simpa using h
      have h3 : a.certs = b.certs := by simpa using h2
      simp [eq_CertsResult, h1, h3]
  exact Eq.mp (by kernel_rfl) key
theorem so51 : Sound Try.prog 51 sp51 := by
  refine sound_of_body hmix (pol := 0) Try.func51 rfl (by kernel_rfl) fun args bin ob r bout hDe hob => ?_
  unfold sp51 at hDe
  split at hDe
  · rename_i a0 a1
    cases hDe
    exact ⟨rfl, rfl, Nat.le_of_ble_eq_true (by kernel_rfl), cx51 (decCertsResult a0) (decCertsResult a1), Eq.mp (by kernel_rfl) htt, Eq.mp (by kernel_rfl) da51, Eq.mp (by kernel_rfl) (noM_sound (P := Try.prog)), by kernel_rfl, [encCertsResult 1 ((decCertsResult a0)), encCertsResult 1 ((decCertsResult a1))], args_of_vles (⟨hob.1, hob.2.1, trivial⟩), Eq.mp (by kernel_rfl) (bd51 (decCertsResult a0) (decCertsResult a1) (hob.2.2))⟩
  · cases hDe

end Go.Av
