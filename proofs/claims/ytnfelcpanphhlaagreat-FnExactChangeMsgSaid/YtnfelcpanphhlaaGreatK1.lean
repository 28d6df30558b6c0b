/- Marks: functions that write numbers into what a call told, and into what it was handed. -/
import Derived.Test.YtnfelcpanphhlaaGreatE5
namespace Go.Av
open Go.Proofs
set_option maxRecDepth 100000
set_option linter.unusedVariables false
set_option linter.unusedSimpArgs false

/-- The numbers that a row of so many is marked with. -/
def markI (k : Int) (n : Nat) : List Int := (List.range n).map fun i : Nat => k + i
@[simp] theorem markI_len (k : Int) (n : Nat) : (markI k n).length = n := by simp [markI]
theorem markI_get (k : Int) (n i : Nat) (h : i < n) : (markI k n).getD i default = k + i := by simp [markI, h]
def markC (k : Int) (n : Nat) : List Cert := (List.range n).map fun i : Nat => ⟨k + 3 * i, k + 3 * i + 1, k + 3 * i + 2⟩
@[simp] theorem markC_len (k : Int) (n : Nat) : (markC k n).length = n := by simp [markC]
theorem markC_get (k : Int) (n i : Nat) (h : i < n) : (markC k n).getD i default = ⟨k + 3 * i, k + 3 * i + 1, k + 3 * i + 2⟩ := by simp [markC, h]
/-- How many numbers a message holds. -/
def cntM (m : Msg) : Int := 5 + 3 * m.certs.length + m.refs.length
def cntL (l : List Msg) (i : Nat) : Int := ((l.take i).map cntM).sum
theorem cntL_succ {l : List Msg} {i : Nat} (h : i < l.length) : cntL l (i + 1) = cntL l i + cntM (l.getD i default) := by
  unfold cntL
  rw [List.take_add_one, List.map_append, List.sum_append]
  simp [h]
theorem cntM_nonneg (m : Msg) : 0 ≤ cntM m := by unfold cntM; omega
theorem sum_nonneg' : ∀ (l : List Int), (∀ x ∈ l, 0 ≤ x) → 0 ≤ l.sum
  | [], _ => by simp
  | x :: r, h => by
    have h1 := h x (by simp)
    have h2 := sum_nonneg' r fun y hy => h y (List.mem_cons_of_mem _ hy)
    simp only [List.sum_cons]
    omega
theorem cntL_nonneg (l : List Msg) (i : Nat) : 0 ≤ cntL l i := sum_nonneg' _ fun x hx => by
  obtain ⟨m, _, rfl⟩ := List.mem_map.1 hx
  exact cntM_nonneg m
theorem cntL_mono (l : List Msg) (i : Nat) : cntL l i ≤ cntL l l.length := by
  unfold cntL
  have h1 : l.take l.length = l.take i ++ l.drop i := by rw [List.take_append_drop, List.take_length]
  rw [h1, List.map_append, List.sum_append]
  have := sum_nonneg' ((l.drop i).map cntM) fun x hx => by
    obtain ⟨m, _, rfl⟩ := List.mem_map.1 hx
    exact cntM_nonneg m
  omega

theorem SLe.refl' {s s' : AS} (h : s = s') : SLe s s' := h ▸ SLe.refl s
/-- One element written anew. -/
theorem ble_set {α : Type} [Inhabited α] {enc : α → V} {sz n i te : Nat} {xs : List α} {v : V} {x : α} (hi : i < xs.length) (h : ELe v (enc x)) :
    BLe (.arr sz n (setg (gL enc xs) i v) te) (.arr sz n (gL enc (xs.set i x)) te) := by
  refine ble_arr (fun k hk => ?_) (Or.inl rfl)
  simp only [setg, gL]
  by_cases e : k = i
  · subst e
    rw [if_pos rfl, getD_set_eq _ _ _ _ hi]
    exact h
  · rw [if_neg e, getD_set_ne _ _ _ _ e]
    exact ELe.refl _


/-! ### laws.markInt64S -/
noncomputable def in85m_2 (l : List Int) (k : Int) : LoopInv :=
  ⟨Nat, fun i => ⟨[(0, encL encI 1 l), (1, .int .i64 (k + i)), (5, .int .i64 i)], []⟩, fun i => i ≤ l.length, fun i => l.length - i⟩
noncomputable def iv85m (l : List Int) (k : Int) : Nat → Option LoopInv := fun k0 => match k0 with
  | 2 => some (in85m_2 l k)
  | _ => none
def mp85 (l : List Int) (k : Int) : Prop := 0 ≤ k ∧ k + l.length ≤ 4611686018427387904
noncomputable def mm85 : MSpec := fun n g k => some (VLe (.sl n g 1) (encL encI 1 (decL decI (.sl n g 1))) ∧ mp85 (decL decI (.sl n g 1)) k, (fun (l : List Int) => k + (l.length : Int)) (decL decI (.sl n g 1)))
noncomputable def M85 : Nat → Option MSpec := lk []
theorem ma85 : SoundAllM Tryz.prog M85 := soundAllM_nil
noncomputable def D85m : Nat → Option (Bool × FSpec) := lk []
theorem da85m : SoundAll Tryz.prog D85m := soundAll_nil
noncomputable def cx85m (l : List Int) (k : Int) : Cx := ⟨tt, D85m, Tryz.f85.ntmps, [0, 1, 4, 5, 9], [(2, ⟨[(0, none), (1, none), (5, none)], []⟩)], [], iv85m l k, [], M85, []⟩
theorem bd85m (l : List Int) (k : Int) (hpre : mp85 l k) : bodyM (cx85m l k) Tryz.f85 [encL encI 1 l, .int .i64 k] (fun r => r = k + (l.length : Int)) := by
  have key :
      ((∃ x : Nat, ((SLe
   (AS.mk
   [(0, encL encI 1 l), (1, V.int IntKind.i64 k), (5, V.int IntKind.i64 (0 : Int))] [])
   (AS.mk
   [(0, encL encI 1 l), (1, V.int IntKind.i64 (k + (↑x : Int))),
   (5, V.int IntKind.i64 (↑x : Int))]
   [])) ∧
   (x ≤ List.length l))) ∧
   (∀ x : Nat,
   ((x ≤ List.length l) →
   (((decide ((↑x : Int) < (↑(List.length l) : Int)) = true) →
   ((((0 : Int) ≤ (↑x : Int)) ∧
   ((↑x : Int) < (↑(List.length l) : Int))) ∧
   ((inK IntKind.i64 (k + (↑x : Int) + (1 : Int))) ∧
   ((inK IntKind.i64 ((↑x : Int) + (1 : Int))) ∧
   (∃ y : Nat, ((SLe
   (AS.mk
   [(0, encL encI 1 l), (1, V.int IntKind.i64 (k + (↑x : Int) + (1 : Int))),
   (5, V.int IntKind.i64 ((↑x : Int) + (1 : Int)))]
   [])
   (AS.mk
   [(0, encL encI 1 l), (1, V.int IntKind.i64 (k + (↑y : Int))),
   (5, V.int IntKind.i64 (↑y : Int))]
   [])) ∧
   ((y ≤ List.length l) ∧
   (List.length l - y < List.length l - x)))))))) ∧
   ((decide ((↑x : Int) < (↑(List.length l) : Int)) = false) →
   (k + (↑x : Int) = k + (↑(List.length l) : Int))))))) := by
    unfold mp85 at hpre
    refine ⟨⟨0, sle_of ⟨rfl, VLe.refl _, rfl, vle_int (by omega), rfl, VLe.refl _, trivial⟩ trivial, by omega⟩, fun i hi => ⟨fun h => ?_, fun h => ?_⟩⟩
    · have hlt : i < l.length := by simpa using h
      exact ⟨by omega, inK64 (by omega), inK64 (by omega), i + 1, sle_of ⟨rfl, VLe.refl _, rfl, vle_int (by omega), rfl, vle_int (by omega), trivial⟩ trivial, by omega, by omega⟩
    · have : i = l.length := by simp at h; omega
      omega
  exact Eq.mp (by kernel_rfl) key
theorem sm85 : SoundMk Tryz.prog 85 mm85 := by
  refine soundMk_of_body Tryz.func85 rfl (by kernel_rfl) (Nat.le_of_ble_eq_true (by kernel_rfl)) fun n g k ob r he ho => ?_
  cases he
  exact ⟨cx85m (decL decI (.sl n g 1)) k, Eq.mp (by kernel_rfl) htt, Eq.mp (by kernel_rfl) da85m, Eq.mp (by kernel_rfl) ma85, by kernel_rfl, _, ho.1, Eq.mp (by kernel_rfl) (bd85m _ k ho.2)⟩

/-! ### laws.markCertS -/
noncomputable def in84m_2 (l : List Cert) (k : Int) : LoopInv :=
  ⟨Nat, fun i => ⟨[(0, encL (encCert 1) 1 l), (1, .int .i64 (k + 3 * i)), (5, .int .i64 i)], []⟩, fun i => i ≤ l.length, fun i => l.length - i⟩
noncomputable def iv84m (l : List Cert) (k : Int) : Nat → Option LoopInv := fun k0 => match k0 with
  | 2 => some (in84m_2 l k)
  | _ => none
def mp84 (l : List Cert) (k : Int) : Prop := 0 ≤ k ∧ k + 3 * l.length ≤ 4611686018427387904
noncomputable def mm84 : MSpec := fun n g k => some (VLe (.sl n g 1) (encL (encCert 1) 1 (decL decCert (.sl n g 1))) ∧ mp84 (decL decCert (.sl n g 1)) k, (fun (l : List Cert) => k + 3 * (l.length : Int)) (decL decCert (.sl n g 1)))
noncomputable def M84 : Nat → Option MSpec := lk []
theorem ma84 : SoundAllM Tryz.prog M84 := soundAllM_nil
noncomputable def D84m : Nat → Option (Bool × FSpec) := lk []
theorem da84m : SoundAll Tryz.prog D84m := soundAll_nil
noncomputable def cx84m (l : List Cert) (k : Int) : Cx := ⟨tt, D84m, Tryz.f84.ntmps, [0, 1, 4, 5, 9], [(2, ⟨[(0, none), (1, none), (5, none)], []⟩)], [], iv84m l k, [], M84, []⟩
theorem bd84m (l : List Cert) (k : Int) (hpre : mp84 l k) : bodyM (cx84m l k) Tryz.f84 [encL (encCert 1) 1 l, .int .i64 k] (fun r => r = k + 3 * (l.length : Int)) := by
  have key :
      ((∃ x : Nat, ((SLe
   (AS.mk
   [(0, encL (encCert 1) 1 l), (1, V.int IntKind.i64 k),
   (5, V.int IntKind.i64 (0 : Int))]
   [])
   (AS.mk
   [(0, encL (encCert 1) 1 l), (1, V.int IntKind.i64 (k + (3 : Int) * (↑x : Int))),
   (5, V.int IntKind.i64 (↑x : Int))]
   [])) ∧
   (x ≤ List.length l))) ∧
   (∀ x : Nat,
   ((x ≤ List.length l) →
   (((decide ((↑x : Int) < (↑(List.length l) : Int)) = true) →
   ((((0 : Int) ≤ (↑x : Int)) ∧
   ((↑x : Int) < (↑(List.length l) : Int))) ∧
   ((inK IntKind.i64 (k + (3 : Int) * (↑x : Int) + (1 : Int))) ∧
   ((((0 : Int) ≤ (↑x : Int)) ∧
   ((↑x : Int) < (↑(List.length l) : Int))) ∧
   ((inK IntKind.i64 (k + (3 : Int) * (↑x : Int) + (1 : Int) + (1 : Int))) ∧
   ((((0 : Int) ≤ (↑x : Int)) ∧
   ((↑x : Int) < (↑(List.length l) : Int))) ∧
   ((inK IntKind.i64 (k + (3 : Int) * (↑x : Int) + (1 : Int) + (1 : Int) + (1 : Int))) ∧
   ((inK IntKind.i64 ((↑x : Int) + (1 : Int))) ∧
   (∃ y : Nat, ((SLe
   (AS.mk
   [(0, encL (encCert 1) 1 l),
   (1, V.int IntKind.i64 (k + (3 : Int) * (↑x : Int) + (1 : Int) + (1 : Int) + (1 : Int))),
   (5, V.int IntKind.i64 ((↑x : Int) + (1 : Int)))]
   [])
   (AS.mk
   [(0, encL (encCert 1) 1 l), (1, V.int IntKind.i64 (k + (3 : Int) * (↑y : Int))),
   (5, V.int IntKind.i64 (↑y : Int))]
   [])) ∧
   ((y ≤ List.length l) ∧
   (List.length l - y < List.length l - x)))))))))))) ∧
   ((decide ((↑x : Int) < (↑(List.length l) : Int)) = false) →
   (k + (3 : Int) * (↑x : Int) = k + (3 : Int) * (↑(List.length l) : Int))))))) := by
    unfold mp84 at hpre
    refine ⟨⟨0, sle_of ⟨rfl, VLe.refl _, rfl, vle_int (by omega), rfl, VLe.refl _, trivial⟩ trivial, by omega⟩, fun i hi => ⟨fun h => ?_, fun h => ?_⟩⟩
    · have hlt : i < l.length := by simpa using h
      repeat' (first | omega | exact inK64 (by omega) | apply And.intro)
      exact ⟨i + 1, sle_of ⟨rfl, VLe.refl _, rfl, vle_int (by omega), rfl, vle_int (by omega), trivial⟩ trivial, by omega, by omega⟩
    · have : i = l.length := by simp at h; omega
      omega
  exact Eq.mp (by kernel_rfl) key
theorem sm84 : SoundMk Tryz.prog 84 mm84 := by
  refine soundMk_of_body Tryz.func84 rfl (by kernel_rfl) (Nat.le_of_ble_eq_true (by kernel_rfl)) fun n g k ob r he ho => ?_
  cases he
  exact ⟨cx84m (decL decCert (.sl n g 1)) k, Eq.mp (by kernel_rfl) htt, Eq.mp (by kernel_rfl) da84m, Eq.mp (by kernel_rfl) ma84, by kernel_rfl, _, ho.1, Eq.mp (by kernel_rfl) (bd84m _ k ho.2)⟩

/-! ### laws.markMsgS -/
noncomputable def in39m_2 (l : List Msg) (k : Int) : LoopInv :=
  ⟨Nat, fun i => ⟨[(0, encL (encMsg 1) 1 l), (1, .int .i64 (k + cntL l i)), (5, .int .i64 i)], []⟩, fun i => i ≤ l.length, fun i => l.length - i⟩
noncomputable def iv39m (l : List Msg) (k : Int) : Nat → Option LoopInv := fun k0 => match k0 with
  | 2 => some (in39m_2 l k)
  | _ => none
def mp39 (l : List Msg) (k : Int) : Prop := 0 ≤ k ∧ k + cntL l l.length ≤ 4611686018427387904 ∧ l.length ≤ 4611686018427387904
noncomputable def mm39 : MSpec := fun n g k => some (VLe (.sl n g 1) (encL (encMsg 1) 1 (decL decMsg (.sl n g 1))) ∧ mp39 (decL decMsg (.sl n g 1)) k, (fun (l : List Msg) => k + cntL l l.length) (decL decMsg (.sl n g 1)))
noncomputable def M39 : Nat → Option MSpec := lk [(84, mm84), (85, mm85)]
theorem ma39 : SoundAllM Tryz.prog M39 := soundAllM_cons sm84 (soundAllM_cons sm85 (soundAllM_nil))
noncomputable def D39m : Nat → Option (Bool × FSpec) := lk []
theorem da39m : SoundAll Tryz.prog D39m := soundAll_nil
noncomputable def cx39m (l : List Msg) (k : Int) : Cx := ⟨tt, D39m, Tryz.f39.ntmps, [0, 1, 4, 5, 9], [(2, ⟨[(0, none), (1, none), (5, none)], []⟩)], [], iv39m l k, [], M39, []⟩
theorem bd39m (l : List Msg) (k : Int) (hpre : mp39 l k) : bodyM (cx39m l k) Tryz.f39 [encL (encMsg 1) 1 l, .int .i64 k] (fun r => r = k + cntL l l.length) := by
  have key :
      ((∃ x : Nat, ((SLe
   (AS.mk
   [(0, encL (encMsg 1) 1 l), (1, V.int IntKind.i64 k),
   (5, V.int IntKind.i64 (0 : Int))]
   [])
   (AS.mk
   [(0, encL (encMsg 1) 1 l), (1, V.int IntKind.i64 (k + cntL l x)),
   (5, V.int IntKind.i64 (↑x : Int))]
   [])) ∧
   (x ≤ List.length l))) ∧
   (∀ x : Nat,
   ((x ≤ List.length l) →
   (((decide ((↑x : Int) < (↑(List.length l) : Int)) = true) →
   ((((0 : Int) ≤ (↑x : Int)) ∧
   ((↑x : Int) < (↑(List.length l) : Int))) ∧
   ((inK IntKind.i64 (k + cntL l x + (1 : Int))) ∧
   ((((0 : Int) ≤ (↑x : Int)) ∧
   ((↑x : Int) < (↑(List.length l) : Int))) ∧
   ((inK IntKind.i64 (k + cntL l x + (1 : Int) + (1 : Int))) ∧
   ((((0 : Int) ≤ (↑x : Int)) ∧
   ((↑x : Int) < (↑(List.length l) : Int))) ∧
   ((inK IntKind.i64 (k + cntL l x + (1 : Int) + (1 : Int) + (1 : Int))) ∧
   ((((0 : Int) ≤ (↑x : Int)) ∧
   ((↑x : Int) < (↑(List.length l) : Int))) ∧
   ((inK IntKind.i64 (k + cntL l x + (1 : Int) + (1 : Int) + (1 : Int) + (1 : Int))) ∧
   ((((0 : Int) ≤ (↑x : Int)) ∧
   ((↑x : Int) < (↑(List.length l) : Int))) ∧
   ((inK IntKind.i64 (k + cntL l x + (1 : Int) + (1 : Int) + (1 : Int) + (1 : Int) + (1 : Int))) ∧
   ((((0 : Int) ≤ (↑x : Int)) ∧
   ((↑x : Int) < (↑(List.length l) : Int))) ∧
   (((VLe (encL (encCert 1) 1 (Msg.certs (List.getD l (Int.toNat (↑x : Int)) default)))
   (encL (encCert 1) 1
   (decL decCert (encL (encCert 1) 1 (Msg.certs (List.getD l (Int.toNat (↑x : Int)) default)))))) ∧
   (mp84 (decL decCert (encL (encCert 1) 1 (Msg.certs (List.getD l (Int.toNat (↑x : Int)) default))))
   (k + cntL l x + (1 : Int) + (1 : Int) + (1 : Int) + (1 : Int) + (1 : Int)))) ∧
   ((((0 : Int) ≤ (↑x : Int)) ∧
   ((↑x : Int) < (↑(List.length l) : Int))) ∧
   (((VLe (encL encI 1 (Msg.refs (List.getD l (Int.toNat (↑x : Int)) default)))
   (encL encI 1 (decL decI (encL encI 1 (Msg.refs (List.getD l (Int.toNat (↑x : Int)) default)))))) ∧
   (mp85 (decL decI (encL encI 1 (Msg.refs (List.getD l (Int.toNat (↑x : Int)) default))))
   (k + cntL l x + (1 : Int) + (1 : Int) + (1 : Int) + (1 : Int) + (1 : Int) +
   (3 : Int) *
   (↑(List.length
   (decL decCert
   (encL (encCert 1) 1 (Msg.certs (List.getD l (Int.toNat (↑x : Int)) default))))) :
   Int)))) ∧
   ((inK IntKind.i64 ((↑x : Int) + (1 : Int))) ∧
   (∃ y : Nat, ((SLe
   (AS.mk
   [(0, encL (encMsg 1) 1 l),
   (1,
   V.int IntKind.i64
   (k + cntL l x + (1 : Int) + (1 : Int) + (1 : Int) + (1 : Int) + (1 : Int) +
   (3 : Int) *
   (↑(List.length
   (decL decCert
   (encL (encCert 1) 1
   (Msg.certs (List.getD l (Int.toNat (↑x : Int)) default))))) :
   Int) +
   (↑(List.length (decL decI (encL encI 1 (Msg.refs (List.getD l (Int.toNat (↑x : Int)) default))))) :
   Int))),
   (5, V.int IntKind.i64 ((↑x : Int) + (1 : Int)))]
   [])
   (AS.mk
   [(0, encL (encMsg 1) 1 l), (1, V.int IntKind.i64 (k + cntL l y)),
   (5, V.int IntKind.i64 (↑y : Int))]
   [])) ∧
   ((y ≤ List.length l) ∧
   (List.length l - y < List.length l - x)))))))))))))))))))) ∧
   ((decide ((↑x : Int) < (↑(List.length l) : Int)) = false) →
   (k + cntL l x = k + cntL l (List.length l))))))) := by
    unfold mp39 at hpre
    refine ⟨⟨0, sle_of ⟨rfl, VLe.refl _, rfl, vle_int (by simp [cntL]), rfl, VLe.refl _, trivial⟩ trivial, by omega⟩, fun i hi => ⟨fun h => ?_, fun h => ?_⟩⟩
    · have hlt : i < l.length := by simpa using h
      have hs := cntL_succ hlt
      have hn := cntL_nonneg l i
      have hm := cntL_mono l (i + 1)
      have hc : cntM (l.getD i default) = 5 + 3 * (l.getD i default).certs.length + (l.getD i default).refs.length := rfl
      simp only [Int.toNat_natCast, decL_Cert, decL_ints]
      refine ⟨by omega, inK64 (by omega), by omega, inK64 (by omega), by omega, inK64 (by omega), by omega, inK64 (by omega), by omega, inK64 (by omega), by omega, ⟨VLe.refl _, by unfold mp84; omega⟩, by omega, ⟨VLe.refl _, by unfold mp85; omega⟩, inK64 (by omega), i + 1, sle_of ⟨rfl, VLe.refl _, rfl, vle_int (by omega), rfl, vle_int (by omega), trivial⟩ trivial, by omega, by omega⟩
    · have : i = l.length := by simp at h; omega
      subst this
      rfl
  exact Eq.mp (by kernel_rfl) key
theorem sm39 : SoundMk Tryz.prog 39 mm39 := by
  refine soundMk_of_body Tryz.func39 rfl (by kernel_rfl) (Nat.le_of_ble_eq_true (by kernel_rfl)) fun n g k ob r he ho => ?_
  cases he
  exact ⟨cx39m (decL decMsg (.sl n g 1)) k, Eq.mp (by kernel_rfl) htt, Eq.mp (by kernel_rfl) da39m, Eq.mp (by kernel_rfl) ma39, by kernel_rfl, _, ho.1, Eq.mp (by kernel_rfl) (bd39m _ k ho.2)⟩

/-! ### laws.markInt64S -/
noncomputable def in85_2 (y0 : List Int) (k : Int) : LoopInv :=
  ⟨Nat × List Int, fun p => ⟨[(0, .osl 0 y0.length), (1, .int .i64 (k + p.1)), (5, .int .i64 p.1)], [(0, .arr 1 y0.length (gL encI p.2) tagS)]⟩, fun p => p.1 ≤ y0.length ∧ p.2.length = y0.length ∧ ∀ j, j < p.1 → p.2.getD j default = k + j, fun p => y0.length - p.1⟩
noncomputable def iv85 (y0 : List Int) (k : Int) : Nat → Option LoopInv := fun k0 => match k0 with
  | 2 => some (in85_2 y0 k)
  | _ => none
noncomputable def D85 : Nat → Option (Bool × FSpec) := lk []
theorem da85 : SoundAll Tryz.prog D85 := soundAll_nil
noncomputable def cx85 (y0 : List Int) (k : Int) : Cx := ⟨tt, D85, Tryz.f85.ntmps, [0, 1, 4, 5, 9], [(2, ⟨[(0, none), (1, none), (5, none)], [(0, [])]⟩)], [], iv85 y0 k, [], noM, []⟩
def pr85 (n0 : Nat) (k : Int) : Prop := 0 ≤ k ∧ k + n0 ≤ 4611686018427387904
theorem bd85 (y0 : List Int) (k : Int) (hpre : pr85 y0.length k) : bodyO (cx85 y0 k) Tryz.f85 [] [.osl 0 y0.length, .int .i64 k] [.arr 1 y0.length (gL encI y0) tagS] (fun rr bs => VLe rr (.int .i64 (k + (y0.length : Int))) ∧ BinLe bs [.arr 1 y0.length (gL encI (markI k y0.length)) tagS]) := by
  have key :
      ((∃ x : Nat × List Int, ((SLe
   (AS.mk
   [(0, V.osl 0 (List.length y0)), (1, V.int IntKind.i64 k),
   (5, V.int IntKind.i64 (0 : Int))]
   [(0, Blk.arr 1 (List.length y0) (gL encI y0) 100)])
   (AS.mk
   [(0, V.osl 0 (List.length y0)), (1, V.int IntKind.i64 (k + (↑(Prod.fst x) : Int))),
   (5, V.int IntKind.i64 (↑(Prod.fst x) : Int))]
   [(0, Blk.arr 1 (List.length y0) (gL encI (Prod.snd x)) 100)])) ∧
   ((Prod.fst x ≤ List.length y0) ∧
   ((List.length (Prod.snd x) = List.length y0) ∧
   (∀ j : Nat,
   ((j < Prod.fst x) →
   (List.getD (Prod.snd x) j default = k + (↑j : Int)))))))) ∧
   (∀ x : Nat × List Int,
   (((Prod.fst x ≤ List.length y0) ∧
   ((List.length (Prod.snd x) = List.length y0) ∧
   (∀ j : Nat,
   ((j < Prod.fst x) →
   (List.getD (Prod.snd x) j default = k + (↑j : Int)))))) →
   (((decide ((↑(Prod.fst x) : Int) < (↑(List.length y0) : Int)) = true) →
   ((((0 : Int) ≤ (↑(Prod.fst x) : Int)) ∧
   ((↑(Prod.fst x) : Int) < (↑(List.length y0) : Int))) ∧
   ((Int.toNat (↑(Prod.fst x) : Int) < List.length y0) ∧
   ((inK IntKind.i64 (k + (↑(Prod.fst x) : Int) + (1 : Int))) ∧
   ((inK IntKind.i64 ((↑(Prod.fst x) : Int) + (1 : Int))) ∧
   (∃ y : Nat × List Int, ((SLe
   (AS.mk
   [(0, V.osl 0 (List.length y0)),
   (1, V.int IntKind.i64 (k + (↑(Prod.fst x) : Int) + (1 : Int))),
   (5, V.int IntKind.i64 ((↑(Prod.fst x) : Int) + (1 : Int)))]
   [(0,
   Blk.arr 1 (List.length y0)
   (setg (gL encI (Prod.snd x)) (Int.toNat (↑(Prod.fst x) : Int))
   (V.int IntKind.i64 (k + (↑(Prod.fst x) : Int))))
   100)])
   (AS.mk
   [(0, V.osl 0 (List.length y0)), (1, V.int IntKind.i64 (k + (↑(Prod.fst y) : Int))),
   (5, V.int IntKind.i64 (↑(Prod.fst y) : Int))]
   [(0, Blk.arr 1 (List.length y0) (gL encI (Prod.snd y)) 100)])) ∧
   (((Prod.fst y ≤ List.length y0) ∧
   ((List.length (Prod.snd y) = List.length y0) ∧
   (∀ j : Nat,
   ((j < Prod.fst y) →
   (List.getD (Prod.snd y) j default = k + (↑j : Int)))))) ∧
   (List.length y0 - Prod.fst y < List.length y0 - Prod.fst x))))))))) ∧
   ((decide ((↑(Prod.fst x) : Int) < (↑(List.length y0) : Int)) = false) →
   ((VLe (V.int IntKind.i64 (k + (↑(Prod.fst x) : Int))) (V.int IntKind.i64 (k + (↑(List.length y0) : Int)))) ∧
   ((BLe (Blk.arr 1 (List.length y0) (gL encI (Prod.snd x)) 100)
   (Blk.arr 1 (List.length y0) (gL encI (markI k (List.length y0))) 100)) ∧
   (True)))))))) := by
    unfold pr85 at hpre
    refine ⟨⟨(0, y0), SLe.refl' (by simp), by omega, rfl, fun j hj => absurd hj (Nat.not_lt_zero j)⟩, ?_⟩
    rintro ⟨i, ys⟩ ⟨hi, hl, hj⟩
    simp only at hi hl hj ⊢
    refine ⟨fun h => ?_, fun h => ?_⟩
    · have hlt : i < y0.length := by simpa using h
      refine ⟨by omega, by omega, inK64 (by omega), inK64 (by omega), (i + 1, ys.set i (k + i)), ?_, ⟨by simp only; omega, by simpa using hl, fun j h3 => ?_⟩, by simp only; omega⟩
      · refine sle_of ⟨rfl, VLe.refl _, rfl, vle_int (by simp only; omega), rfl, vle_int (by simp), trivial⟩ ⟨rfl, ?_, trivial⟩
        exact ble_set (by omega) (ELe.refl _)
      · simp only at h3 ⊢
        by_cases e : j = i
        · subst e; rw [getD_set_eq _ _ _ _ (by omega)]
        · rw [getD_set_ne _ _ _ _ e]; exact hj j (by omega)
    · have hge : i = y0.length := by simp at h; omega
      subst hge
      refine ⟨vle_int rfl, ble_arr (fun j hj' => ELe.of_eq ?_) (Or.inl rfl), trivial⟩
      simp only [gL]
      rw [hj j hj', markI_get _ _ _ hj']
  exact Eq.mp (by kernel_rfl) key
noncomputable def sp85 : FSpec := fun args bin => match args, bin with
  | [.osl i0 m0, .int .i64 k], [.arr s0 p0 g0 t0] => some ((i0 = 0 ∧ s0 = 1 ∧ t0 = tagS ∧ p0 = m0 ∧ ∃ y : List Int, y.length = m0 ∧ ∀ i, i < m0 → ELe (g0 i) (gL encI y i)) ∧ pr85 m0 k, .int .i64 (k + (m0 : Int)), [.arr 1 m0 (gL encI (markI k m0)) tagS])
  | _, _ => none
theorem so85 : Sound Tryz.prog 85 sp85 := by
  refine sound_of_bodyO hmix (tpl := []) Tryz.func85 rfl (by kernel_rfl) fun args bin ob r bout hDe hob => ?_
  unfold sp85 at hDe
  split at hDe
  · rename_i i0 m0 k s0 p0 g0 t0
    cases hDe
    obtain ⟨⟨rfl, rfl, rfl, rfl, y0, rfl, h0⟩, hpre⟩ := hob
    exact ⟨Nat.le_of_ble_eq_true (by kernel_rfl), cx85 y0 k, Eq.mp (by kernel_rfl) htt, Eq.mp (by kernel_rfl) da85, Eq.mp (by kernel_rfl) (noM_sound (P := Tryz.prog)), by kernel_rfl, _, [.arr 1 y0.length (gL encI y0) tagS], ArgsLe.refl _, ⟨ble_arr h0 (Or.inl rfl), trivial⟩, Eq.mp (by kernel_rfl) (bd85 y0 k hpre)⟩
  · cases hDe

/-! ### laws.markCertS -/
noncomputable def in84_2 (y0 : List Cert) (k : Int) : LoopInv :=
  ⟨Nat × List Cert, fun p => ⟨[(0, .osl 0 y0.length), (1, .int .i64 (k + 3 * p.1)), (5, .int .i64 p.1)], [(0, .arr 3 y0.length (gL (encCert 1) p.2) tagS)]⟩, fun p => p.1 ≤ y0.length ∧ p.2.length = y0.length ∧ ∀ j, j < p.1 → p.2.getD j default = ⟨k + 3 * j, k + 3 * j + 1, k + 3 * j + 2⟩, fun p => y0.length - p.1⟩
noncomputable def iv84 (y0 : List Cert) (k : Int) : Nat → Option LoopInv := fun k0 => match k0 with
  | 2 => some (in84_2 y0 k)
  | _ => none
noncomputable def D84 : Nat → Option (Bool × FSpec) := lk []
theorem da84 : SoundAll Tryz.prog D84 := soundAll_nil
noncomputable def cx84 (y0 : List Cert) (k : Int) : Cx := ⟨tt, D84, Tryz.f84.ntmps, [0, 1, 4, 5, 9], [(2, ⟨[(0, none), (1, none), (5, none)], [(0, [])]⟩)], [], iv84 y0 k, [], noM, []⟩
def pr84 (n0 : Nat) (k : Int) : Prop := 0 ≤ k ∧ k + 3 * n0 ≤ 4611686018427387904
theorem bd84 (y0 : List Cert) (k : Int) (hpre : pr84 y0.length k) : bodyO (cx84 y0 k) Tryz.f84 [] [.osl 0 y0.length, .int .i64 k] [.arr 3 y0.length (gL (encCert 1) y0) tagS] (fun rr bs => VLe rr (.int .i64 (k + 3 * (y0.length : Int))) ∧ BinLe bs [.arr 3 y0.length (gL (encCert 1) (markC k y0.length)) tagS]) := by
  have key :
      ((∃ x : Nat × List Cert, ((SLe
   (AS.mk
   [(0, V.osl 0 (List.length y0)), (1, V.int IntKind.i64 k),
   (5, V.int IntKind.i64 (0 : Int))]
   [(0, Blk.arr 3 (List.length y0) (gL (encCert 1) y0) 100)])
   (AS.mk
   [(0, V.osl 0 (List.length y0)),
   (1, V.int IntKind.i64 (k + (3 : Int) * (↑(Prod.fst x) : Int))),
   (5, V.int IntKind.i64 (↑(Prod.fst x) : Int))]
   [(0, Blk.arr 3 (List.length y0) (gL (encCert 1) (Prod.snd x)) 100)])) ∧
   ((Prod.fst x ≤ List.length y0) ∧
   ((List.length (Prod.snd x) = List.length y0) ∧
   (∀ j : Nat,
   ((j < Prod.fst x) →
   (List.getD (Prod.snd x) j default =
   Cert.mk (k + (3 : Int) * (↑j : Int)) (k + (3 : Int) * (↑j : Int) + (1 : Int)) (k + (3 : Int) * (↑j : Int) + (2 : Int))))))))) ∧
   (∀ x : Nat × List Cert,
   (((Prod.fst x ≤ List.length y0) ∧
   ((List.length (Prod.snd x) = List.length y0) ∧
   (∀ j : Nat,
   ((j < Prod.fst x) →
   (List.getD (Prod.snd x) j default =
   Cert.mk (k + (3 : Int) * (↑j : Int)) (k + (3 : Int) * (↑j : Int) + (1 : Int)) (k + (3 : Int) * (↑j : Int) + (2 : Int))))))) →
   (((decide ((↑(Prod.fst x) : Int) < (↑(List.length y0) : Int)) = true) →
   ((((0 : Int) ≤ (↑(Prod.fst x) : Int)) ∧
   ((↑(Prod.fst x) : Int) < (↑(List.length y0) : Int))) ∧
   ((Int.toNat (↑(Prod.fst x) : Int) < List.length y0) ∧
   ((inK IntKind.i64 (k + (3 : Int) * (↑(Prod.fst x) : Int) + (1 : Int))) ∧
   ((((0 : Int) ≤ (↑(Prod.fst x) : Int)) ∧
   ((↑(Prod.fst x) : Int) < (↑(List.length y0) : Int))) ∧
   ((Int.toNat (↑(Prod.fst x) : Int) < List.length y0) ∧
   ((inK IntKind.i64 (k + (3 : Int) * (↑(Prod.fst x) : Int) + (1 : Int) + (1 : Int))) ∧
   ((((0 : Int) ≤ (↑(Prod.fst x) : Int)) ∧
   ((↑(Prod.fst x) : Int) < (↑(List.length y0) : Int))) ∧
   ((Int.toNat (↑(Prod.fst x) : Int) < List.length y0) ∧
   ((inK IntKind.i64 (k + (3 : Int) * (↑(Prod.fst x) : Int) + (1 : Int) + (1 : Int) + (1 : Int))) ∧
   ((inK IntKind.i64 ((↑(Prod.fst x) : Int) + (1 : Int))) ∧
   (∃ y : Nat × List Cert, ((SLe
   (AS.mk
   [(0, V.osl 0 (List.length y0)),
   (1, V.int IntKind.i64 (k + (3 : Int) * (↑(Prod.fst x) : Int) + (1 : Int) + (1 : Int) + (1 : Int))),
   (5, V.int IntKind.i64 ((↑(Prod.fst x) : Int) + (1 : Int)))]
   [(0,
   Blk.arr 3 (List.length y0)
   (setg
   (setg
   (setg (gL (encCert 1) (Prod.snd x)) (Int.toNat (↑(Prod.fst x) : Int))
   (V.agg
   [V.int IntKind.i64 (k + (3 : Int) * (↑(Prod.fst x) : Int)),
   V.int IntKind.i64 (Cert.view (List.getD (Prod.snd x) (Int.toNat (↑(Prod.fst x) : Int)) default)),
   V.int IntKind.i64 (Cert.value (List.getD (Prod.snd x) (Int.toNat (↑(Prod.fst x) : Int)) default))]))
   (Int.toNat (↑(Prod.fst x) : Int))
   (V.agg
   [List.getD
   (V.cells
   (setg (gL (encCert 1) (Prod.snd x)) (Int.toNat (↑(Prod.fst x) : Int))
   (V.agg
   [V.int IntKind.i64 (k + (3 : Int) * (↑(Prod.fst x) : Int)),
   V.int IntKind.i64
   (Cert.view (List.getD (Prod.snd x) (Int.toNat (↑(Prod.fst x) : Int)) default)),
   V.int IntKind.i64
   (Cert.value (List.getD (Prod.snd x) (Int.toNat (↑(Prod.fst x) : Int)) default))])
   (Int.toNat (↑(Prod.fst x) : Int))))
   0 V.undef,
   V.int IntKind.i64 (k + (3 : Int) * (↑(Prod.fst x) : Int) + (1 : Int)),
   List.getD
   (V.cells
   (setg (gL (encCert 1) (Prod.snd x)) (Int.toNat (↑(Prod.fst x) : Int))
   (V.agg
   [V.int IntKind.i64 (k + (3 : Int) * (↑(Prod.fst x) : Int)),
   V.int IntKind.i64
   (Cert.view (List.getD (Prod.snd x) (Int.toNat (↑(Prod.fst x) : Int)) default)),
   V.int IntKind.i64
   (Cert.value (List.getD (Prod.snd x) (Int.toNat (↑(Prod.fst x) : Int)) default))])
   (Int.toNat (↑(Prod.fst x) : Int))))
   2 V.undef]))
   (Int.toNat (↑(Prod.fst x) : Int))
   (V.agg
   [List.getD
   (V.cells
   (setg
   (setg (gL (encCert 1) (Prod.snd x)) (Int.toNat (↑(Prod.fst x) : Int))
   (V.agg
   [V.int IntKind.i64 (k + (3 : Int) * (↑(Prod.fst x) : Int)),
   V.int IntKind.i64
   (Cert.view (List.getD (Prod.snd x) (Int.toNat (↑(Prod.fst x) : Int)) default)),
   V.int IntKind.i64
   (Cert.value (List.getD (Prod.snd x) (Int.toNat (↑(Prod.fst x) : Int)) default))]))
   (Int.toNat (↑(Prod.fst x) : Int))
   (V.agg
   [List.getD
   (V.cells
   (setg (gL (encCert 1) (Prod.snd x)) (Int.toNat (↑(Prod.fst x) : Int))
   (V.agg
   [V.int IntKind.i64 (k + (3 : Int) * (↑(Prod.fst x) : Int)),
   V.int IntKind.i64
   (Cert.view (List.getD (Prod.snd x) (Int.toNat (↑(Prod.fst x) : Int)) default)),
   V.int IntKind.i64
   (Cert.value (List.getD (Prod.snd x) (Int.toNat (↑(Prod.fst x) : Int)) default))])
   (Int.toNat (↑(Prod.fst x) : Int))))
   0 V.undef,
   V.int IntKind.i64 (k + (3 : Int) * (↑(Prod.fst x) : Int) + (1 : Int)),
   List.getD
   (V.cells
   (setg (gL (encCert 1) (Prod.snd x)) (Int.toNat (↑(Prod.fst x) : Int))
   (V.agg
   [V.int IntKind.i64 (k + (3 : Int) * (↑(Prod.fst x) : Int)),
   V.int IntKind.i64
   (Cert.view (List.getD (Prod.snd x) (Int.toNat (↑(Prod.fst x) : Int)) default)),
   V.int IntKind.i64
   (Cert.value (List.getD (Prod.snd x) (Int.toNat (↑(Prod.fst x) : Int)) default))])
   (Int.toNat (↑(Prod.fst x) : Int))))
   2 V.undef])
   (Int.toNat (↑(Prod.fst x) : Int))))
   0 V.undef,
   List.getD
   (V.cells
   (setg
   (setg (gL (encCert 1) (Prod.snd x)) (Int.toNat (↑(Prod.fst x) : Int))
   (V.agg
   [V.int IntKind.i64 (k + (3 : Int) * (↑(Prod.fst x) : Int)),
   V.int IntKind.i64
   (Cert.view (List.getD (Prod.snd x) (Int.toNat (↑(Prod.fst x) : Int)) default)),
   V.int IntKind.i64
   (Cert.value (List.getD (Prod.snd x) (Int.toNat (↑(Prod.fst x) : Int)) default))]))
   (Int.toNat (↑(Prod.fst x) : Int))
   (V.agg
   [List.getD
   (V.cells
   (setg (gL (encCert 1) (Prod.snd x)) (Int.toNat (↑(Prod.fst x) : Int))
   (V.agg
   [V.int IntKind.i64 (k + (3 : Int) * (↑(Prod.fst x) : Int)),
   V.int IntKind.i64
   (Cert.view (List.getD (Prod.snd x) (Int.toNat (↑(Prod.fst x) : Int)) default)),
   V.int IntKind.i64
   (Cert.value (List.getD (Prod.snd x) (Int.toNat (↑(Prod.fst x) : Int)) default))])
   (Int.toNat (↑(Prod.fst x) : Int))))
   0 V.undef,
   V.int IntKind.i64 (k + (3 : Int) * (↑(Prod.fst x) : Int) + (1 : Int)),
   List.getD
   (V.cells
   (setg (gL (encCert 1) (Prod.snd x)) (Int.toNat (↑(Prod.fst x) : Int))
   (V.agg
   [V.int IntKind.i64 (k + (3 : Int) * (↑(Prod.fst x) : Int)),
   V.int IntKind.i64
   (Cert.view (List.getD (Prod.snd x) (Int.toNat (↑(Prod.fst x) : Int)) default)),
   V.int IntKind.i64
   (Cert.value (List.getD (Prod.snd x) (Int.toNat (↑(Prod.fst x) : Int)) default))])
   (Int.toNat (↑(Prod.fst x) : Int))))
   2 V.undef])
   (Int.toNat (↑(Prod.fst x) : Int))))
   1 V.undef,
   V.int IntKind.i64 (k + (3 : Int) * (↑(Prod.fst x) : Int) + (1 : Int) + (1 : Int))]))
   100)])
   (AS.mk
   [(0, V.osl 0 (List.length y0)),
   (1, V.int IntKind.i64 (k + (3 : Int) * (↑(Prod.fst y) : Int))),
   (5, V.int IntKind.i64 (↑(Prod.fst y) : Int))]
   [(0, Blk.arr 3 (List.length y0) (gL (encCert 1) (Prod.snd y)) 100)])) ∧
   (((Prod.fst y ≤ List.length y0) ∧
   ((List.length (Prod.snd y) = List.length y0) ∧
   (∀ j : Nat,
   ((j < Prod.fst y) →
   (List.getD (Prod.snd y) j default =
   Cert.mk (k + (3 : Int) * (↑j : Int)) (k + (3 : Int) * (↑j : Int) + (1 : Int)) (k + (3 : Int) * (↑j : Int) + (2 : Int))))))) ∧
   (List.length y0 - Prod.fst y < List.length y0 - Prod.fst x))))))))))))))) ∧
   ((decide ((↑(Prod.fst x) : Int) < (↑(List.length y0) : Int)) = false) →
   ((VLe (V.int IntKind.i64 (k + (3 : Int) * (↑(Prod.fst x) : Int)))
   (V.int IntKind.i64 (k + (3 : Int) * (↑(List.length y0) : Int)))) ∧
   ((BLe (Blk.arr 3 (List.length y0) (gL (encCert 1) (Prod.snd x)) 100)
   (Blk.arr 3 (List.length y0) (gL (encCert 1) (markC k (List.length y0))) 100)) ∧
   (True)))))))) := by
    unfold pr84 at hpre
    refine ⟨⟨(0, y0), SLe.refl' (by simp), by omega, rfl, fun j hj => absurd hj (Nat.not_lt_zero j)⟩, ?_⟩
    rintro ⟨i, ys⟩ ⟨hi, hl, hj⟩
    simp only at hi hl hj ⊢
    refine ⟨fun h => ?_, fun h => ?_⟩
    · have hlt : i < y0.length := by simpa using h
      simp only [Int.toNat_natCast]
      refine ⟨by omega, by omega, inK64 (by omega), by omega, by omega, inK64 (by omega), by omega, by omega, inK64 (by omega), inK64 (by omega), (i + 1, ys.set i ⟨k + 3 * i, k + 3 * i + 1, k + 3 * i + 2⟩), ?_, ⟨by simp only; omega, by simpa using hl, fun j h3 => ?_⟩, by simp only; omega⟩
      · refine sle_of ⟨rfl, VLe.refl _, rfl, vle_int (by simp only; omega), rfl, vle_int (by simp), trivial⟩ ⟨rfl, ?_, trivial⟩
        refine ble_arr (fun q hq => ?_) (Or.inl rfl)
        by_cases e : q = i
        · subst e
          simp only [gL]
          rw [getD_set_eq _ _ _ _ (show q < ys.length by omega)]
          refine ELe.of_eq ?_
          simp [setg, gL, V.cells, encCert]
          omega
        · simp only [setg, e, if_false, gL]
          rw [getD_set_ne _ _ _ _ e]
          exact ELe.refl _
      · simp only at h3 ⊢
        by_cases e : j = i
        · subst e; rw [getD_set_eq _ _ _ _ (by omega)]
        · rw [getD_set_ne _ _ _ _ e]; exact hj j (by omega)
    · have hge : i = y0.length := by simp at h; omega
      subst hge
      refine ⟨vle_int rfl, ble_arr (fun j hj' => ELe.of_eq ?_) (Or.inl rfl), trivial⟩
      simp only [gL]
      rw [hj j hj', markC_get _ _ _ hj']
  exact Eq.mp (by kernel_rfl) key
noncomputable def sp84 : FSpec := fun args bin => match args, bin with
  | [.osl i0 m0, .int .i64 k], [.arr s0 p0 g0 t0] => some ((i0 = 0 ∧ s0 = 3 ∧ t0 = tagS ∧ p0 = m0 ∧ ∃ y : List Cert, y.length = m0 ∧ ∀ i, i < m0 → ELe (g0 i) (gL (encCert 1) y i)) ∧ pr84 m0 k, .int .i64 (k + 3 * (m0 : Int)), [.arr 3 m0 (gL (encCert 1) (markC k m0)) tagS])
  | _, _ => none
theorem so84 : Sound Tryz.prog 84 sp84 := by
  refine sound_of_bodyO hmix (tpl := []) Tryz.func84 rfl (by kernel_rfl) fun args bin ob r bout hDe hob => ?_
  unfold sp84 at hDe
  split at hDe
  · rename_i i0 m0 k s0 p0 g0 t0
    cases hDe
    obtain ⟨⟨rfl, rfl, rfl, rfl, y0, rfl, h0⟩, hpre⟩ := hob
    exact ⟨Nat.le_of_ble_eq_true (by kernel_rfl), cx84 y0 k, Eq.mp (by kernel_rfl) htt, Eq.mp (by kernel_rfl) da84, Eq.mp (by kernel_rfl) (noM_sound (P := Tryz.prog)), by kernel_rfl, _, [.arr 3 y0.length (gL (encCert 1) y0) tagS], ArgsLe.refl _, ⟨ble_arr h0 (Or.inl rfl), trivial⟩, Eq.mp (by kernel_rfl) (bd84 y0 k hpre)⟩
  · cases hDe

/-! ### laws.markMsg -/
noncomputable def D86 : Nat → Option (Bool × FSpec) := lk [(84, (true, sp84)), (85, (true, sp85))]
theorem da86 : SoundAll Tryz.prog D86 := soundAll_cons so84 (soundAll_cons so85 (soundAll_nil))
noncomputable def cx86 (c0 : Int) (c1 : Int) (c2 : Int) (c3 : Int) (c4 : Int) (y0 : List Cert) (y1 : List Int) (k : Int) : Cx := ⟨tt, D86, Tryz.f86.ntmps, [0, 1, 2, 4], [], [], fun _ => none, [], noM, []⟩
def pr86 (n0 : Nat) (n1 : Nat) (k : Int) : Prop := 0 ≤ k ∧ k + 3 * n0 + n1 ≤ 4611686018427387904
theorem bd86 (c0 : Int) (c1 : Int) (c2 : Int) (c3 : Int) (c4 : Int) (y0 : List Cert) (y1 : List Int) (k : Int) (hpre : pr86 y0.length y1.length k) : bodyO (cx86 c0 c1 c2 c3 c4 y0 y1 k) Tryz.f86 [] [.agg [.int .i64 (c0), .int .i64 (c1), .int .i64 (c2), .int .i64 (c3), .int .i64 (c4), .osl 0 y0.length, .osl 1 y1.length], .int .i64 k] [.arr 3 y0.length (gL (encCert 1) y0) tagS, .arr 1 y1.length (gL encI y1) tagS] (fun rr bs => VLe rr (.int .i64 (k + 3 * (y0.length : Int) + (y1.length : Int))) ∧ BinLe bs [.arr 3 y0.length (gL (encCert 1) (markC k y0.length)) tagS, .arr 1 y1.length (gL encI (markI (k + 3 * y0.length) y1.length)) tagS]) := by
  have key :
      ((((0 = 0) ∧
   ((3 = 3) ∧
   ((100 = 100) ∧
   ((List.length y0 = List.length y0) ∧
   (∃ y : List Cert, ((List.length y = List.length y0) ∧
   (∀ i : Nat,
   ((i < List.length y0) →
   (ELe (encCert 1 (List.getD y0 i default)) (encCert 1 (List.getD y i default))))))))))) ∧
   (pr84 (List.length y0) k)) ∧
   ((List.length y0 = List.length y0) ∧
   ((((0 = 0) ∧
   ((1 = 1) ∧
   ((100 = 100) ∧
   ((List.length y1 = List.length y1) ∧
   (∃ y : List Int, ((List.length y = List.length y1) ∧
   (∀ i : Nat,
   ((i < List.length y1) →
   (ELe (V.int IntKind.i64 (List.getD y1 i default)) (V.int IntKind.i64 (List.getD y i default))))))))))) ∧
   (pr85 (List.length y1) (k + (3 : Int) * (↑(List.length y0) : Int)))) ∧
   ((List.length y1 = List.length y1) ∧
   ((VLe (V.int IntKind.i64 (k + (3 : Int) * (↑(List.length y0) : Int) + (↑(List.length y1) : Int)))
   (V.int IntKind.i64 (k + (3 : Int) * (↑(List.length y0) : Int) + (↑(List.length y1) : Int)))) ∧
   ((BLe (Blk.arr 3 (List.length y0) (gL (encCert 1) (markC k (List.length y0))) 100)
   (Blk.arr 3 (List.length y0) (gL (encCert 1) (markC k (List.length y0))) 100)) ∧
   ((BLe
   (Blk.arr 1 (List.length y1) (gL encI (markI (k + (3 : Int) * (↑(List.length y0) : Int)) (List.length y1)))
   100)
   (Blk.arr 1 (List.length y1) (gL encI (markI (k + (3 : Int) * (↑(List.length y0) : Int)) (List.length y1)))
   100)) ∧
   (True)))))))) := by
    unfold pr86 at hpre
    refine ⟨⟨⟨rfl, rfl, rfl, rfl, y0, rfl, fun _ _ => ELe.refl _⟩, by unfold pr84; omega⟩, rfl, ⟨⟨rfl, rfl, rfl, rfl, y1, rfl, fun _ _ => ELe.refl _⟩, by unfold pr85; omega⟩, rfl, VLe.refl _, BLe.refl _, BLe.refl _, trivial⟩
  exact Eq.mp (by kernel_rfl) key
noncomputable def sp86 : FSpec := fun args bin => match args, bin with
  | [.agg [.int .i64 (c0), .int .i64 (c1), .int .i64 (c2), .int .i64 (c3), .int .i64 (c4), .osl i0 m0, .osl i1 m1], .int .i64 k], [.arr s0 p0 g0 t0, .arr s1 p1 g1 t1] => some ((i0 = 0 ∧ s0 = 3 ∧ t0 = tagS ∧ p0 = m0 ∧ ∃ y : List Cert, y.length = m0 ∧ ∀ i, i < m0 → ELe (g0 i) (gL (encCert 1) y i)) ∧ (i1 = 1 ∧ s1 = 1 ∧ t1 = tagS ∧ p1 = m1 ∧ ∃ y : List Int, y.length = m1 ∧ ∀ i, i < m1 → ELe (g1 i) (gL encI y i)) ∧ pr86 m0 m1 k, .int .i64 (k + 3 * (m0 : Int) + (m1 : Int)), [.arr 3 m0 (gL (encCert 1) (markC k m0)) tagS, .arr 1 m1 (gL encI (markI (k + 3 * m0) m1)) tagS])
  | _, _ => none
theorem so86 : Sound Tryz.prog 86 sp86 := by
  refine sound_of_bodyO hmix (tpl := []) Tryz.func86 rfl (by kernel_rfl) fun args bin ob r bout hDe hob => ?_
  unfold sp86 at hDe
  split at hDe
  · rename_i c0 c1 c2 c3 c4 i0 m0 i1 m1 k s0 p0 g0 t0 s1 p1 g1 t1
    cases hDe
    obtain ⟨⟨rfl, rfl, rfl, rfl, y0, rfl, h0⟩, ⟨rfl, rfl, rfl, rfl, y1, rfl, h1⟩, hpre⟩ := hob
    exact ⟨Nat.le_of_ble_eq_true (by kernel_rfl), cx86 c0 c1 c2 c3 c4 y0 y1 k, Eq.mp (by kernel_rfl) htt, Eq.mp (by kernel_rfl) da86, Eq.mp (by kernel_rfl) (noM_sound (P := Tryz.prog)), by kernel_rfl, _, [.arr 3 y0.length (gL (encCert 1) y0) tagS, .arr 1 y1.length (gL encI y1) tagS], ArgsLe.refl _, ⟨ble_arr h0 (Or.inl rfl), ble_arr h1 (Or.inl rfl), trivial⟩, Eq.mp (by kernel_rfl) (bd86 c0 c1 c2 c3 c4 y0 y1 k hpre)⟩
  · cases hDe

/-- What is told of a row that is held against its marks. -/
def heldI (xs : List Int) (k : Int) : Int := if xs = markI k xs.length then k + xs.length else -1
noncomputable def heldC (xs : List Cert) (k : Int) : Int := if xs = markC k xs.length then k + 3 * xs.length else -1
theorem heldI_mark (k : Int) (n : Nat) : heldI (markI k n) k = k + n := by simp [heldI]
theorem heldC_mark (k : Int) (n : Nat) : heldC (markC k n) k = k + 3 * n := by simp [heldC]
theorem eq_of_getD {α : Type} [Inhabited α] {xs ys : List α} (hl : xs.length = ys.length) (h : ∀ j, j < xs.length → xs.getD j default = ys.getD j default) : xs = ys := by
  refine List.ext_getElem hl fun k h1 h2 => ?_
  have := h k h1
  simpa [h1, h2] using this

/-! ### Marked rows as values -/
theorem decL_markI (k : Int) (n t : Nat) : decL decI (.sl n (gL encI (markI k n)) t) = markI k n := by
  have h := decL_encL decI_encI t (markI k n)
  unfold encL at h
  rwa [markI_len] at h
theorem vle_markI (k : Int) (n t : Nat) : VLe (.sl n (gL encI (markI k n)) t) (encL encI t (markI k n)) := by
  unfold encL
  rw [markI_len]
  exact VLe.refl _
theorem decL_markC (k : Int) (n t : Nat) : decL decCert (.sl n (gL (encCert 1) (markC k n)) t) = markC k n := by
  have h := decL_encL (dec_encCert 1) t (markC k n)
  unfold encL at h
  rwa [markC_len] at h
theorem vle_markC (k : Int) (n t : Nat) : VLe (.sl n (gL (encCert 1) (markC k n)) t) (encL (encCert 1) t (markC k n)) := by
  unfold encL
  rw [markC_len]
  exact VLe.refl _
theorem dec_markInts (c k : Int) (n : Nat) : decIntsResult (.agg [.int .i64 c, .sl n (gL encI (markI k n)) 1]) = ⟨c, markI k n⟩ := by
  show (⟨c, decL decI (.sl n (gL encI (markI k n)) 1)⟩ : IntsResult) = _
  rw [decL_markI]
theorem vle_markInts (c k : Int) (n : Nat) : VLe (.agg [.int .i64 c, .sl n (gL encI (markI k n)) 1]) (encIntsResult 1 ⟨c, markI k n⟩) := vle_agg ⟨VLe.refl _, vle_markI k n 1, trivial⟩
theorem dec_markCerts (c k : Int) (n : Nat) : decCertsResult (.agg [.int .i64 c, .sl n (gL (encCert 1) (markC k n)) 1]) = ⟨c, markC k n⟩ := by
  show (⟨c, decL decCert (.sl n (gL (encCert 1) (markC k n)) 1)⟩ : CertsResult) = _
  rw [decL_markC]
theorem vle_markCerts (c k : Int) (n : Nat) : VLe (.agg [.int .i64 c, .sl n (gL (encCert 1) (markC k n)) 1]) (encCertsResult 1 ⟨c, markC k n⟩) := vle_agg ⟨VLe.refl _, vle_markC k n 1, trivial⟩
/-- What the bound on the arguments gives for marks. -/
theorem cntL_le {l : List Msg} {n : Nat} (hl : l.length ≤ n) (h : ∀ x ∈ l, x.certs.length ≤ n ∧ x.refs.length ≤ n) : cntL l l.length ≤ (l.length : Int) * (5 + 4 * n) := by
  unfold cntL
  rw [List.take_length]
  clear hl
  induction l with
  | nil => simp
  | cons x r ih =>
    have h1 := h x (by simp)
    have h2 := ih fun y hy => h y (List.mem_cons_of_mem _ hy)
    have h3 : cntM x ≤ 5 + 4 * (n : Int) := by unfold cntM; omega
    simp only [List.map_cons, List.sum_cons, List.length_cons]
    rw [Int.natCast_add, Int.add_mul]
    omega

/-! ### laws.heldInt64S -/
def pr127 (xs : List Int) (k : Int) : Prop := 0 ≤ k ∧ k + xs.length ≤ 4611686018427387904
noncomputable def rs127 (xs : List Int) (k : Int) : V := .int .i64 (heldI xs k)
noncomputable def sp127 : FSpec := fun args bin => match args, bin with
  | [a0, .int .i64 a1], [] => some (VLe a0 (encL encI 1 (((decL decI) a0))) ∧ pr127 ((decL decI) a0) a1, rs127 ((decL decI) a0) a1, [])
  | _, _ => none
noncomputable def in127_2 (xs : List Int) (k : Int) : LoopInv :=
  ⟨Nat, fun i => ⟨[(0, encL encI 1 xs), (1, .int .i64 (k + i)), (5, .int .i64 i)], []⟩, fun i => i ≤ xs.length ∧ ∀ j, j < i → xs.getD j default = k + j, fun i => xs.length - i⟩
noncomputable def iv127 (xs : List Int) (k : Int) : Nat → Option LoopInv := fun rg_ => match rg_ with
  | 2 => some (in127_2 xs k)
  | _ => none
noncomputable def D127 : Nat → Option (Bool × FSpec) := lk []
theorem da127 : SoundAll Tryz.prog D127 := soundAll_nil
noncomputable def cx127 (xs : List Int) (k : Int) : Cx := ⟨tt, D127, Tryz.f127.ntmps, [0, 1, 4, 5, 9, 17], [(2, ⟨[(0, none), (1, none), (5, none)], []⟩)], [], iv127 xs k, [], noM, []⟩
theorem bd127 (xs : List Int) (k : Int) (hpre : pr127 xs k) : bodyP (cx127 xs k) Tryz.f127 0 [encL encI 1 (xs), .int .i64 (k)] (fun rr => VLe rr (rs127 xs k)) := by
  have key :
      ((∃ x : Nat, ((SLe
   (AS.mk
   [(0, encL encI 1 xs), (1, V.int IntKind.i64 k), (5, V.int IntKind.i64 (0 : Int))]
   [])
   (AS.mk
   [(0, encL encI 1 xs), (1, V.int IntKind.i64 (k + (↑x : Int))),
   (5, V.int IntKind.i64 (↑x : Int))]
   [])) ∧
   ((x ≤ List.length xs) ∧
   (∀ j : Nat,
   ((j < x) →
   (List.getD xs j default = k + (↑j : Int))))))) ∧
   (∀ x : Nat,
   (((x ≤ List.length xs) ∧
   (∀ j : Nat,
   ((j < x) →
   (List.getD xs j default = k + (↑j : Int))))) →
   (((decide ((↑x : Int) < (↑(List.length xs) : Int)) = true) →
   ((((0 : Int) ≤ (↑x : Int)) ∧
   ((↑x : Int) < (↑(List.length xs) : Int))) ∧
   ((((List.getD xs (Int.toNat (↑x : Int)) default != k + (↑x : Int)) = true) →
   (VLe (V.int IntKind.i64 (-1 : Int)) (V.int IntKind.i64 (heldI xs k)))) ∧
   (((List.getD xs (Int.toNat (↑x : Int)) default != k + (↑x : Int)) = false) →
   ((inK IntKind.i64 (k + (↑x : Int) + (1 : Int))) ∧
   ((inK IntKind.i64 ((↑x : Int) + (1 : Int))) ∧
   (∃ y : Nat, ((SLe
   (AS.mk
   [(0, encL encI 1 xs), (1, V.int IntKind.i64 (k + (↑x : Int) + (1 : Int))),
   (5, V.int IntKind.i64 ((↑x : Int) + (1 : Int)))]
   [])
   (AS.mk
   [(0, encL encI 1 xs), (1, V.int IntKind.i64 (k + (↑y : Int))),
   (5, V.int IntKind.i64 (↑y : Int))]
   [])) ∧
   (((y ≤ List.length xs) ∧
   (∀ j : Nat,
   ((j < y) →
   (List.getD xs j default = k + (↑j : Int))))) ∧
   (List.length xs - y < List.length xs - x)))))))))) ∧
   ((decide ((↑x : Int) < (↑(List.length xs) : Int)) = false) →
   (VLe (V.int IntKind.i64 (k + (↑x : Int))) (V.int IntKind.i64 (heldI xs k)))))))) := by
    unfold pr127 at hpre
    refine ⟨⟨0, SLe.refl' (by simp), by omega, fun j hj => absurd hj (Nat.not_lt_zero j)⟩, ?_⟩
    rintro i ⟨hi, hj⟩
    refine ⟨fun h => ?_, fun h => ?_⟩
    · have hlt : i < xs.length := by simpa using h
      simp only [Int.toNat_natCast]
      refine ⟨by omega, fun h2 => ?_, fun h2 => ⟨inK64 (by omega), inK64 (by omega), i + 1, sle_of ⟨rfl, VLe.refl _, rfl, vle_int (by omega), rfl, vle_int (by omega), trivial⟩ trivial, ⟨by omega, fun j h3 => ?_⟩, by omega⟩⟩
      · refine vle_int ?_
        have : xs ≠ markI k xs.length := fun e => by
          have h4 : xs.getD i default = k + i := by
            have := markI_get k xs.length i hlt
            rw [← e] at this
            exact this
          rw [h4] at h2
          simp at h2
        unfold heldI
        rw [if_neg this]
      · rcases Nat.lt_or_ge j i with h4 | h4
        · exact hj j h4
        · have : j = i := by omega
          subst this
          simpa using h2
    · refine vle_int ?_
      have hge : i = xs.length := by simp at h; omega
      subst hge
      have : xs = markI k xs.length := eq_of_getD (by simp) fun j hj' => by rw [hj j hj', markI_get _ _ _ hj']
      unfold heldI
      rw [if_pos this]
  exact Eq.mp (by kernel_rfl) key
theorem so127 : Sound Tryz.prog 127 sp127 := by
  refine sound_of_body hmix (pol := 0) Tryz.func127 rfl (by kernel_rfl) fun args bin ob r bout hDe hob => ?_
  unfold sp127 at hDe
  split at hDe
  · rename_i a0 a1
    cases hDe
    exact ⟨rfl, rfl, Nat.le_of_ble_eq_true (by kernel_rfl), cx127 ((decL decI) a0) a1, Eq.mp (by kernel_rfl) htt, Eq.mp (by kernel_rfl) da127, Eq.mp (by kernel_rfl) (noM_sound (P := Tryz.prog)), by kernel_rfl, [encL encI 1 (((decL decI) a0)), .int .i64 (a1)], args_of_vles (⟨hob.1, VLe.refl _, trivial⟩), Eq.mp (by kernel_rfl) (bd127 ((decL decI) a0) a1 (hob.2))⟩
  · cases hDe

/-! ### laws.heldCertS -/
def pr126 (xs : List Cert) (k : Int) : Prop := 0 ≤ k ∧ k + 3 * xs.length ≤ 4611686018427387904
noncomputable def rs126 (xs : List Cert) (k : Int) : V := .int .i64 (heldC xs k)
noncomputable def sp126 : FSpec := fun args bin => match args, bin with
  | [a0, .int .i64 a1], [] => some (VLe a0 (encL (encCert 1) 1 (((decL decCert) a0))) ∧ pr126 ((decL decCert) a0) a1, rs126 ((decL decCert) a0) a1, [])
  | _, _ => none
noncomputable def in126_2 (xs : List Cert) (k : Int) : LoopInv :=
  ⟨Nat, fun i => ⟨[(0, encL (encCert 1) 1 xs), (1, .int .i64 (k + 3 * i)), (5, .int .i64 i)], []⟩, fun i => i ≤ xs.length ∧ ∀ j, j < i → xs.getD j default = ⟨k + 3 * j, k + 3 * j + 1, k + 3 * j + 2⟩, fun i => xs.length - i⟩
noncomputable def iv126 (xs : List Cert) (k : Int) : Nat → Option LoopInv := fun rg_ => match rg_ with
  | 2 => some (in126_2 xs k)
  | _ => none
noncomputable def D126 : Nat → Option (Bool × FSpec) := lk []
theorem da126 : SoundAll Tryz.prog D126 := soundAll_nil
noncomputable def cx126 (xs : List Cert) (k : Int) : Cx := ⟨tt, D126, Tryz.f126.ntmps, [0, 1, 4, 5, 9, 18, 27, 36], [(2, ⟨[(0, none), (1, none), (5, none)], []⟩)], [], iv126 xs k, [], noM, []⟩
theorem bd126 (xs : List Cert) (k : Int) (hpre : pr126 xs k) : bodyP (cx126 xs k) Tryz.f126 0 [encL (encCert 1) 1 (xs), .int .i64 (k)] (fun rr => VLe rr (rs126 xs k)) := by
  have key :
      ((∃ x : Nat, ((SLe
   (AS.mk
   [(0, encL (encCert 1) 1 xs), (1, V.int IntKind.i64 k),
   (5, V.int IntKind.i64 (0 : Int))]
   [])
   (AS.mk
   [(0, encL (encCert 1) 1 xs), (1, V.int IntKind.i64 (k + (3 : Int) * (↑x : Int))),
   (5, V.int IntKind.i64 (↑x : Int))]
   [])) ∧
   ((x ≤ List.length xs) ∧
   (∀ j : Nat,
   ((j < x) →
   (List.getD xs j default =
   Cert.mk (k + (3 : Int) * (↑j : Int)) (k + (3 : Int) * (↑j : Int) + (1 : Int)) (k + (3 : Int) * (↑j : Int) + (2 : Int)))))))) ∧
   (∀ x : Nat,
   (((x ≤ List.length xs) ∧
   (∀ j : Nat,
   ((j < x) →
   (List.getD xs j default =
   Cert.mk (k + (3 : Int) * (↑j : Int)) (k + (3 : Int) * (↑j : Int) + (1 : Int)) (k + (3 : Int) * (↑j : Int) + (2 : Int)))))) →
   (((decide ((↑x : Int) < (↑(List.length xs) : Int)) = true) →
   ((((0 : Int) ≤ (↑x : Int)) ∧
   ((↑x : Int) < (↑(List.length xs) : Int))) ∧
   ((((Cert.slot (List.getD xs (Int.toNat (↑x : Int)) default) != k + (3 : Int) * (↑x : Int)) = true) →
   (VLe (V.int IntKind.i64 (-1 : Int)) (V.int IntKind.i64 (heldC xs k)))) ∧
   (((Cert.slot (List.getD xs (Int.toNat (↑x : Int)) default) != k + (3 : Int) * (↑x : Int)) = false) →
   ((inK IntKind.i64 (k + (3 : Int) * (↑x : Int) + (1 : Int))) ∧
   ((((0 : Int) ≤ (↑x : Int)) ∧
   ((↑x : Int) < (↑(List.length xs) : Int))) ∧
   ((((Cert.view (List.getD xs (Int.toNat (↑x : Int)) default) != k + (3 : Int) * (↑x : Int) + (1 : Int)) = true) →
   (VLe (V.int IntKind.i64 (-1 : Int)) (V.int IntKind.i64 (heldC xs k)))) ∧
   (((Cert.view (List.getD xs (Int.toNat (↑x : Int)) default) != k + (3 : Int) * (↑x : Int) + (1 : Int)) = false) →
   ((inK IntKind.i64 (k + (3 : Int) * (↑x : Int) + (1 : Int) + (1 : Int))) ∧
   ((((0 : Int) ≤ (↑x : Int)) ∧
   ((↑x : Int) < (↑(List.length xs) : Int))) ∧
   ((((Cert.value (List.getD xs (Int.toNat (↑x : Int)) default) != k + (3 : Int) * (↑x : Int) + (1 : Int) + (1 : Int)) = true) →
   (VLe (V.int IntKind.i64 (-1 : Int)) (V.int IntKind.i64 (heldC xs k)))) ∧
   (((Cert.value (List.getD xs (Int.toNat (↑x : Int)) default) != k + (3 : Int) * (↑x : Int) + (1 : Int) + (1 : Int)) = false) →
   ((inK IntKind.i64 (k + (3 : Int) * (↑x : Int) + (1 : Int) + (1 : Int) + (1 : Int))) ∧
   ((inK IntKind.i64 ((↑x : Int) + (1 : Int))) ∧
   (∃ y : Nat, ((SLe
   (AS.mk
   [(0, encL (encCert 1) 1 xs),
   (1, V.int IntKind.i64 (k + (3 : Int) * (↑x : Int) + (1 : Int) + (1 : Int) + (1 : Int))),
   (5, V.int IntKind.i64 ((↑x : Int) + (1 : Int)))]
   [])
   (AS.mk
   [(0, encL (encCert 1) 1 xs), (1, V.int IntKind.i64 (k + (3 : Int) * (↑y : Int))),
   (5, V.int IntKind.i64 (↑y : Int))]
   [])) ∧
   (((y ≤ List.length xs) ∧
   (∀ j : Nat,
   ((j < y) →
   (List.getD xs j default =
   Cert.mk (k + (3 : Int) * (↑j : Int)) (k + (3 : Int) * (↑j : Int) + (1 : Int)) (k + (3 : Int) * (↑j : Int) + (2 : Int)))))) ∧
   (List.length xs - y < List.length xs - x)))))))))))))))))) ∧
   ((decide ((↑x : Int) < (↑(List.length xs) : Int)) = false) →
   (VLe (V.int IntKind.i64 (k + (3 : Int) * (↑x : Int))) (V.int IntKind.i64 (heldC xs k)))))))) := by
    unfold pr126 at hpre
    refine ⟨⟨0, SLe.refl' (by simp), by omega, fun j hj => absurd hj (Nat.not_lt_zero j)⟩, ?_⟩
    rintro i ⟨hi, hj⟩
    refine ⟨fun h => ?_, fun h => ?_⟩
    · have hlt : i < xs.length := by simpa using h
      have no : xs.getD i default ≠ ⟨k + 3 * i, k + 3 * i + 1, k + 3 * i + 2⟩ → VLe (.int .i64 (-1)) (.int .i64 (heldC xs k)) := fun hn => by
        refine vle_int ?_
        have : xs ≠ markC k xs.length := fun e => hn (by rw [e]; exact markC_get _ _ _ hlt)
        unfold heldC
        rw [if_neg this]
      simp only [Int.toNat_natCast]
      refine ⟨by omega, fun h2 => ?_, fun h2 => ⟨inK64 (by omega), by omega, fun h3 => ?_, fun h3 => ⟨inK64 (by omega), by omega, fun h4 => ?_, fun h4 => ⟨inK64 (by omega), inK64 (by omega), i + 1, sle_of ⟨rfl, VLe.refl _, rfl, vle_int (by omega), rfl, vle_int (by omega), trivial⟩ trivial, ⟨by omega, fun j h5 => ?_⟩, by omega⟩⟩⟩⟩
      · exact no fun e => by rw [e] at h2; simp at h2
      · exact no fun e => by rw [e] at h3; simp at h3
      · exact no fun e => by rw [e] at h4; simp at h4; omega
      · rcases Nat.lt_or_ge j i with h6 | h6
        · exact hj j h6
        · have : j = i := by omega
          subst this
          rw [eq_Cert]
          have a2 : (xs.getD j default).slot = k + 3 * j := by simpa using h2
          have a3 : (xs.getD j default).view = k + 3 * j + 1 := by simpa using h3
          have a4 : (xs.getD j default).value = k + 3 * j + 1 + 1 := by simpa using h4
          exact ⟨a2, a3, a4.trans (by simp only; omega)⟩
    · refine vle_int ?_
      have hge : i = xs.length := by simp at h; omega
      subst hge
      have : xs = markC k xs.length := eq_of_getD (by simp) fun j hj' => by rw [hj j hj', markC_get _ _ _ hj']
      unfold heldC
      rw [if_pos this]
  exact Eq.mp (by kernel_rfl) key
theorem so126 : Sound Tryz.prog 126 sp126 := by
  refine sound_of_body hmix (pol := 0) Tryz.func126 rfl (by kernel_rfl) fun args bin ob r bout hDe hob => ?_
  unfold sp126 at hDe
  split at hDe
  · rename_i a0 a1
    cases hDe
    exact ⟨rfl, rfl, Nat.le_of_ble_eq_true (by kernel_rfl), cx126 ((decL decCert) a0) a1, Eq.mp (by kernel_rfl) htt, Eq.mp (by kernel_rfl) da126, Eq.mp (by kernel_rfl) (noM_sound (P := Tryz.prog)), by kernel_rfl, [encL (encCert 1) 1 (((decL decCert) a0)), .int .i64 (a1)], args_of_vles (⟨hob.1, VLe.refl _, trivial⟩), Eq.mp (by kernel_rfl) (bd126 ((decL decCert) a0) a1 (hob.2))⟩
  · cases hDe

theorem heldI_cases (xs : List Int) (k : Int) : heldI xs k = k + xs.length ∨ heldI xs k = -1 := by unfold heldI; split <;> simp
theorem heldC_cases (xs : List Cert) (k : Int) : heldC xs k = k + 3 * xs.length ∨ heldC xs k = -1 := by unfold heldC; split <;> simp

end Go.Av
