/- The laws' own helpers: copies, comparisons, sizes. -/
import Derived.Test.YtnfelcpanphhlaaE0
namespace Go.Av
open Go.Proofs
set_option maxRecDepth 100000
set_option linter.unusedVariables false
set_option linter.unusedSimpArgs false

/-- A size that is taken off what is left. -/
def szLen (n : Nat) (left : Int) : Int := if left - n < 0 then -1 else left - n
theorem zele_I : ELe (.int .i64 0) (encI default) := ELe.refl _
theorem zele_Cert : ELe (.agg [.int .i64 0, .int .i64 0, .int .i64 0]) (encCert 1 default) := ELe.refl _
theorem zele_Msg : ELe (.agg [.int .i64 0, .int .i64 0, .int .i64 0, .int .i64 0, .int .i64 0, .nil, .nil]) (encMsg 1 default) :=
  ele_of ⟨PLe.refl _, PLe.refl _, PLe.refl _, PLe.refl _, PLe.refl _, ple_nil _ _, ple_nil _ _, trivial⟩


/-! ### laws.toInt64S -/
def pr54 (xs : List Int) : Prop := xs.length ≤ most
noncomputable def rs54 (xs : List Int) : V := encL encI 2 (xs)
noncomputable def sp54 : FSpec := fun args bin => match args, bin with
  | [a0], [] => some (VLe a0 (encL encI 1 (((decL decI) a0))) ∧ pr54 ((decL decI) a0), rs54 ((decL decI) a0), [])
  | _, _ => none
noncomputable def in54_3 (xs : List Int) : LoopInv :=
  ⟨Nat × List Int, fun p => ⟨[(0, encL encI 1 xs), (3, .osl (canonT 3) xs.length), (4, .int .i64 p.1)], [(canonT 3, .arr 1 xs.length (gL encI p.2) tagS)]⟩,
    fun p => p.1 ≤ xs.length ∧ p.2.length = xs.length ∧ ∀ j, j < p.1 → p.2.getD j default = xs.getD j default, fun p => xs.length - p.1⟩
noncomputable def iv54 (xs : List Int) : Nat → Option LoopInv := fun rg_ => match rg_ with
  | 3 => some (in54_3 xs)
  | _ => none
noncomputable def D54 : Nat → Option (Bool × FSpec) := lk []
theorem da54 : SoundAll Try.prog D54 := soundAll_nil
noncomputable def cx54 (xs : List Int) : Cx := ⟨tt, D54, Try.f54.ntmps, [0, 2, 3, 4, 11], [(3, ⟨[(0, none), (3, some 1), (4, none)], []⟩)], [], iv54 xs, [], noM, []⟩
theorem bd54 (xs : List Int) (hpre : pr54 xs) : bodyP (cx54 xs) Try.f54 1 [encL encI 1 (xs)] (fun rr => VLe rr (rs54 xs)) := by
  have key :
      ((((0 : Int) ≤ (↑(List.length xs) : Int)) ∧
   (((↑(List.length xs) : Int) ≤ (↑(List.length xs) : Int)) ∧
   ((↑(List.length xs) : Int) ≤ (↑1073741824 : Int)))) ∧
   ((∃ x : Nat × List Int, ((SLe
   (AS.mk
   [(0, encL encI 1 xs), (3, V.osl 32000256 (Int.toNat (↑(List.length xs) : Int))),
   (4, V.int IntKind.i64 (0 : Int))]
   [(32000256,
   Blk.arr 1 (Int.toNat (↑(List.length xs) : Int)) (fun (x : Nat) ↦ V.int IntKind.i64 (0 : Int))
   100)])
   (AS.mk
   [(0, encL encI 1 xs), (3, V.osl 32000256 (List.length xs)),
   (4, V.int IntKind.i64 (↑(Prod.fst x) : Int))]
   [(32000256, Blk.arr 1 (List.length xs) (gL encI (Prod.snd x)) 100)])) ∧
   ((Prod.fst x ≤ List.length xs) ∧
   ((List.length (Prod.snd x) = List.length xs) ∧
   (∀ j : Nat,
   ((j < Prod.fst x) →
   (List.getD (Prod.snd x) j default = List.getD xs j default))))))) ∧
   (∀ x : Nat × List Int,
   (((Prod.fst x ≤ List.length xs) ∧
   ((List.length (Prod.snd x) = List.length xs) ∧
   (∀ j : Nat,
   ((j < Prod.fst x) →
   (List.getD (Prod.snd x) j default = List.getD xs j default))))) →
   (((decide ((↑(Prod.fst x) : Int) < (↑(List.length xs) : Int)) = true) →
   ((((0 : Int) ≤ (↑(Prod.fst x) : Int)) ∧
   ((↑(Prod.fst x) : Int) < (↑(List.length xs) : Int))) ∧
   ((((0 : Int) ≤ (↑(Prod.fst x) : Int)) ∧
   ((↑(Prod.fst x) : Int) < (↑(List.length xs) : Int))) ∧
   ((Int.toNat (↑(Prod.fst x) : Int) < List.length xs) ∧
   ((inK IntKind.i64 ((↑(Prod.fst x) : Int) + (1 : Int))) ∧
   (∃ y : Nat × List Int, ((SLe
   (AS.mk
   [(0, encL encI 1 xs), (3, V.osl 32000256 (List.length xs)),
   (4, V.int IntKind.i64 ((↑(Prod.fst x) : Int) + (1 : Int)))]
   [(32000256,
   Blk.arr 1 (List.length xs)
   (setg (gL encI (Prod.snd x)) (Int.toNat (↑(Prod.fst x) : Int))
   (V.int IntKind.i64 (List.getD xs (Int.toNat (↑(Prod.fst x) : Int)) default)))
   100)])
   (AS.mk
   [(0, encL encI 1 xs), (3, V.osl 32000256 (List.length xs)),
   (4, V.int IntKind.i64 (↑(Prod.fst y) : Int))]
   [(32000256, Blk.arr 1 (List.length xs) (gL encI (Prod.snd y)) 100)])) ∧
   (((Prod.fst y ≤ List.length xs) ∧
   ((List.length (Prod.snd y) = List.length xs) ∧
   (∀ j : Nat,
   ((j < Prod.fst y) →
   (List.getD (Prod.snd y) j default = List.getD xs j default))))) ∧
   (List.length xs - Prod.fst y < List.length xs - Prod.fst x))))))))) ∧
   ((decide ((↑(Prod.fst x) : Int) < (↑(List.length xs) : Int)) = false) →
   (VLe (V.sl (List.length xs) (gL encI (Prod.snd x)) 2) (encL encI 2 xs)))))))) := by
    unfold pr54 most at hpre
    refine ⟨⟨by omega, by omega, by omega⟩, ⟨(0, List.replicate xs.length default), ?_, by simp, by simp, fun j hj => absurd hj (Nat.not_lt_zero j)⟩, ?_⟩
    · refine sle_of ⟨rfl, VLe.refl _, rfl, VLe.refl _, rfl, VLe.refl _, trivial⟩ ⟨rfl, ?_, trivial⟩
      refine ble_arr (fun i hi => ?_) (Or.inl rfl)
      have hi' : i < xs.length := hi
      have e1 : gL encI (List.replicate xs.length default) i = encI default := by simp [gL, hi']
      rw [e1]
      exact zele_I
    · rintro ⟨i, ys⟩ ⟨hi, hl, hj⟩
      simp only at hi hl hj ⊢
      refine ⟨fun h => ?_, fun h => ?_⟩
      · have hlt : i < xs.length := by simpa using h
        refine ⟨⟨by omega, by omega⟩, ⟨by omega, by omega⟩, by simpa using hlt, inK64 (by omega), (i + 1, ys.set i (xs.getD i default)), ?_, ⟨by simp only; omega, by simpa using hl, fun j h2 => ?_⟩, by simp only; omega⟩
        · refine sle_of ⟨rfl, VLe.refl _, rfl, VLe.refl _, rfl, vle_int (by simp), trivial⟩ ⟨rfl, ?_, trivial⟩
          refine ble_arr (fun k hk => ?_) (Or.inl rfl)
          simp only [setg, gL, Int.toNat_natCast]
          by_cases e : k = i
          · subst e
            rw [if_pos rfl, getD_set_eq _ _ _ _ (by omega)]
            exact ELe.refl _
          · rw [if_neg e, getD_set_ne _ _ _ _ e]
            exact ELe.refl _
        · simp only at h2 ⊢
          by_cases e : j = i
          · subst e; rw [getD_set_eq _ _ _ _ (by omega)]
          · rw [getD_set_ne _ _ _ _ e]; exact hj j (by omega)
      · have hge : i = xs.length := by simp at h; omega
        refine vle_sl (fun k hk => ?_) (Or.inl rfl)
        simp only [gL]
        rw [hj k (by omega)]
        exact ELe.refl _
  exact Eq.mp (by kernel_rfl) key
theorem so54 : Sound Try.prog 54 sp54 := by
  refine sound_of_body hmix (pol := 1) Try.func54 rfl (by kernel_rfl) fun args bin ob r bout hDe hob => ?_
  unfold sp54 at hDe
  split at hDe
  · rename_i a0
    cases hDe
    exact ⟨rfl, rfl, Nat.le_of_ble_eq_true (by kernel_rfl), cx54 ((decL decI) a0), Eq.mp (by kernel_rfl) htt, Eq.mp (by kernel_rfl) da54, Eq.mp (by kernel_rfl) (noM_sound (P := Try.prog)), by kernel_rfl, [encL encI 1 (((decL decI) a0))], args_of_vles (⟨hob.1, trivial⟩), Eq.mp (by kernel_rfl) (bd54 ((decL decI) a0) (hob.2))⟩
  · cases hDe

/-! ### laws.eqInt64S -/
def pr55 (xs : List Int) (ys : List Int) : Prop := xs.length ≤ maxLen
noncomputable def rs55 (xs : List Int) (ys : List Int) : V := .bool (decide (xs = ys))
noncomputable def sp55 : FSpec := fun args bin => match args, bin with
  | [a0, a1], [] => some (VLe a0 (encL encI 1 (((decL decI) a0))) ∧ VLe a1 (encL encI 1 (((decL decI) a1))) ∧ pr55 ((decL decI) a0) ((decL decI) a1), rs55 ((decL decI) a0) ((decL decI) a1), [])
  | _, _ => none
noncomputable def in55_4 (xs : List Int) (ys : List Int) : LoopInv :=
  ⟨Nat, fun i => ⟨[(0, encL encI 1 xs), (1, encL encI 1 ys), (5, .int .i64 i)], []⟩,
    fun i => i ≤ xs.length ∧ xs.length = ys.length ∧ ∀ j, j < i → xs.getD j default = ys.getD j default, fun i => xs.length - i⟩
noncomputable def iv55 (xs : List Int) (ys : List Int) : Nat → Option LoopInv := fun rg_ => match rg_ with
  | 4 => some (in55_4 xs ys)
  | _ => none
noncomputable def D55 : Nat → Option (Bool × FSpec) := lk []
theorem da55 : SoundAll Try.prog D55 := soundAll_nil
noncomputable def cx55 (xs : List Int) (ys : List Int) : Cx := ⟨tt, D55, Try.f55.ntmps, [0, 1, 4, 5, 10, 14, 25], [(4, ⟨[(0, none), (1, none), (5, none)], []⟩)], [], iv55 xs ys, [], noM, []⟩
theorem bd55 (xs : List Int) (ys : List Int) (hpre : pr55 xs ys) : bodyP (cx55 xs ys) Try.f55 0 [encL encI 1 (xs), encL encI 1 (ys)] (fun rr => VLe rr (rs55 xs ys)) := by
  have key :
      (((((↑(List.length xs) : Int) != (↑(List.length ys) : Int)) = true) →
   (VLe (V.bool false) (V.bool (decide (xs = ys))))) ∧
   ((((↑(List.length xs) : Int) != (↑(List.length ys) : Int)) = false) →
   ((∃ x : Nat, ((SLe
   (AS.mk
   [(0, encL encI 1 xs), (1, encL encI 1 ys), (5, V.int IntKind.i64 (0 : Int))]
   [])
   (AS.mk
   [(0, encL encI 1 xs), (1, encL encI 1 ys),
   (5, V.int IntKind.i64 (↑x : Int))]
   [])) ∧
   ((x ≤ List.length xs) ∧
   ((List.length xs = List.length ys) ∧
   (∀ j : Nat,
   ((j < x) →
   (List.getD xs j default = List.getD ys j default))))))) ∧
   (∀ x : Nat,
   (((x ≤ List.length xs) ∧
   ((List.length xs = List.length ys) ∧
   (∀ j : Nat,
   ((j < x) →
   (List.getD xs j default = List.getD ys j default))))) →
   (((decide ((↑x : Int) < (↑(List.length xs) : Int)) = true) →
   ((((0 : Int) ≤ (↑x : Int)) ∧
   ((↑x : Int) < (↑(List.length xs) : Int))) ∧
   ((((0 : Int) ≤ (↑x : Int)) ∧
   ((↑x : Int) < (↑(List.length ys) : Int))) ∧
   ((((List.getD xs (Int.toNat (↑x : Int)) default != List.getD ys (Int.toNat (↑x : Int)) default) = true) →
   (VLe (V.bool false) (V.bool (decide (xs = ys))))) ∧
   (((List.getD xs (Int.toNat (↑x : Int)) default != List.getD ys (Int.toNat (↑x : Int)) default) = false) →
   ((inK IntKind.i64 ((↑x : Int) + (1 : Int))) ∧
   (∃ y : Nat, ((SLe
   (AS.mk
   [(0, encL encI 1 xs), (1, encL encI 1 ys),
   (5, V.int IntKind.i64 ((↑x : Int) + (1 : Int)))]
   [])
   (AS.mk
   [(0, encL encI 1 xs), (1, encL encI 1 ys),
   (5, V.int IntKind.i64 (↑y : Int))]
   [])) ∧
   (((y ≤ List.length xs) ∧
   ((List.length xs = List.length ys) ∧
   (∀ j : Nat,
   ((j < y) →
   (List.getD xs j default = List.getD ys j default))))) ∧
   (List.length xs - y < List.length xs - x)))))))))) ∧
   ((decide ((↑x : Int) < (↑(List.length xs) : Int)) = false) →
   (VLe (V.bool true) (V.bool (decide (xs = ys))))))))))) := by
    unfold pr55 maxLen at hpre
    refine ⟨fun h => ?_, fun h => ?_⟩
    · refine vle_bool ?_
      have hne : xs ≠ ys := fun e => by subst e; simp at h
      simp [hne]
    · have hlen : xs.length = ys.length := by simp at h; omega
      refine ⟨⟨0, SLe.refl _, by omega, hlen, fun j hj => absurd hj (Nat.not_lt_zero j)⟩, ?_⟩
      rintro i ⟨hi, _, hj⟩
      refine ⟨fun h => ?_, fun h => ?_⟩
      · have hlt : i < xs.length := by simpa using h
        simp only [Int.toNat_natCast]
        refine ⟨⟨by omega, by omega⟩, ⟨by omega, by omega⟩, fun h2 => ?_, fun h2 => ⟨inK64 (by omega), i + 1, SLe.refl _, ⟨by omega, hlen, fun j h3 => ?_⟩, by omega⟩⟩
        · refine vle_bool ?_
          have hne : xs ≠ ys := fun e => by subst e; simp at h2
          simp [hne]
        · rcases Nat.lt_or_ge j i with h4 | h4
          · exact hj j h4
          · have : j = i := by omega
            subst this
            simpa using h2
      · refine vle_bool ?_
        have hge : i = xs.length := by simp at h; omega
        have heq : xs = ys := by
          refine List.ext_getElem hlen fun k h1 h2 => ?_
          have := hj k (by omega)
          simpa [h1, h2] using this
        simp [heq]
  exact Eq.mp (by kernel_rfl) key
theorem so55 : Sound Try.prog 55 sp55 := by
  refine sound_of_body hmix (pol := 0) Try.func55 rfl (by kernel_rfl) fun args bin ob r bout hDe hob => ?_
  unfold sp55 at hDe
  split at hDe
  · rename_i a0 a1
    cases hDe
    exact ⟨rfl, rfl, Nat.le_of_ble_eq_true (by kernel_rfl), cx55 ((decL decI) a0) ((decL decI) a1), Eq.mp (by kernel_rfl) htt, Eq.mp (by kernel_rfl) da55, Eq.mp (by kernel_rfl) (noM_sound (P := Try.prog)), by kernel_rfl, [encL encI 1 (((decL decI) a0)), encL encI 1 (((decL decI) a1))], args_of_vles (⟨hob.1, hob.2.1, trivial⟩), Eq.mp (by kernel_rfl) (bd55 ((decL decI) a0) ((decL decI) a1) (hob.2.2))⟩
  · cases hDe

/-! ### laws.toCert -/
def pr58 (x : Cert) : Prop := True
noncomputable def rs58 (x : Cert) : V := encCert 2 (x)
noncomputable def sp58 : FSpec := fun args bin => match args, bin with
  | [a0], [] => some (VLe a0 (encCert 1 ((decCert a0))) ∧ pr58 (decCert a0), rs58 (decCert a0), [])
  | _, _ => none
noncomputable def D58 : Nat → Option (Bool × FSpec) := lk []
theorem da58 : SoundAll Try.prog D58 := soundAll_nil
noncomputable def cx58 (x : Cert) : Cx := ⟨tt, D58, Try.f58.ntmps, [0, 1, 2, 3], [], [], fun _ => none, [], noM, []⟩
theorem bd58 (x : Cert) (hpre : pr58 x) : bodyP (cx58 x) Try.f58 1 [encCert 1 (x)] (fun rr => VLe rr (rs58 x)) := by
  have key :
      (VLe (encCert 1 x) (encCert 1 x)) := by
    exact vle_agg ⟨VLe.refl _, VLe.refl _, VLe.refl _, trivial⟩
  exact Eq.mp (by kernel_rfl) key
theorem so58 : Sound Try.prog 58 sp58 := by
  refine sound_of_body hmix (pol := 1) Try.func58 rfl (by kernel_rfl) fun args bin ob r bout hDe hob => ?_
  unfold sp58 at hDe
  split at hDe
  · rename_i a0
    cases hDe
    exact ⟨rfl, rfl, Nat.le_of_ble_eq_true (by kernel_rfl), cx58 (decCert a0), Eq.mp (by kernel_rfl) htt, Eq.mp (by kernel_rfl) da58, Eq.mp (by kernel_rfl) (noM_sound (P := Try.prog)), by kernel_rfl, [encCert 1 ((decCert a0))], args_of_vles (⟨hob.1, trivial⟩), Eq.mp (by kernel_rfl) (bd58 (decCert a0) (hob.2))⟩
  · cases hDe

/-! ### laws.toCertS -/
def pr89 (xs : List Cert) : Prop := xs.length ≤ most ∧ ∀ x ∈ xs, pr58 x
noncomputable def rs89 (xs : List Cert) : V := encL (encCert 1) 2 (xs)
noncomputable def sp89 : FSpec := fun args bin => match args, bin with
  | [a0], [] => some (VLe a0 (encL (encCert 1) 1 (((decL decCert) a0))) ∧ pr89 ((decL decCert) a0), rs89 ((decL decCert) a0), [])
  | _, _ => none
noncomputable def in89_3 (xs : List Cert) : LoopInv :=
  ⟨Nat × List Cert, fun p => ⟨[(0, encL (encCert 1) 1 xs), (3, .osl (canonT 3) xs.length), (4, .int .i64 p.1)], [(canonT 3, .arr 3 xs.length (gL (encCert 1) p.2) tagS)]⟩,
    fun p => p.1 ≤ xs.length ∧ p.2.length = xs.length ∧ ∀ j, j < p.1 → p.2.getD j default = xs.getD j default, fun p => xs.length - p.1⟩
noncomputable def iv89 (xs : List Cert) : Nat → Option LoopInv := fun rg_ => match rg_ with
  | 3 => some (in89_3 xs)
  | _ => none
noncomputable def D89 : Nat → Option (Bool × FSpec) := lk [(58, (false, sp58))]
theorem da89 : SoundAll Try.prog D89 := soundAll_cons so58 (soundAll_nil)
noncomputable def cx89 (xs : List Cert) : Cx := ⟨tt, D89, Try.f89.ntmps, [0, 2, 3, 4, 11], [(3, ⟨[(0, none), (3, some 3), (4, none)], []⟩)], [], iv89 xs, [], noM, []⟩
theorem bd89 (xs : List Cert) (hpre : pr89 xs) : bodyP (cx89 xs) Try.f89 1 [encL (encCert 1) 1 (xs)] (fun rr => VLe rr (rs89 xs)) := by
  have key :
      ((((0 : Int) ≤ (↑(List.length xs) : Int)) ∧
   (((↑(List.length xs) : Int) ≤ (↑(List.length xs) : Int)) ∧
   ((↑(List.length xs) : Int) ≤ (↑1073741824 : Int)))) ∧
   ((∃ x : Nat × List Cert, ((SLe
   (AS.mk
   [(0, encL (encCert 1) 1 xs),
   (3, V.osl 32000256 (Int.toNat (↑(List.length xs) : Int))),
   (4, V.int IntKind.i64 (0 : Int))]
   [(32000256,
   Blk.arr 3 (Int.toNat (↑(List.length xs) : Int))
   (fun (x : Nat) ↦
   V.agg [V.int IntKind.i64 (0 : Int), V.int IntKind.i64 (0 : Int), V.int IntKind.i64 (0 : Int)])
   100)])
   (AS.mk
   [(0, encL (encCert 1) 1 xs), (3, V.osl 32000256 (List.length xs)),
   (4, V.int IntKind.i64 (↑(Prod.fst x) : Int))]
   [(32000256, Blk.arr 3 (List.length xs) (gL (encCert 1) (Prod.snd x)) 100)])) ∧
   ((Prod.fst x ≤ List.length xs) ∧
   ((List.length (Prod.snd x) = List.length xs) ∧
   (∀ j : Nat,
   ((j < Prod.fst x) →
   (List.getD (Prod.snd x) j default = List.getD xs j default))))))) ∧
   (∀ x : Nat × List Cert,
   (((Prod.fst x ≤ List.length xs) ∧
   ((List.length (Prod.snd x) = List.length xs) ∧
   (∀ j : Nat,
   ((j < Prod.fst x) →
   (List.getD (Prod.snd x) j default = List.getD xs j default))))) →
   (((decide ((↑(Prod.fst x) : Int) < (↑(List.length xs) : Int)) = true) →
   ((((0 : Int) ≤ (↑(Prod.fst x) : Int)) ∧
   ((↑(Prod.fst x) : Int) < (↑(List.length xs) : Int))) ∧
   (((VLe (encCert 1 (List.getD xs (Int.toNat (↑(Prod.fst x) : Int)) default))
   (encCert 1 (decCert (encCert 1 (List.getD xs (Int.toNat (↑(Prod.fst x) : Int)) default))))) ∧
   (pr58 (decCert (encCert 1 (List.getD xs (Int.toNat (↑(Prod.fst x) : Int)) default))))) ∧
   ((((0 : Int) ≤ (↑(Prod.fst x) : Int)) ∧
   ((↑(Prod.fst x) : Int) < (↑(List.length xs) : Int))) ∧
   ((Int.toNat (↑(Prod.fst x) : Int) < List.length xs) ∧
   ((inK IntKind.i64 ((↑(Prod.fst x) : Int) + (1 : Int))) ∧
   (∃ y : Nat × List Cert, ((SLe
   (AS.mk
   [(0, encL (encCert 1) 1 xs), (3, V.osl 32000256 (List.length xs)),
   (4, V.int IntKind.i64 ((↑(Prod.fst x) : Int) + (1 : Int)))]
   [(32000256,
   Blk.arr 3 (List.length xs)
   (setg (gL (encCert 1) (Prod.snd x)) (Int.toNat (↑(Prod.fst x) : Int))
   (encCert 1 (decCert (encCert 1 (List.getD xs (Int.toNat (↑(Prod.fst x) : Int)) default)))))
   100)])
   (AS.mk
   [(0, encL (encCert 1) 1 xs), (3, V.osl 32000256 (List.length xs)),
   (4, V.int IntKind.i64 (↑(Prod.fst y) : Int))]
   [(32000256, Blk.arr 3 (List.length xs) (gL (encCert 1) (Prod.snd y)) 100)])) ∧
   (((Prod.fst y ≤ List.length xs) ∧
   ((List.length (Prod.snd y) = List.length xs) ∧
   (∀ j : Nat,
   ((j < Prod.fst y) →
   (List.getD (Prod.snd y) j default = List.getD xs j default))))) ∧
   (List.length xs - Prod.fst y < List.length xs - Prod.fst x)))))))))) ∧
   ((decide ((↑(Prod.fst x) : Int) < (↑(List.length xs) : Int)) = false) →
   (VLe (V.sl (List.length xs) (gL (encCert 1) (Prod.snd x)) 2) (encL (encCert 1) 2 xs)))))))) := by
    unfold pr89 most at hpre
    obtain ⟨hpre, hel⟩ := hpre
    refine ⟨⟨by omega, by omega, by omega⟩, ⟨(0, List.replicate xs.length default), ?_, by simp, by simp, fun j hj => absurd hj (Nat.not_lt_zero j)⟩, ?_⟩
    · refine sle_of ⟨rfl, VLe.refl _, rfl, VLe.refl _, rfl, VLe.refl _, trivial⟩ ⟨rfl, ?_, trivial⟩
      refine ble_arr (fun i hi => ?_) (Or.inl rfl)
      have hi' : i < xs.length := hi
      have e1 : gL (encCert 1) (List.replicate xs.length default) i = (encCert 1) default := by simp [gL, hi']
      rw [e1]
      exact zele_Cert
    · rintro ⟨i, ys⟩ ⟨hi, hl, hj⟩
      simp only at hi hl hj ⊢
      refine ⟨fun h => ?_, fun h => ?_⟩
      · have hlt : i < xs.length := by simpa using h
        have hin : xs.getD i default ∈ xs := by simp [hlt]
        simp only [dec_encCert, Int.toNat_natCast]
        refine ⟨⟨by omega, by omega⟩, ⟨VLe.refl _, hel _ hin⟩, ⟨by omega, by omega⟩, by simpa using hlt, inK64 (by omega), (i + 1, ys.set i (xs.getD i default)), ?_, ⟨by simp only; omega, by simpa using hl, fun j h2 => ?_⟩, by simp only; omega⟩
        · refine sle_of ⟨rfl, VLe.refl _, rfl, VLe.refl _, rfl, vle_int (by simp), trivial⟩ ⟨rfl, ?_, trivial⟩
          refine ble_arr (fun k hk => ?_) (Or.inl rfl)
          simp only [setg, gL, Int.toNat_natCast]
          by_cases e : k = i
          · subst e
            rw [if_pos rfl, getD_set_eq _ _ _ _ (by omega)]
            exact ele_Cert _ _ _
          · rw [if_neg e, getD_set_ne _ _ _ _ e]
            exact ELe.refl _
        · simp only at h2 ⊢
          by_cases e : j = i
          · subst e; rw [getD_set_eq _ _ _ _ (by omega)]
          · rw [getD_set_ne _ _ _ _ e]; exact hj j (by omega)
      · have hge : i = xs.length := by simp at h; omega
        refine vle_sl (fun k hk => ?_) (Or.inl rfl)
        simp only [gL]
        rw [hj k (by omega)]
        exact ELe.refl _
  exact Eq.mp (by kernel_rfl) key
theorem so89 : Sound Try.prog 89 sp89 := by
  refine sound_of_body hmix (pol := 1) Try.func89 rfl (by kernel_rfl) fun args bin ob r bout hDe hob => ?_
  unfold sp89 at hDe
  split at hDe
  · rename_i a0
    cases hDe
    exact ⟨rfl, rfl, Nat.le_of_ble_eq_true (by kernel_rfl), cx89 ((decL decCert) a0), Eq.mp (by kernel_rfl) htt, Eq.mp (by kernel_rfl) da89, Eq.mp (by kernel_rfl) (noM_sound (P := Try.prog)), by kernel_rfl, [encL (encCert 1) 1 (((decL decCert) a0))], args_of_vles (⟨hob.1, trivial⟩), Eq.mp (by kernel_rfl) (bd89 ((decL decCert) a0) (hob.2))⟩
  · cases hDe

/-! ### laws.eqCert -/
def pr139 (x : Cert) (y : Cert) : Prop := True
noncomputable def rs139 (x : Cert) (y : Cert) : V := .bool (decide (x = y))
noncomputable def sp139 : FSpec := fun args bin => match args, bin with
  | [a0, a1], [] => some (VLe a0 (encCert 1 ((decCert a0))) ∧ VLe a1 (encCert 1 ((decCert a1))) ∧ pr139 (decCert a0) (decCert a1), rs139 (decCert a0) (decCert a1), [])
  | _, _ => none
noncomputable def D139 : Nat → Option (Bool × FSpec) := lk []
theorem da139 : SoundAll Try.prog D139 := soundAll_nil
noncomputable def cx139 (x : Cert) (y : Cert) : Cx := ⟨tt, D139, Try.f139.ntmps, [0, 1, 2, 3, 4, 9, 14, 19], [], [], fun _ => none, [], noM, []⟩
theorem bd139 (x : Cert) (y : Cert) (hpre : pr139 x y) : bodyP (cx139 x y) Try.f139 0 [encCert 1 (x), encCert 1 (y)] (fun rr => VLe rr (rs139 x y)) := by
  have key :
      ((((Cert.slot x != Cert.slot y) = true) →
   (VLe (V.bool false) (V.bool (decide (x = y))))) ∧
   (((Cert.slot x != Cert.slot y) = false) →
   ((((Cert.view x != Cert.view y) = true) →
   (VLe (V.bool false) (V.bool (decide (x = y))))) ∧
   (((Cert.view x != Cert.view y) = false) →
   ((((Cert.value x != Cert.value y) = true) →
   (VLe (V.bool false) (V.bool (decide (x = y))))) ∧
   (((Cert.value x != Cert.value y) = false) →
   (VLe (V.bool true) (V.bool (decide (x = y)))))))))) := by
    simp [eq_Cert]
    grind
  exact Eq.mp (by kernel_rfl) key
theorem so139 : Sound Try.prog 139 sp139 := by
  refine sound_of_body hmix (pol := 0) Try.func139 rfl (by kernel_rfl) fun args bin ob r bout hDe hob => ?_
  unfold sp139 at hDe
  split at hDe
  · rename_i a0 a1
    cases hDe
    exact ⟨rfl, rfl, Nat.le_of_ble_eq_true (by kernel_rfl), cx139 (decCert a0) (decCert a1), Eq.mp (by kernel_rfl) htt, Eq.mp (by kernel_rfl) da139, Eq.mp (by kernel_rfl) (noM_sound (P := Try.prog)), by kernel_rfl, [encCert 1 ((decCert a0)), encCert 1 ((decCert a1))], args_of_vles (⟨hob.1, hob.2.1, trivial⟩), Eq.mp (by kernel_rfl) (bd139 (decCert a0) (decCert a1) (hob.2.2))⟩
  · cases hDe

/-! ### laws.eqCertS -/
def pr92 (xs : List Cert) (ys : List Cert) : Prop := xs.length ≤ maxLen ∧ ∀ x ∈ xs, ∀ y, pr139 x y
noncomputable def rs92 (xs : List Cert) (ys : List Cert) : V := .bool (decide (xs = ys))
noncomputable def sp92 : FSpec := fun args bin => match args, bin with
  | [a0, a1], [] => some (VLe a0 (encL (encCert 1) 1 (((decL decCert) a0))) ∧ VLe a1 (encL (encCert 1) 1 (((decL decCert) a1))) ∧ pr92 ((decL decCert) a0) ((decL decCert) a1), rs92 ((decL decCert) a0) ((decL decCert) a1), [])
  | _, _ => none
noncomputable def in92_4 (xs : List Cert) (ys : List Cert) : LoopInv :=
  ⟨Nat, fun i => ⟨[(0, encL (encCert 1) 1 xs), (1, encL (encCert 1) 1 ys), (5, .int .i64 i)], []⟩,
    fun i => i ≤ xs.length ∧ xs.length = ys.length ∧ ∀ j, j < i → xs.getD j default = ys.getD j default, fun i => xs.length - i⟩
noncomputable def iv92 (xs : List Cert) (ys : List Cert) : Nat → Option LoopInv := fun rg_ => match rg_ with
  | 4 => some (in92_4 xs ys)
  | _ => none
noncomputable def D92 : Nat → Option (Bool × FSpec) := lk [(139, (false, sp139))]
theorem da92 : SoundAll Try.prog D92 := soundAll_cons so139 (soundAll_nil)
noncomputable def cx92 (xs : List Cert) (ys : List Cert) : Cx := ⟨tt, D92, Try.f92.ntmps, [0, 1, 4, 5, 10, 14, 26], [(4, ⟨[(0, none), (1, none), (5, none)], []⟩)], [], iv92 xs ys, [], noM, []⟩
theorem bd92 (xs : List Cert) (ys : List Cert) (hpre : pr92 xs ys) : bodyP (cx92 xs ys) Try.f92 0 [encL (encCert 1) 1 (xs), encL (encCert 1) 1 (ys)] (fun rr => VLe rr (rs92 xs ys)) := by
  have key :
      (((((↑(List.length xs) : Int) != (↑(List.length ys) : Int)) = true) →
   (VLe (V.bool false) (V.bool (decide (xs = ys))))) ∧
   ((((↑(List.length xs) : Int) != (↑(List.length ys) : Int)) = false) →
   ((∃ x : Nat, ((SLe
   (AS.mk
   [(0, encL (encCert 1) 1 xs), (1, encL (encCert 1) 1 ys),
   (5, V.int IntKind.i64 (0 : Int))]
   [])
   (AS.mk
   [(0, encL (encCert 1) 1 xs), (1, encL (encCert 1) 1 ys),
   (5, V.int IntKind.i64 (↑x : Int))]
   [])) ∧
   ((x ≤ List.length xs) ∧
   ((List.length xs = List.length ys) ∧
   (∀ j : Nat,
   ((j < x) →
   (List.getD xs j default = List.getD ys j default))))))) ∧
   (∀ x : Nat,
   (((x ≤ List.length xs) ∧
   ((List.length xs = List.length ys) ∧
   (∀ j : Nat,
   ((j < x) →
   (List.getD xs j default = List.getD ys j default))))) →
   (((decide ((↑x : Int) < (↑(List.length xs) : Int)) = true) →
   ((((0 : Int) ≤ (↑x : Int)) ∧
   ((↑x : Int) < (↑(List.length xs) : Int))) ∧
   ((((0 : Int) ≤ (↑x : Int)) ∧
   ((↑x : Int) < (↑(List.length ys) : Int))) ∧
   (((VLe (encCert 1 (List.getD xs (Int.toNat (↑x : Int)) default))
   (encCert 1 (decCert (encCert 1 (List.getD xs (Int.toNat (↑x : Int)) default))))) ∧
   ((VLe (encCert 1 (List.getD ys (Int.toNat (↑x : Int)) default))
   (encCert 1 (decCert (encCert 1 (List.getD ys (Int.toNat (↑x : Int)) default))))) ∧
   (pr139 (decCert (encCert 1 (List.getD xs (Int.toNat (↑x : Int)) default)))
   (decCert (encCert 1 (List.getD ys (Int.toNat (↑x : Int)) default)))))) ∧
   ((((!decide
   (decCert (encCert 1 (List.getD xs (Int.toNat (↑x : Int)) default)) =
   decCert (encCert 1 (List.getD ys (Int.toNat (↑x : Int)) default)))) =
   true) →
   (VLe (V.bool false) (V.bool (decide (xs = ys))))) ∧
   (((!decide
   (decCert (encCert 1 (List.getD xs (Int.toNat (↑x : Int)) default)) =
   decCert (encCert 1 (List.getD ys (Int.toNat (↑x : Int)) default)))) =
   false) →
   ((inK IntKind.i64 ((↑x : Int) + (1 : Int))) ∧
   (∃ y : Nat, ((SLe
   (AS.mk
   [(0, encL (encCert 1) 1 xs), (1, encL (encCert 1) 1 ys),
   (5, V.int IntKind.i64 ((↑x : Int) + (1 : Int)))]
   [])
   (AS.mk
   [(0, encL (encCert 1) 1 xs), (1, encL (encCert 1) 1 ys),
   (5, V.int IntKind.i64 (↑y : Int))]
   [])) ∧
   (((y ≤ List.length xs) ∧
   ((List.length xs = List.length ys) ∧
   (∀ j : Nat,
   ((j < y) →
   (List.getD xs j default = List.getD ys j default))))) ∧
   (List.length xs - y < List.length xs - x))))))))))) ∧
   ((decide ((↑x : Int) < (↑(List.length xs) : Int)) = false) →
   (VLe (V.bool true) (V.bool (decide (xs = ys))))))))))) := by
    unfold pr92 maxLen at hpre
    obtain ⟨hpre, hel⟩ := hpre
    refine ⟨fun h => ?_, fun h => ?_⟩
    · refine vle_bool ?_
      have hne : xs ≠ ys := fun e => by subst e; simp at h
      simp [hne]
    · have hlen : xs.length = ys.length := by simp at h; omega
      refine ⟨⟨0, SLe.refl _, by omega, hlen, fun j hj => absurd hj (Nat.not_lt_zero j)⟩, ?_⟩
      rintro i ⟨hi, _, hj⟩
      refine ⟨fun h => ?_, fun h => ?_⟩
      · have hlt : i < xs.length := by simpa using h
        have hin : xs.getD i default ∈ xs := by simp [hlt]
        simp only [dec_encCert, Int.toNat_natCast]
        refine ⟨⟨by omega, by omega⟩, ⟨by omega, by omega⟩, ⟨VLe.refl _, VLe.refl _, hel _ hin _⟩, fun h2 => ?_, fun h2 => ⟨inK64 (by omega), i + 1, SLe.refl _, ⟨by omega, hlen, fun j h3 => ?_⟩, by omega⟩⟩
        · refine vle_bool ?_
          have hne : xs ≠ ys := fun e => by subst e; simp at h2
          simp [hne]
        · rcases Nat.lt_or_ge j i with h4 | h4
          · exact hj j h4
          · have : j = i := by omega
            subst this
            simpa using h2
      · refine vle_bool ?_
        have hge : i = xs.length := by simp at h; omega
        have heq : xs = ys := by
          refine List.ext_getElem hlen fun k h1 h2 => ?_
          have := hj k (by omega)
          simpa [h1, h2] using this
        simp [heq]
  exact Eq.mp (by kernel_rfl) key
theorem so92 : Sound Try.prog 92 sp92 := by
  refine sound_of_body hmix (pol := 0) Try.func92 rfl (by kernel_rfl) fun args bin ob r bout hDe hob => ?_
  unfold sp92 at hDe
  split at hDe
  · rename_i a0 a1
    cases hDe
    exact ⟨rfl, rfl, Nat.le_of_ble_eq_true (by kernel_rfl), cx92 ((decL decCert) a0) ((decL decCert) a1), Eq.mp (by kernel_rfl) htt, Eq.mp (by kernel_rfl) da92, Eq.mp (by kernel_rfl) (noM_sound (P := Try.prog)), by kernel_rfl, [encL (encCert 1) 1 (((decL decCert) a0)), encL (encCert 1) 1 (((decL decCert) a1))], args_of_vles (⟨hob.1, hob.2.1, trivial⟩), Eq.mp (by kernel_rfl) (bd92 ((decL decCert) a0) ((decL decCert) a1) (hob.2.2))⟩
  · cases hDe

/-! ### laws.szCertS -/
def pr86 (xs : List Cert) (left : Int) : Prop := 0 ≤ left ∧ left ≤ most ∧ xs.length ≤ maxLen
noncomputable def rs86 (xs : List Cert) (left : Int) : V := .int .i64 (szLen xs.length left)
noncomputable def sp86 : FSpec := fun args bin => match args, bin with
  | [a0, .int .i64 a1], [] => some (VLe a0 (encL (encCert 1) 1 (((decL decCert) a0))) ∧ pr86 ((decL decCert) a0) a1, rs86 ((decL decCert) a0) a1, [])
  | _, _ => none
noncomputable def D86 : Nat → Option (Bool × FSpec) := lk []
theorem da86 : SoundAll Try.prog D86 := soundAll_nil
noncomputable def cx86 (xs : List Cert) (left : Int) : Cx := ⟨tt, D86, Try.f86.ntmps, [0, 1, 4, 10], [], [], fun _ => none, [], noM, []⟩
theorem bd86 (xs : List Cert) (left : Int) (hpre : pr86 xs left) : bodyP (cx86 xs left) Try.f86 0 [encL (encCert 1) 1 (xs), .int .i64 (left)] (fun rr => VLe rr (rs86 xs left)) := by
  have key :
      ((inK IntKind.i64 (left - (↑(List.length xs) : Int))) ∧
   (((decide (left - (↑(List.length xs) : Int) < (0 : Int)) = true) →
   (VLe (V.int IntKind.i64 (-1 : Int)) (V.int IntKind.i64 (szLen (List.length xs) left)))) ∧
   ((decide (left - (↑(List.length xs) : Int) < (0 : Int)) = false) →
   (VLe (V.int IntKind.i64 (left - (↑(List.length xs) : Int))) (V.int IntKind.i64 (szLen (List.length xs) left)))))) := by
    unfold pr86 most maxLen at hpre
    simp [szLen]
    exact ⟨inK64 (by omega), by grind⟩
  exact Eq.mp (by kernel_rfl) key
theorem so86 : Sound Try.prog 86 sp86 := by
  refine sound_of_body hmix (pol := 0) Try.func86 rfl (by kernel_rfl) fun args bin ob r bout hDe hob => ?_
  unfold sp86 at hDe
  split at hDe
  · rename_i a0 a1
    cases hDe
    exact ⟨rfl, rfl, Nat.le_of_ble_eq_true (by kernel_rfl), cx86 ((decL decCert) a0) a1, Eq.mp (by kernel_rfl) htt, Eq.mp (by kernel_rfl) da86, Eq.mp (by kernel_rfl) (noM_sound (P := Try.prog)), by kernel_rfl, [encL (encCert 1) 1 (((decL decCert) a0)), .int .i64 (a1)], args_of_vles (⟨hob.1, VLe.refl _, trivial⟩), Eq.mp (by kernel_rfl) (bd86 ((decL decCert) a0) a1 (hob.2))⟩
  · cases hDe

/-! ### laws.szInt64S -/
def pr87 (xs : List Int) (left : Int) : Prop := 0 ≤ left ∧ left ≤ most ∧ xs.length ≤ maxLen
noncomputable def rs87 (xs : List Int) (left : Int) : V := .int .i64 (szLen xs.length left)
noncomputable def sp87 : FSpec := fun args bin => match args, bin with
  | [a0, .int .i64 a1], [] => some (VLe a0 (encL encI 1 (((decL decI) a0))) ∧ pr87 ((decL decI) a0) a1, rs87 ((decL decI) a0) a1, [])
  | _, _ => none
noncomputable def D87 : Nat → Option (Bool × FSpec) := lk []
theorem da87 : SoundAll Try.prog D87 := soundAll_nil
noncomputable def cx87 (xs : List Int) (left : Int) : Cx := ⟨tt, D87, Try.f87.ntmps, [0, 1, 4, 10], [], [], fun _ => none, [], noM, []⟩
theorem bd87 (xs : List Int) (left : Int) (hpre : pr87 xs left) : bodyP (cx87 xs left) Try.f87 0 [encL encI 1 (xs), .int .i64 (left)] (fun rr => VLe rr (rs87 xs left)) := by
  have key :
      ((inK IntKind.i64 (left - (↑(List.length xs) : Int))) ∧
   (((decide (left - (↑(List.length xs) : Int) < (0 : Int)) = true) →
   (VLe (V.int IntKind.i64 (-1 : Int)) (V.int IntKind.i64 (szLen (List.length xs) left)))) ∧
   ((decide (left - (↑(List.length xs) : Int) < (0 : Int)) = false) →
   (VLe (V.int IntKind.i64 (left - (↑(List.length xs) : Int))) (V.int IntKind.i64 (szLen (List.length xs) left)))))) := by
    unfold pr87 most maxLen at hpre
    simp [szLen]
    exact ⟨inK64 (by omega), by grind⟩
  exact Eq.mp (by kernel_rfl) key
theorem so87 : Sound Try.prog 87 sp87 := by
  refine sound_of_body hmix (pol := 0) Try.func87 rfl (by kernel_rfl) fun args bin ob r bout hDe hob => ?_
  unfold sp87 at hDe
  split at hDe
  · rename_i a0 a1
    cases hDe
    exact ⟨rfl, rfl, Nat.le_of_ble_eq_true (by kernel_rfl), cx87 ((decL decI) a0) a1, Eq.mp (by kernel_rfl) htt, Eq.mp (by kernel_rfl) da87, Eq.mp (by kernel_rfl) (noM_sound (P := Try.prog)), by kernel_rfl, [encL encI 1 (((decL decI) a0)), .int .i64 (a1)], args_of_vles (⟨hob.1, VLe.refl _, trivial⟩), Eq.mp (by kernel_rfl) (bd87 ((decL decI) a0) a1 (hob.2))⟩
  · cases hDe

def szMsgF (m : Msg) (left : Int) : Int := if szLen m.certs.length left < 0 then -1 else if szLen m.refs.length (szLen m.certs.length left) < 0 then -1 else szLen m.refs.length (szLen m.certs.length left)
theorem szLen_le {n : Nat} {left : Int} : szLen n left ≤ left ∨ left < 0 := by unfold szLen; split <;> omega

/-! ### laws.szMsg -/
def pr27 (m : Msg) (left : Int) : Prop := 0 ≤ left ∧ left ≤ most ∧ m.bd
noncomputable def rs27 (m : Msg) (left : Int) : V := .int .i64 (szMsgF m left)
noncomputable def sp27 : FSpec := fun args bin => match args, bin with
  | [a0, .int .i64 a1], [] => some (VLe a0 (encMsg 1 ((decMsg a0))) ∧ pr27 (decMsg a0) a1, rs27 (decMsg a0) a1, [])
  | _, _ => none
noncomputable def D27 : Nat → Option (Bool × FSpec) := lk [(86, (false, sp86)), (87, (false, sp87))]
theorem da27 : SoundAll Try.prog D27 := soundAll_cons so86 (soundAll_cons so87 (soundAll_nil))
noncomputable def cx27 (m : Msg) (left : Int) : Cx := ⟨tt, D27, Try.f27.ntmps, [0, 1, 2, 4, 10, 16], [], [], fun _ => none, [], noM, []⟩
theorem bd27 (m : Msg) (left : Int) (hpre : pr27 m left) : bodyP (cx27 m left) Try.f27 0 [encMsg 1 (m), .int .i64 (left)] (fun rr => VLe rr (rs27 m left)) := by
  have key :
      (((VLe (encL (encCert 1) 1 (Msg.certs m))
   (encL (encCert 1) 1 (decL decCert (encL (encCert 1) 1 (Msg.certs m))))) ∧
   (pr86 (decL decCert (encL (encCert 1) 1 (Msg.certs m))) left)) ∧
   (((decide (szLen (List.length (decL decCert (encL (encCert 1) 1 (Msg.certs m)))) left < (0 : Int)) = true) →
   (VLe (V.int IntKind.i64 (-1 : Int)) (V.int IntKind.i64 (szMsgF m left)))) ∧
   ((decide (szLen (List.length (decL decCert (encL (encCert 1) 1 (Msg.certs m)))) left < (0 : Int)) = false) →
   (((VLe (encL encI 1 (Msg.refs m)) (encL encI 1 (decL decI (encL encI 1 (Msg.refs m))))) ∧
   (pr87 (decL decI (encL encI 1 (Msg.refs m)))
   (szLen (List.length (decL decCert (encL (encCert 1) 1 (Msg.certs m)))) left))) ∧
   (((decide
   (szLen (List.length (decL decI (encL encI 1 (Msg.refs m))))
   (szLen (List.length (decL decCert (encL (encCert 1) 1 (Msg.certs m)))) left) <
   (0 : Int)) =
   true) →
   (VLe (V.int IntKind.i64 (-1 : Int)) (V.int IntKind.i64 (szMsgF m left)))) ∧
   ((decide
   (szLen (List.length (decL decI (encL encI 1 (Msg.refs m))))
   (szLen (List.length (decL decCert (encL (encCert 1) 1 (Msg.certs m)))) left) <
   (0 : Int)) =
   false) →
   (VLe
   (V.int IntKind.i64
   (szLen (List.length (decL decI (encL encI 1 (Msg.refs m))))
   (szLen (List.length (decL decCert (encL (encCert 1) 1 (Msg.certs m)))) left)))
   (V.int IntKind.i64 (szMsgF m left))))))))) := by
    unfold pr27 Msg.bd at hpre
    have := @szLen_le m.certs.length left
    simp [szMsgF, pr86, pr87]
    grind
  exact Eq.mp (by kernel_rfl) key
theorem so27 : Sound Try.prog 27 sp27 := by
  refine sound_of_body hmix (pol := 0) Try.func27 rfl (by kernel_rfl) fun args bin ob r bout hDe hob => ?_
  unfold sp27 at hDe
  split at hDe
  · rename_i a0 a1
    cases hDe
    exact ⟨rfl, rfl, Nat.le_of_ble_eq_true (by kernel_rfl), cx27 (decMsg a0) a1, Eq.mp (by kernel_rfl) htt, Eq.mp (by kernel_rfl) da27, Eq.mp (by kernel_rfl) (noM_sound (P := Try.prog)), by kernel_rfl, [encMsg 1 ((decMsg a0)), .int .i64 (a1)], args_of_vles (⟨hob.1, VLe.refl _, trivial⟩), Eq.mp (by kernel_rfl) (bd27 (decMsg a0) a1 (hob.2))⟩
  · cases hDe

/-! ### laws.toMsg -/
def pr29 (m : Msg) : Prop := m.certs.length ≤ most ∧ m.refs.length ≤ most
noncomputable def rs29 (m : Msg) : V := encMsg 2 (m)
noncomputable def sp29 : FSpec := fun args bin => match args, bin with
  | [a0], [] => some (VLe a0 (encMsg 1 ((decMsg a0))) ∧ pr29 (decMsg a0), rs29 (decMsg a0), [])
  | _, _ => none
noncomputable def D29 : Nat → Option (Bool × FSpec) := lk [(89, (false, sp89)), (54, (false, sp54))]
theorem da29 : SoundAll Try.prog D29 := soundAll_cons so89 (soundAll_cons so54 (soundAll_nil))
noncomputable def cx29 (m : Msg) : Cx := ⟨tt, D29, Try.f29.ntmps, [0, 1, 2, 3], [], [], fun _ => none, [], noM, []⟩
theorem bd29 (m : Msg) (hpre : pr29 m) : bodyP (cx29 m) Try.f29 1 [encMsg 1 (m)] (fun rr => VLe rr (rs29 m)) := by
  have key :
      (((VLe (encL (encCert 1) 1 (Msg.certs m))
   (encL (encCert 1) 1 (decL decCert (encL (encCert 1) 1 (Msg.certs m))))) ∧
   (pr89 (decL decCert (encL (encCert 1) 1 (Msg.certs m))))) ∧
   (((VLe (encL encI 1 (Msg.refs m)) (encL encI 1 (decL decI (encL encI 1 (Msg.refs m))))) ∧
   (pr54 (decL decI (encL encI 1 (Msg.refs m))))) ∧
   (VLe
   (V.agg
   [V.int IntKind.i64 (Msg.kind m), V.int IntKind.i64 (Msg.view m), V.int IntKind.i64 (Msg.sender m),
   V.int IntKind.i64 (Msg.slot m), V.int IntKind.i64 (Msg.value m),
   encL (encCert 1) 2 (decL decCert (encL (encCert 1) 1 (Msg.certs m))),
   encL encI 2 (decL decI (encL encI 1 (Msg.refs m)))])
   (encMsg 2 m)))) := by
    unfold pr29 at hpre
    simp [pr89, pr54, pr58, hpre]
    exact VLe.refl _
  exact Eq.mp (by kernel_rfl) key
theorem so29 : Sound Try.prog 29 sp29 := by
  refine sound_of_body hmix (pol := 1) Try.func29 rfl (by kernel_rfl) fun args bin ob r bout hDe hob => ?_
  unfold sp29 at hDe
  split at hDe
  · rename_i a0
    cases hDe
    exact ⟨rfl, rfl, Nat.le_of_ble_eq_true (by kernel_rfl), cx29 (decMsg a0), Eq.mp (by kernel_rfl) htt, Eq.mp (by kernel_rfl) da29, Eq.mp (by kernel_rfl) (noM_sound (P := Try.prog)), by kernel_rfl, [encMsg 1 ((decMsg a0))], args_of_vles (⟨hob.1, trivial⟩), Eq.mp (by kernel_rfl) (bd29 (decMsg a0) (hob.2))⟩
  · cases hDe

/-! ### laws.eqMsg -/
def pr31 (a : Msg) (b : Msg) : Prop := a.bd
noncomputable def rs31 (a : Msg) (b : Msg) : V := .bool (decide (a = b))
noncomputable def sp31 : FSpec := fun args bin => match args, bin with
  | [a0, a1], [] => some (VLe a0 (encMsg 1 ((decMsg a0))) ∧ VLe a1 (encMsg 1 ((decMsg a1))) ∧ pr31 (decMsg a0) (decMsg a1), rs31 (decMsg a0) (decMsg a1), [])
  | _, _ => none
noncomputable def D31 : Nat → Option (Bool × FSpec) := lk [(92, (false, sp92)), (55, (false, sp55))]
theorem da31 : SoundAll Try.prog D31 := soundAll_cons so92 (soundAll_cons so55 (soundAll_nil))
noncomputable def cx31 (a : Msg) (b : Msg) : Cx := ⟨tt, D31, Try.f31.ntmps, [0, 1, 2, 3, 4, 9, 14, 19, 24, 29, 35, 41], [], [], fun _ => none, [], noM, []⟩
theorem bd31 (a : Msg) (b : Msg) (hpre : pr31 a b) : bodyP (cx31 a b) Try.f31 0 [encMsg 1 (a), encMsg 1 (b)] (fun rr => VLe rr (rs31 a b)) := by
  have key :
      ((((Msg.kind a != Msg.kind b) = true) →
   (VLe (V.bool false) (V.bool (decide (a = b))))) ∧
   (((Msg.kind a != Msg.kind b) = false) →
   ((((Msg.view a != Msg.view b) = true) →
   (VLe (V.bool false) (V.bool (decide (a = b))))) ∧
   (((Msg.view a != Msg.view b) = false) →
   ((((Msg.sender a != Msg.sender b) = true) →
   (VLe (V.bool false) (V.bool (decide (a = b))))) ∧
   (((Msg.sender a != Msg.sender b) = false) →
   ((((Msg.slot a != Msg.slot b) = true) →
   (VLe (V.bool false) (V.bool (decide (a = b))))) ∧
   (((Msg.slot a != Msg.slot b) = false) →
   ((((Msg.value a != Msg.value b) = true) →
   (VLe (V.bool false) (V.bool (decide (a = b))))) ∧
   (((Msg.value a != Msg.value b) = false) →
   (((VLe (encL (encCert 1) 1 (Msg.certs a))
   (encL (encCert 1) 1 (decL decCert (encL (encCert 1) 1 (Msg.certs a))))) ∧
   ((VLe (encL (encCert 1) 1 (Msg.certs b))
   (encL (encCert 1) 1 (decL decCert (encL (encCert 1) 1 (Msg.certs b))))) ∧
   (pr92 (decL decCert (encL (encCert 1) 1 (Msg.certs a)))
   (decL decCert (encL (encCert 1) 1 (Msg.certs b)))))) ∧
   ((((!decide
   (decL decCert (encL (encCert 1) 1 (Msg.certs a)) =
   decL decCert (encL (encCert 1) 1 (Msg.certs b)))) =
   true) →
   (VLe (V.bool false) (V.bool (decide (a = b))))) ∧
   (((!decide
   (decL decCert (encL (encCert 1) 1 (Msg.certs a)) =
   decL decCert (encL (encCert 1) 1 (Msg.certs b)))) =
   false) →
   (((VLe (encL encI 1 (Msg.refs a)) (encL encI 1 (decL decI (encL encI 1 (Msg.refs a))))) ∧
   ((VLe (encL encI 1 (Msg.refs b)) (encL encI 1 (decL decI (encL encI 1 (Msg.refs b))))) ∧
   (pr55 (decL decI (encL encI 1 (Msg.refs a))) (decL decI (encL encI 1 (Msg.refs b)))))) ∧
   ((((!decide (decL decI (encL encI 1 (Msg.refs a)) = decL decI (encL encI 1 (Msg.refs b)))) = true) →
   (VLe (V.bool false) (V.bool (decide (a = b))))) ∧
   (((!decide (decL decI (encL encI 1 (Msg.refs a)) = decL decI (encL encI 1 (Msg.refs b)))) = false) →
   (VLe (V.bool true) (V.bool (decide (a = b)))))))))))))))))))) := by
    unfold pr31 Msg.bd at hpre
    repeat' (first | apply And.intro | intro _)
    all_goals simp_all [pr92, pr55, pr139, eq_Msg]
  exact Eq.mp (by kernel_rfl) key
theorem so31 : Sound Try.prog 31 sp31 := by
  refine sound_of_body hmix (pol := 0) Try.func31 rfl (by kernel_rfl) fun args bin ob r bout hDe hob => ?_
  unfold sp31 at hDe
  split at hDe
  · rename_i a0 a1
    cases hDe
    exact ⟨rfl, rfl, Nat.le_of_ble_eq_true (by kernel_rfl), cx31 (decMsg a0) (decMsg a1), Eq.mp (by kernel_rfl) htt, Eq.mp (by kernel_rfl) da31, Eq.mp (by kernel_rfl) (noM_sound (P := Try.prog)), by kernel_rfl, [encMsg 1 ((decMsg a0)), encMsg 1 ((decMsg a1))], args_of_vles (⟨hob.1, hob.2.1, trivial⟩), Eq.mp (by kernel_rfl) (bd31 (decMsg a0) (decMsg a1) (hob.2.2))⟩
  · cases hDe

end Go.Av
