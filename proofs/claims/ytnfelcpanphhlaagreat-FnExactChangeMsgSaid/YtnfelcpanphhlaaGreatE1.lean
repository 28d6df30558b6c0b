/- The laws' own helpers: copies, comparisons, sizes. -/
import Derived.Test.YtnfelcpanphhlaaGreatE0
namespace Go.Av
open Go.Proofs
set_option maxRecDepth 100000
set_option linter.unusedVariables false
set_option linter.unusedSimpArgs false

/-- A size that is taken off what is left. -/
def szLen (n : Nat) (left : Int) : Int := if left - n < 0 then -1 else left - n
theorem zele_I : ELe (.int .i64 0) (encI default) := ELe.refl _
theorem zele_Cert : ELe (.agg [.int .i64 0, .int .i64 0, .int .i64 0]) (encCert 1 default) := ELe.refl _
theorem zele_Msg : ELe (.agg [.int .i64 0, .int .i64 0, .int .i64 0, .int .i64 0, .int .i64 0, .nil, .nil]) (encMsg 1 default) :=
  ele_of ⟨PLe.refl _, PLe.refl _, PLe.refl _, PLe.refl _, PLe.refl _, ple_nil _ _, ple_nil _ _, trivial⟩


/-! ### laws.toInt64S -/
def pr108 (xs : List Int) : Prop := xs.length ≤ most
noncomputable def rs108 (xs : List Int) : V := encL encI 2 (xs)
noncomputable def sp108 : FSpec := fun args bin => match args, bin with
  | [a0], [] => some (VLe a0 (encL encI 1 (((decL decI) a0))) ∧ pr108 ((decL decI) a0), rs108 ((decL decI) a0), [])
  | _, _ => none
noncomputable def in108_3 (xs : List Int) : LoopInv :=
  ⟨Nat × List Int, fun p => ⟨[(0, encL encI 1 xs), (3, .osl (canonT 3) xs.length), (4, .int .i64 p.1)], [(canonT 3, .arr 1 xs.length (gL encI p.2) tagS)]⟩,
    fun p => p.1 ≤ xs.length ∧ p.2.length = xs.length ∧ ∀ j, j < p.1 → p.2.getD j default = xs.getD j default, fun p => xs.length - p.1⟩
noncomputable def iv108 (xs : List Int) : Nat → Option LoopInv := fun rg_ => match rg_ with
  | 3 => some (in108_3 xs)
  | _ => none
noncomputable def D108 : Nat → Option (Bool × FSpec) := lk []
theorem da108 : SoundAll Tryz.prog D108 := soundAll_nil
noncomputable def cx108 (xs : List Int) : Cx := ⟨tt, D108, Tryz.f108.ntmps, [0, 2, 3, 4, 11], [(3, ⟨[(0, none), (3, some 1), (4, none)], []⟩)], [], iv108 xs, [], noM, []⟩
theorem bd108 (xs : List Int) (hpre : pr108 xs) : bodyP (cx108 xs) Tryz.f108 1 [encL encI 1 (xs)] (fun rr => VLe rr (rs108 xs)) := by
  have key :
      ((((0 : Int) ≤ (↑(List.length xs) : Int)) ∧
   (((↑(List.length xs) : Int) ≤ (↑(List.length xs) : Int)) ∧
   ((↑(List.length xs) : Int) ≤ (↑1073741824 : Int)))) ∧
   ((∃ x : Nat × List Int, ((SLe
   (AS.mk
   [(0, encL encI 1 xs), (3, V.osl 32000256 (Int.toNat (↑(List.length xs) : Int))),
   (4, V.int IntKind.i64 (0 : Int))]
   [(32000256,
   Blk.arr 1 (Int.toNat (↑(List.length xs) : Int)) (fun (x : Nat) ↦ V.int IntKind.i64 (0 : Int))
   100)])
   (AS.mk
   [(0, encL encI 1 xs), (3, V.osl 32000256 (List.length xs)),
   (4, V.int IntKind.i64 (↑(Prod.fst x) : Int))]
   [(32000256, Blk.arr 1 (List.length xs) (gL encI (Prod.snd x)) 100)])) ∧
   ((Prod.fst x ≤ List.length xs) ∧
   ((List.length (Prod.snd x) = List.length xs) ∧
   (∀ j : Nat,
   ((j < Prod.fst x) →
   (List.getD (Prod.snd x) j default = List.getD xs j default))))))) ∧
   (∀ x : Nat × List Int,
   (((Prod.fst x ≤ List.length xs) ∧
   ((List.length (Prod.snd x) = List.length xs) ∧
   (∀ j : Nat,
   ((j < Prod.fst x) →
   (List.getD (Prod.snd x) j default = List.getD xs j default))))) →
   (((decide ((↑(Prod.fst x) : Int) < (↑(List.length xs) : Int)) = true) →
   ((((0 : Int) ≤ (↑(Prod.fst x) : Int)) ∧
   ((↑(Prod.fst x) : Int) < (↑(List.length xs) : Int))) ∧
   ((((0 : Int) ≤ (↑(Prod.fst x) : Int)) ∧
   ((↑(Prod.fst x) : Int) < (↑(List.length xs) : Int))) ∧
   ((Int.toNat (↑(Prod.fst x) : Int) < List.length xs) ∧
   ((inK IntKind.i64 ((↑(Prod.fst x) : Int) + (1 : Int))) ∧
   (∃ y : Nat × List Int, ((SLe
   (AS.mk
   [(0, encL encI 1 xs), (3, V.osl 32000256 (List.length xs)),
   (4, V.int IntKind.i64 ((↑(Prod.fst x) : Int) + (1 : Int)))]
   [(32000256,
   Blk.arr 1 (List.length xs)
   (setg (gL encI (Prod.snd x)) (Int.toNat (↑(Prod.fst x) : Int))
   (V.int IntKind.i64 (List.getD xs (Int.toNat (↑(Prod.fst x) : Int)) default)))
   100)])
   (AS.mk
   [(0, encL encI 1 xs), (3, V.osl 32000256 (List.length xs)),
   (4, V.int IntKind.i64 (↑(Prod.fst y) : Int))]
   [(32000256, Blk.arr 1 (List.length xs) (gL encI (Prod.snd y)) 100)])) ∧
   (((Prod.fst y ≤ List.length xs) ∧
   ((List.length (Prod.snd y) = List.length xs) ∧
   (∀ j : Nat,
   ((j < Prod.fst y) →
   (List.getD (Prod.snd y) j default = List.getD xs j default))))) ∧
   (List.length xs - Prod.fst y < List.length xs - Prod.fst x))))))))) ∧
   ((decide ((↑(Prod.fst x) : Int) < (↑(List.length xs) : Int)) = false) →
   (VLe (V.sl (List.length xs) (gL encI (Prod.snd x)) 2) (encL encI 2 xs)))))))) := by
    unfold pr108 most at hpre
    refine ⟨⟨by omega, by omega, by omega⟩, ⟨(0, List.replicate xs.length default), ?_, by simp, by simp, fun j hj => absurd hj (Nat.not_lt_zero j)⟩, ?_⟩
    · refine sle_of ⟨rfl, VLe.refl _, rfl, VLe.refl _, rfl, VLe.refl _, trivial⟩ ⟨rfl, ?_, trivial⟩
      refine ble_arr (fun i hi => ?_) (Or.inl rfl)
      have hi' : i < xs.length := hi
      have e1 : gL encI (List.replicate xs.length default) i = encI default := by simp [gL, hi']
      rw [e1]
      exact zele_I
    · rintro ⟨i, ys⟩ ⟨hi, hl, hj⟩
      simp only at hi hl hj ⊢
      refine ⟨fun h => ?_, fun h => ?_⟩
      · have hlt : i < xs.length := by simpa using h
        refine ⟨⟨by omega, by omega⟩, ⟨by omega, by omega⟩, by simpa using hlt, inK64 (by omega), (i + 1, ys.set i (xs.getD i default)), ?_, ⟨by simp only; omega, by simpa using hl, fun j h2 => ?_⟩, by simp only; omega⟩
        · refine sle_of ⟨rfl, VLe.refl _, rfl, VLe.refl _, rfl, vle_int (by simp), trivial⟩ ⟨rfl, ?_, trivial⟩
          refine ble_arr (fun k hk => ?_) (Or.inl rfl)
          simp only [setg, gL, Int.toNat_natCast]
          by_cases e : k = i
          · subst e
            rw [if_pos rfl, getD_set_eq _ _ _ _ (by omega)]
            exact ELe.refl _
          · rw [if_neg e, getD_set_ne _ _ _ _ e]
            exact ELe.refl _
        · simp only at h2 ⊢
          by_cases e : j = i
          · subst e; rw [getD_set_eq _ _ _ _ (by omega)]
          · rw [getD_set_ne _ _ _ _ e]; exact hj j (by omega)
      · have hge : i = xs.length := by simp at h; omega
        refine vle_sl (fun k hk => ?_) (Or.inl rfl)
        simp only [gL]
        rw [hj k (by omega)]
        exact ELe.refl _
  exact Eq.mp (by kernel_rfl) key
theorem so108 : Sound Tryz.prog 108 sp108 := by
  refine sound_of_body hmix (pol := 1) Tryz.func108 rfl (by kernel_rfl) fun args bin ob r bout hDe hob => ?_
  unfold sp108 at hDe
  split at hDe
  · rename_i a0
    cases hDe
    exact ⟨rfl, rfl, Nat.le_of_ble_eq_true (by kernel_rfl), cx108 ((decL decI) a0), Eq.mp (by kernel_rfl) htt, Eq.mp (by kernel_rfl) da108, Eq.mp (by kernel_rfl) (noM_sound (P := Tryz.prog)), by kernel_rfl, [encL encI 1 (((decL decI) a0))], args_of_vles (⟨hob.1, trivial⟩), Eq.mp (by kernel_rfl) (bd108 ((decL decI) a0) (hob.2))⟩
  · cases hDe

/-! ### laws.eqInt64S -/
def pr111 (xs : List Int) (ys : List Int) : Prop := xs.length ≤ maxLen
noncomputable def rs111 (xs : List Int) (ys : List Int) : V := .bool (decide (xs = ys))
noncomputable def sp111 : FSpec := fun args bin => match args, bin with
  | [a0, a1], [] => some (VLe a0 (encL encI 1 (((decL decI) a0))) ∧ VLe a1 (encL encI 1 (((decL decI) a1))) ∧ pr111 ((decL decI) a0) ((decL decI) a1), rs111 ((decL decI) a0) ((decL decI) a1), [])
  | _, _ => none
noncomputable def in111_4 (xs : List Int) (ys : List Int) : LoopInv :=
  ⟨Nat, fun i => ⟨[(0, encL encI 1 xs), (1, encL encI 1 ys), (5, .int .i64 i)], []⟩,
    fun i => i ≤ xs.length ∧ xs.length = ys.length ∧ ∀ j, j < i → xs.getD j default = ys.getD j default, fun i => xs.length - i⟩
noncomputable def iv111 (xs : List Int) (ys : List Int) : Nat → Option LoopInv := fun rg_ => match rg_ with
  | 4 => some (in111_4 xs ys)
  | _ => none
noncomputable def D111 : Nat → Option (Bool × FSpec) := lk []
theorem da111 : SoundAll Tryz.prog D111 := soundAll_nil
noncomputable def cx111 (xs : List Int) (ys : List Int) : Cx := ⟨tt, D111, Tryz.f111.ntmps, [0, 1, 4, 5, 10, 14, 25], [(4, ⟨[(0, none), (1, none), (5, none)], []⟩)], [], iv111 xs ys, [], noM, []⟩
theorem bd111 (xs : List Int) (ys : List Int) (hpre : pr111 xs ys) : bodyP (cx111 xs ys) Tryz.f111 0 [encL encI 1 (xs), encL encI 1 (ys)] (fun rr => VLe rr (rs111 xs ys)) := by
  have key :
      (((((↑(List.length xs) : Int) != (↑(List.length ys) : Int)) = true) →
   (VLe (V.bool false) (V.bool (decide (xs = ys))))) ∧
   ((((↑(List.length xs) : Int) != (↑(List.length ys) : Int)) = false) →
   ((∃ x : Nat, ((SLe
   (AS.mk
   [(0, encL encI 1 xs), (1, encL encI 1 ys), (5, V.int IntKind.i64 (0 : Int))]
   [])
   (AS.mk
   [(0, encL encI 1 xs), (1, encL encI 1 ys),
   (5, V.int IntKind.i64 (↑x : Int))]
   [])) ∧
   ((x ≤ List.length xs) ∧
   ((List.length xs = List.length ys) ∧
   (∀ j : Nat,
   ((j < x) →
   (List.getD xs j default = List.getD ys j default))))))) ∧
   (∀ x : Nat,
   (((x ≤ List.length xs) ∧
   ((List.length xs = List.length ys) ∧
   (∀ j : Nat,
   ((j < x) →
   (List.getD xs j default = List.getD ys j default))))) →
   (((decide ((↑x : Int) < (↑(List.length xs) : Int)) = true) →
   ((((0 : Int) ≤ (↑x : Int)) ∧
   ((↑x : Int) < (↑(List.length xs) : Int))) ∧
   ((((0 : Int) ≤ (↑x : Int)) ∧
   ((↑x : Int) < (↑(List.length ys) : Int))) ∧
   ((((List.getD xs (Int.toNat (↑x : Int)) default != List.getD ys (Int.toNat (↑x : Int)) default) = true) →
   (VLe (V.bool false) (V.bool (decide (xs = ys))))) ∧
   (((List.getD xs (Int.toNat (↑x : Int)) default != List.getD ys (Int.toNat (↑x : Int)) default) = false) →
   ((inK IntKind.i64 ((↑x : Int) + (1 : Int))) ∧
   (∃ y : Nat, ((SLe
   (AS.mk
   [(0, encL encI 1 xs), (1, encL encI 1 ys),
   (5, V.int IntKind.i64 ((↑x : Int) + (1 : Int)))]
   [])
   (AS.mk
   [(0, encL encI 1 xs), (1, encL encI 1 ys),
   (5, V.int IntKind.i64 (↑y : Int))]
   [])) ∧
   (((y ≤ List.length xs) ∧
   ((List.length xs = List.length ys) ∧
   (∀ j : Nat,
   ((j < y) →
   (List.getD xs j default = List.getD ys j default))))) ∧
   (List.length xs - y < List.length xs - x)))))))))) ∧
   ((decide ((↑x : Int) < (↑(List.length xs) : Int)) = false) →
   (VLe (V.bool true) (V.bool (decide (xs = ys))))))))))) := by
    unfold pr111 maxLen at hpre
    refine ⟨fun h => ?_, fun h => ?_⟩
    · refine vle_bool ?_
      have hne : xs ≠ ys := fun e => by subst e; simp at h
      simp [hne]
    · have hlen : xs.length = ys.length := by simp at h; omega
      refine ⟨⟨0, SLe.refl _, by omega, hlen, fun j hj => absurd hj (Nat.not_lt_zero j)⟩, ?_⟩
      rintro i ⟨hi, _, hj⟩
      refine ⟨fun h => ?_, fun h => ?_⟩
      · have hlt : i < xs.length := by simpa using h
        simp only [Int.toNat_natCast]
        refine ⟨⟨by omega, by omega⟩, ⟨by omega, by omega⟩, fun h2 => ?_, fun h2 => ⟨inK64 (by omega), i + 1, SLe.refl _, ⟨by omega, hlen, fun j h3 => ?_⟩, by omega⟩⟩
        · refine vle_bool ?_
          have hne : xs ≠ ys := fun e => by subst e; simp at h2
          simp [hne]
        · rcases Nat.lt_or_ge j i with h4 | h4
          · exact hj j h4
          · have : j = i := by omega
            subst this
            simpa using h2
      · refine vle_bool ?_
        have hge : i = xs.length := by simp at h; omega
        have heq : xs = ys := by
          refine List.ext_getElem hlen fun k h1 h2 => ?_
          have := hj k (by omega)
          simpa [h1, h2] using this
        simp [heq]
  exact Eq.mp (by kernel_rfl) key
theorem so111 : Sound Tryz.prog 111 sp111 := by
  refine sound_of_body hmix (pol := 0) Tryz.func111 rfl (by kernel_rfl) fun args bin ob r bout hDe hob => ?_
  unfold sp111 at hDe
  split at hDe
  · rename_i a0 a1
    cases hDe
    exact ⟨rfl, rfl, Nat.le_of_ble_eq_true (by kernel_rfl), cx111 ((decL decI) a0) ((decL decI) a1), Eq.mp (by kernel_rfl) htt, Eq.mp (by kernel_rfl) da111, Eq.mp (by kernel_rfl) (noM_sound (P := Tryz.prog)), by kernel_rfl, [encL encI 1 (((decL decI) a0)), encL encI 1 (((decL decI) a1))], args_of_vles (⟨hob.1, hob.2.1, trivial⟩), Eq.mp (by kernel_rfl) (bd111 ((decL decI) a0) ((decL decI) a1) (hob.2.2))⟩
  · cases hDe

/-! ### laws.toCert -/
def pr143 (x : Cert) : Prop := True
noncomputable def rs143 (x : Cert) : V := encCert 2 (x)
noncomputable def sp143 : FSpec := fun args bin => match args, bin with
  | [a0], [] => some (VLe a0 (encCert 1 ((decCert a0))) ∧ pr143 (decCert a0), rs143 (decCert a0), [])
  | _, _ => none
noncomputable def D143 : Nat → Option (Bool × FSpec) := lk []
theorem da143 : SoundAll Tryz.prog D143 := soundAll_nil
noncomputable def cx143 (x : Cert) : Cx := ⟨tt, D143, Tryz.f143.ntmps, [0, 1, 2, 3], [], [], fun _ => none, [], noM, []⟩
theorem bd143 (x : Cert) (hpre : pr143 x) : bodyP (cx143 x) Tryz.f143 1 [encCert 1 (x)] (fun rr => VLe rr (rs143 x)) := by
  have key :
      (VLe (encCert 1 x) (encCert 1 x)) := by
    exact vle_agg ⟨VLe.refl _, VLe.refl _, VLe.refl _, trivial⟩
  exact Eq.mp (by kernel_rfl) key
theorem so143 : Sound Tryz.prog 143 sp143 := by
  refine sound_of_body hmix (pol := 1) Tryz.func143 rfl (by kernel_rfl) fun args bin ob r bout hDe hob => ?_
  unfold sp143 at hDe
  split at hDe
  · rename_i a0
    cases hDe
    exact ⟨rfl, rfl, Nat.le_of_ble_eq_true (by kernel_rfl), cx143 (decCert a0), Eq.mp (by kernel_rfl) htt, Eq.mp (by kernel_rfl) da143, Eq.mp (by kernel_rfl) (noM_sound (P := Tryz.prog)), by kernel_rfl, [encCert 1 ((decCert a0))], args_of_vles (⟨hob.1, trivial⟩), Eq.mp (by kernel_rfl) (bd143 (decCert a0) (hob.2))⟩
  · cases hDe

/-! ### laws.toCertS -/
def pr107 (xs : List Cert) : Prop := xs.length ≤ most ∧ ∀ x ∈ xs, pr143 x
noncomputable def rs107 (xs : List Cert) : V := encL (encCert 1) 2 (xs)
noncomputable def sp107 : FSpec := fun args bin => match args, bin with
  | [a0], [] => some (VLe a0 (encL (encCert 1) 1 (((decL decCert) a0))) ∧ pr107 ((decL decCert) a0), rs107 ((decL decCert) a0), [])
  | _, _ => none
noncomputable def in107_3 (xs : List Cert) : LoopInv :=
  ⟨Nat × List Cert, fun p => ⟨[(0, encL (encCert 1) 1 xs), (3, .osl (canonT 3) xs.length), (4, .int .i64 p.1)], [(canonT 3, .arr 3 xs.length (gL (encCert 1) p.2) tagS)]⟩,
    fun p => p.1 ≤ xs.length ∧ p.2.length = xs.length ∧ ∀ j, j < p.1 → p.2.getD j default = xs.getD j default, fun p => xs.length - p.1⟩
noncomputable def iv107 (xs : List Cert) : Nat → Option LoopInv := fun rg_ => match rg_ with
  | 3 => some (in107_3 xs)
  | _ => none
noncomputable def D107 : Nat → Option (Bool × FSpec) := lk [(143, (false, sp143))]
theorem da107 : SoundAll Tryz.prog D107 := soundAll_cons so143 (soundAll_nil)
noncomputable def cx107 (xs : List Cert) : Cx := ⟨tt, D107, Tryz.f107.ntmps, [0, 2, 3, 4, 11], [(3, ⟨[(0, none), (3, some 3), (4, none)], []⟩)], [], iv107 xs, [], noM, []⟩
theorem bd107 (xs : List Cert) (hpre : pr107 xs) : bodyP (cx107 xs) Tryz.f107 1 [encL (encCert 1) 1 (xs)] (fun rr => VLe rr (rs107 xs)) := by
  have key :
      ((((0 : Int) ≤ (↑(List.length xs) : Int)) ∧
   (((↑(List.length xs) : Int) ≤ (↑(List.length xs) : Int)) ∧
   ((↑(List.length xs) : Int) ≤ (↑1073741824 : Int)))) ∧
   ((∃ x : Nat × List Cert, ((SLe
   (AS.mk
   [(0, encL (encCert 1) 1 xs),
   (3, V.osl 32000256 (Int.toNat (↑(List.length xs) : Int))),
   (4, V.int IntKind.i64 (0 : Int))]
   [(32000256,
   Blk.arr 3 (Int.toNat (↑(List.length xs) : Int))
   (fun (x : Nat) ↦
   V.agg [V.int IntKind.i64 (0 : Int), V.int IntKind.i64 (0 : Int), V.int IntKind.i64 (0 : Int)])
   100)])
   (AS.mk
   [(0, encL (encCert 1) 1 xs), (3, V.osl 32000256 (List.length xs)),
   (4, V.int IntKind.i64 (↑(Prod.fst x) : Int))]
   [(32000256, Blk.arr 3 (List.length xs) (gL (encCert 1) (Prod.snd x)) 100)])) ∧
   ((Prod.fst x ≤ List.length xs) ∧
   ((List.length (Prod.snd x) = List.length xs) ∧
   (∀ j : Nat,
   ((j < Prod.fst x) →
   (List.getD (Prod.snd x) j default = List.getD xs j default))))))) ∧
   (∀ x : Nat × List Cert,
   (((Prod.fst x ≤ List.length xs) ∧
   ((List.length (Prod.snd x) = List.length xs) ∧
   (∀ j : Nat,
   ((j < Prod.fst x) →
   (List.getD (Prod.snd x) j default = List.getD xs j default))))) →
   (((decide ((↑(Prod.fst x) : Int) < (↑(List.length xs) : Int)) = true) →
   ((((0 : Int) ≤ (↑(Prod.fst x) : Int)) ∧
   ((↑(Prod.fst x) : Int) < (↑(List.length xs) : Int))) ∧
   (((VLe (encCert 1 (List.getD xs (Int.toNat (↑(Prod.fst x) : Int)) default))
   (encCert 1 (decCert (encCert 1 (List.getD xs (Int.toNat (↑(Prod.fst x) : Int)) default))))) ∧
   (pr143 (decCert (encCert 1 (List.getD xs (Int.toNat (↑(Prod.fst x) : Int)) default))))) ∧
   ((((0 : Int) ≤ (↑(Prod.fst x) : Int)) ∧
   ((↑(Prod.fst x) : Int) < (↑(List.length xs) : Int))) ∧
   ((Int.toNat (↑(Prod.fst x) : Int) < List.length xs) ∧
   ((inK IntKind.i64 ((↑(Prod.fst x) : Int) + (1 : Int))) ∧
   (∃ y : Nat × List Cert, ((SLe
   (AS.mk
   [(0, encL (encCert 1) 1 xs), (3, V.osl 32000256 (List.length xs)),
   (4, V.int IntKind.i64 ((↑(Prod.fst x) : Int) + (1 : Int)))]
   [(32000256,
   Blk.arr 3 (List.length xs)
   (setg (gL (encCert 1) (Prod.snd x)) (Int.toNat (↑(Prod.fst x) : Int))
   (encCert 1 (decCert (encCert 1 (List.getD xs (Int.toNat (↑(Prod.fst x) : Int)) default)))))
   100)])
   (AS.mk
   [(0, encL (encCert 1) 1 xs), (3, V.osl 32000256 (List.length xs)),
   (4, V.int IntKind.i64 (↑(Prod.fst y) : Int))]
   [(32000256, Blk.arr 3 (List.length xs) (gL (encCert 1) (Prod.snd y)) 100)])) ∧
   (((Prod.fst y ≤ List.length xs) ∧
   ((List.length (Prod.snd y) = List.length xs) ∧
   (∀ j : Nat,
   ((j < Prod.fst y) →
   (List.getD (Prod.snd y) j default = List.getD xs j default))))) ∧
   (List.length xs - Prod.fst y < List.length xs - Prod.fst x)))))))))) ∧
   ((decide ((↑(Prod.fst x) : Int) < (↑(List.length xs) : Int)) = false) →
   (VLe (V.sl (List.length xs) (gL (encCert 1) (Prod.snd x)) 2) (encL (encCert 1) 2 xs)))))))) := by
    unfold pr107 most at hpre
    obtain ⟨hpre, hel⟩ := hpre
    refine ⟨⟨by omega, by omega, by omega⟩, ⟨(0, List.replicate xs.length default), ?_, by simp, by simp, fun j hj => absurd hj (Nat.not_lt_zero j)⟩, ?_⟩
    · refine sle_of ⟨rfl, VLe.refl _, rfl, VLe.refl _, rfl, VLe.refl _, trivial⟩ ⟨rfl, ?_, trivial⟩
      refine ble_arr (fun i hi => ?_) (Or.inl rfl)
      have hi' : i < xs.length := hi
      have e1 : gL (encCert 1) (List.replicate xs.length default) i = (encCert 1) default := by simp [gL, hi']
      rw [e1]
      exact zele_Cert
    · rintro ⟨i, ys⟩ ⟨hi, hl, hj⟩
      simp only at hi hl hj ⊢
      refine ⟨fun h => ?_, fun h => ?_⟩
      · have hlt : i < xs.length := by simpa using h
        have hin : xs.getD i default ∈ xs := by simp [hlt]
        simp only [dec_encCert, Int.toNat_natCast]
        refine ⟨⟨by omega, by omega⟩, ⟨VLe.refl _, hel _ hin⟩, ⟨by omega, by omega⟩, by simpa using hlt, inK64 (by omega), (i + 1, ys.set i (xs.getD i default)), ?_, ⟨by simp only; omega, by simpa using hl, fun j h2 => ?_⟩, by simp only; omega⟩
        · refine sle_of ⟨rfl, VLe.refl _, rfl, VLe.refl _, rfl, vle_int (by simp), trivial⟩ ⟨rfl, ?_, trivial⟩
          refine ble_arr (fun k hk => ?_) (Or.inl rfl)
          simp only [setg, gL, Int.toNat_natCast]
          by_cases e : k = i
          · subst e
            rw [if_pos rfl, getD_set_eq _ _ _ _ (by omega)]
            exact ele_Cert _ _ _
          · rw [if_neg e, getD_set_ne _ _ _ _ e]
            exact ELe.refl _
        · simp only at h2 ⊢
          by_cases e : j = i
          · subst e; rw [getD_set_eq _ _ _ _ (by omega)]
          · rw [getD_set_ne _ _ _ _ e]; exact hj j (by omega)
      · have hge : i = xs.length := by simp at h; omega
        refine vle_sl (fun k hk => ?_) (Or.inl rfl)
        simp only [gL]
        rw [hj k (by omega)]
        exact ELe.refl _
  exact Eq.mp (by kernel_rfl) key
theorem so107 : Sound Tryz.prog 107 sp107 := by
  refine sound_of_body hmix (pol := 1) Tryz.func107 rfl (by kernel_rfl) fun args bin ob r bout hDe hob => ?_
  unfold sp107 at hDe
  split at hDe
  · rename_i a0
    cases hDe
    exact ⟨rfl, rfl, Nat.le_of_ble_eq_true (by kernel_rfl), cx107 ((decL decCert) a0), Eq.mp (by kernel_rfl) htt, Eq.mp (by kernel_rfl) da107, Eq.mp (by kernel_rfl) (noM_sound (P := Tryz.prog)), by kernel_rfl, [encL (encCert 1) 1 (((decL decCert) a0))], args_of_vles (⟨hob.1, trivial⟩), Eq.mp (by kernel_rfl) (bd107 ((decL decCert) a0) (hob.2))⟩
  · cases hDe

/-! ### laws.eqCert -/
def pr145 (x : Cert) (y : Cert) : Prop := True
noncomputable def rs145 (x : Cert) (y : Cert) : V := .bool (decide (x = y))
noncomputable def sp145 : FSpec := fun args bin => match args, bin with
  | [a0, a1], [] => some (VLe a0 (encCert 1 ((decCert a0))) ∧ VLe a1 (encCert 1 ((decCert a1))) ∧ pr145 (decCert a0) (decCert a1), rs145 (decCert a0) (decCert a1), [])
  | _, _ => none
noncomputable def D145 : Nat → Option (Bool × FSpec) := lk []
theorem da145 : SoundAll Tryz.prog D145 := soundAll_nil
noncomputable def cx145 (x : Cert) (y : Cert) : Cx := ⟨tt, D145, Tryz.f145.ntmps, [0, 1, 2, 3, 4, 9, 14, 19], [], [], fun _ => none, [], noM, []⟩
theorem bd145 (x : Cert) (y : Cert) (hpre : pr145 x y) : bodyP (cx145 x y) Tryz.f145 0 [encCert 1 (x), encCert 1 (y)] (fun rr => VLe rr (rs145 x y)) := by
  have key :
      ((((Cert.slot x != Cert.slot y) = true) →
   (VLe (V.bool false) (V.bool (decide (x = y))))) ∧
   (((Cert.slot x != Cert.slot y) = false) →
   ((((Cert.view x != Cert.view y) = true) →
   (VLe (V.bool false) (V.bool (decide (x = y))))) ∧
   (((Cert.view x != Cert.view y) = false) →
   ((((Cert.value x != Cert.value y) = true) →
   (VLe (V.bool false) (V.bool (decide (x = y))))) ∧
   (((Cert.value x != Cert.value y) = false) →
   (VLe (V.bool true) (V.bool (decide (x = y)))))))))) := by
    simp [eq_Cert]
    grind
  exact Eq.mp (by kernel_rfl) key
theorem so145 : Sound Tryz.prog 145 sp145 := by
  refine sound_of_body hmix (pol := 0) Tryz.func145 rfl (by kernel_rfl) fun args bin ob r bout hDe hob => ?_
  unfold sp145 at hDe
  split at hDe
  · rename_i a0 a1
    cases hDe
    exact ⟨rfl, rfl, Nat.le_of_ble_eq_true (by kernel_rfl), cx145 (decCert a0) (decCert a1), Eq.mp (by kernel_rfl) htt, Eq.mp (by kernel_rfl) da145, Eq.mp (by kernel_rfl) (noM_sound (P := Tryz.prog)), by kernel_rfl, [encCert 1 ((decCert a0)), encCert 1 ((decCert a1))], args_of_vles (⟨hob.1, hob.2.1, trivial⟩), Eq.mp (by kernel_rfl) (bd145 (decCert a0) (decCert a1) (hob.2.2))⟩
  · cases hDe

/-! ### laws.eqCertS -/
def pr110 (xs : List Cert) (ys : List Cert) : Prop := xs.length ≤ maxLen ∧ ∀ x ∈ xs, ∀ y, pr145 x y
noncomputable def rs110 (xs : List Cert) (ys : List Cert) : V := .bool (decide (xs = ys))
noncomputable def sp110 : FSpec := fun args bin => match args, bin with
  | [a0, a1], [] => some (VLe a0 (encL (encCert 1) 1 (((decL decCert) a0))) ∧ VLe a1 (encL (encCert 1) 1 (((decL decCert) a1))) ∧ pr110 ((decL decCert) a0) ((decL decCert) a1), rs110 ((decL decCert) a0) ((decL decCert) a1), [])
  | _, _ => none
noncomputable def in110_4 (xs : List Cert) (ys : List Cert) : LoopInv :=
  ⟨Nat, fun i => ⟨[(0, encL (encCert 1) 1 xs), (1, encL (encCert 1) 1 ys), (5, .int .i64 i)], []⟩,
    fun i => i ≤ xs.length ∧ xs.length = ys.length ∧ ∀ j, j < i → xs.getD j default = ys.getD j default, fun i => xs.length - i⟩
noncomputable def iv110 (xs : List Cert) (ys : List Cert) : Nat → Option LoopInv := fun rg_ => match rg_ with
  | 4 => some (in110_4 xs ys)
  | _ => none
noncomputable def D110 : Nat → Option (Bool × FSpec) := lk [(145, (false, sp145))]
theorem da110 : SoundAll Tryz.prog D110 := soundAll_cons so145 (soundAll_nil)
noncomputable def cx110 (xs : List Cert) (ys : List Cert) : Cx := ⟨tt, D110, Tryz.f110.ntmps, [0, 1, 4, 5, 10, 14, 26], [(4, ⟨[(0, none), (1, none), (5, none)], []⟩)], [], iv110 xs ys, [], noM, []⟩
theorem bd110 (xs : List Cert) (ys : List Cert) (hpre : pr110 xs ys) : bodyP (cx110 xs ys) Tryz.f110 0 [encL (encCert 1) 1 (xs), encL (encCert 1) 1 (ys)] (fun rr => VLe rr (rs110 xs ys)) := by
  have key :
      (((((↑(List.length xs) : Int) != (↑(List.length ys) : Int)) = true) →
   (VLe (V.bool false) (V.bool (decide (xs = ys))))) ∧
   ((((↑(List.length xs) : Int) != (↑(List.length ys) : Int)) = false) →
   ((∃ x : Nat, ((SLe
   (AS.mk
   [(0, encL (encCert 1) 1 xs), (1, encL (encCert 1) 1 ys),
   (5, V.int IntKind.i64 (0 : Int))]
   [])
   (AS.mk
   [(0, encL (encCert 1) 1 xs), (1, encL (encCert 1) 1 ys),
   (5, V.int IntKind.i64 (↑x : Int))]
   [])) ∧
   ((x ≤ List.length xs) ∧
   ((List.length xs = List.length ys) ∧
   (∀ j : Nat,
   ((j < x) →
   (List.getD xs j default = List.getD ys j default))))))) ∧
   (∀ x : Nat,
   (((x ≤ List.length xs) ∧
   ((List.length xs = List.length ys) ∧
   (∀ j : Nat,
   ((j < x) →
   (List.getD xs j default = List.getD ys j default))))) →
   (((decide ((↑x : Int) < (↑(List.length xs) : Int)) = true) →
   ((((0 : Int) ≤ (↑x : Int)) ∧
   ((↑x : Int) < (↑(List.length xs) : Int))) ∧
   ((((0 : Int) ≤ (↑x : Int)) ∧
   ((↑x : Int) < (↑(List.length ys) : Int))) ∧
   (((VLe (encCert 1 (List.getD xs (Int.toNat (↑x : Int)) default))
   (encCert 1 (decCert (encCert 1 (List.getD xs (Int.toNat (↑x : Int)) default))))) ∧
   ((VLe (encCert 1 (List.getD ys (Int.toNat (↑x : Int)) default))
   (encCert 1 (decCert (encCert 1 (List.getD ys (Int.toNat (↑x : Int)) default))))) ∧
   (pr145 (decCert (encCert 1 (List.getD xs (Int.toNat (↑x : Int)) default)))
   (decCert (encCert 1 (List.getD ys (Int.toNat (↑x : Int)) default)))))) ∧
   ((((!decide
   (decCert (encCert 1 (List.getD xs (Int.toNat (↑x : Int)) default)) =
   decCert (encCert 1 (List.getD ys (Int.toNat (↑x : Int)) default)))) =
   true) →
   (VLe (V.bool false) (V.bool (decide (xs = ys))))) ∧
   (((!decide
   (decCert (encCert 1 (List.getD xs (Int.toNat (↑x : Int)) default)) =
   decCert (encCert 1 (List.getD ys (Int.toNat (↑x : Int)) default)))) =
   false) →
   ((inK IntKind.i64 ((↑x : Int) + (1 : Int))) ∧
   (∃ y : Nat, ((SLe
   (AS.mk
   [(0, encL (encCert 1) 1 xs), (1, encL (encCert 1) 1 ys),
   (5, V.int IntKind.i64 ((↑x : Int) + (1 : Int)))]
   [])
   (AS.mk
   [(0, encL (encCert 1) 1 xs), (1, encL (encCert 1) 1 ys),
   (5, V.int IntKind.i64 (↑y : Int))]
   [])) ∧
   (((y ≤ List.length xs) ∧
   ((List.length xs = List.length ys) ∧
   (∀ j : Nat,
   ((j < y) →
   (List.getD xs j default = List.getD ys j default))))) ∧
   (List.length xs - y < List.length xs - x))))))))))) ∧
   ((decide ((↑x : Int) < (↑(List.length xs) : Int)) = false) →
   (VLe (V.bool true) (V.bool (decide (xs = ys))))))))))) := by
    unfold pr110 maxLen at hpre
    obtain ⟨hpre, hel⟩ := hpre
    refine ⟨fun h => ?_, fun h => ?_⟩
    · refine vle_bool ?_
      have hne : xs ≠ ys := fun e => by subst e; simp at h
      simp [hne]
    · have hlen : xs.length = ys.length := by simp at h; omega
      refine ⟨⟨0, SLe.refl _, by omega, hlen, fun j hj => absurd hj (Nat.not_lt_zero j)⟩, ?_⟩
      rintro i ⟨hi, _, hj⟩
      refine ⟨fun h => ?_, fun h => ?_⟩
      · have hlt : i < xs.length := by simpa using h
        have hin : xs.getD i default ∈ xs := by simp [hlt]
        simp only [dec_encCert, Int.toNat_natCast]
        refine ⟨⟨by omega, by omega⟩, ⟨by omega, by omega⟩, ⟨VLe.refl _, VLe.refl _, hel _ hin _⟩, fun h2 => ?_, fun h2 => ⟨inK64 (by omega), i + 1, SLe.refl _, ⟨by omega, hlen, fun j h3 => ?_⟩, by omega⟩⟩
        · refine vle_bool ?_
          have hne : xs ≠ ys := fun e => by subst e; simp at h2
          simp [hne]
        · rcases Nat.lt_or_ge j i with h4 | h4
          · exact hj j h4
          · have : j = i := by omega
            subst this
            simpa using h2
      · refine vle_bool ?_
        have hge : i = xs.length := by simp at h; omega
        have heq : xs = ys := by
          refine List.ext_getElem hlen fun k h1 h2 => ?_
          have := hj k (by omega)
          simpa [h1, h2] using this
        simp [heq]
  exact Eq.mp (by kernel_rfl) key
theorem so110 : Sound Tryz.prog 110 sp110 := by
  refine sound_of_body hmix (pol := 0) Tryz.func110 rfl (by kernel_rfl) fun args bin ob r bout hDe hob => ?_
  unfold sp110 at hDe
  split at hDe
  · rename_i a0 a1
    cases hDe
    exact ⟨rfl, rfl, Nat.le_of_ble_eq_true (by kernel_rfl), cx110 ((decL decCert) a0) ((decL decCert) a1), Eq.mp (by kernel_rfl) htt, Eq.mp (by kernel_rfl) da110, Eq.mp (by kernel_rfl) (noM_sound (P := Tryz.prog)), by kernel_rfl, [encL (encCert 1) 1 (((decL decCert) a0)), encL (encCert 1) 1 (((decL decCert) a1))], args_of_vles (⟨hob.1, hob.2.1, trivial⟩), Eq.mp (by kernel_rfl) (bd110 ((decL decCert) a0) ((decL decCert) a1) (hob.2.2))⟩
  · cases hDe

/-! ### laws.szCertS -/
def pr104 (xs : List Cert) (left : Int) : Prop := 0 ≤ left ∧ left ≤ most ∧ xs.length ≤ maxLen
noncomputable def rs104 (xs : List Cert) (left : Int) : V := .int .i64 (szLen xs.length left)
noncomputable def sp104 : FSpec := fun args bin => match args, bin with
  | [a0, .int .i64 a1], [] => some (VLe a0 (encL (encCert 1) 1 (((decL decCert) a0))) ∧ pr104 ((decL decCert) a0) a1, rs104 ((decL decCert) a0) a1, [])
  | _, _ => none
noncomputable def D104 : Nat → Option (Bool × FSpec) := lk []
theorem da104 : SoundAll Tryz.prog D104 := soundAll_nil
noncomputable def cx104 (xs : List Cert) (left : Int) : Cx := ⟨tt, D104, Tryz.f104.ntmps, [0, 1, 4, 10], [], [], fun _ => none, [], noM, []⟩
theorem bd104 (xs : List Cert) (left : Int) (hpre : pr104 xs left) : bodyP (cx104 xs left) Tryz.f104 0 [encL (encCert 1) 1 (xs), .int .i64 (left)] (fun rr => VLe rr (rs104 xs left)) := by
  have key :
      ((inK IntKind.i64 (left - (↑(List.length xs) : Int))) ∧
   (((decide (left - (↑(List.length xs) : Int) < (0 : Int)) = true) →
   (VLe (V.int IntKind.i64 (-1 : Int)) (V.int IntKind.i64 (szLen (List.length xs) left)))) ∧
   ((decide (left - (↑(List.length xs) : Int) < (0 : Int)) = false) →
   (VLe (V.int IntKind.i64 (left - (↑(List.length xs) : Int))) (V.int IntKind.i64 (szLen (List.length xs) left)))))) := by
    unfold pr104 most maxLen at hpre
    simp [szLen]
    exact ⟨inK64 (by omega), by grind⟩
  exact Eq.mp (by kernel_rfl) key
theorem so104 : Sound Tryz.prog 104 sp104 := by
  refine sound_of_body hmix (pol := 0) Tryz.func104 rfl (by kernel_rfl) fun args bin ob r bout hDe hob => ?_
  unfold sp104 at hDe
  split at hDe
  · rename_i a0 a1
    cases hDe
    exact ⟨rfl, rfl, Nat.le_of_ble_eq_true (by kernel_rfl), cx104 ((decL decCert) a0) a1, Eq.mp (by kernel_rfl) htt, Eq.mp (by kernel_rfl) da104, Eq.mp (by kernel_rfl) (noM_sound (P := Tryz.prog)), by kernel_rfl, [encL (encCert 1) 1 (((decL decCert) a0)), .int .i64 (a1)], args_of_vles (⟨hob.1, VLe.refl _, trivial⟩), Eq.mp (by kernel_rfl) (bd104 ((decL decCert) a0) a1 (hob.2))⟩
  · cases hDe

/-! ### laws.szInt64S -/
def pr105 (xs : List Int) (left : Int) : Prop := 0 ≤ left ∧ left ≤ most ∧ xs.length ≤ maxLen
noncomputable def rs105 (xs : List Int) (left : Int) : V := .int .i64 (szLen xs.length left)
noncomputable def sp105 : FSpec := fun args bin => match args, bin with
  | [a0, .int .i64 a1], [] => some (VLe a0 (encL encI 1 (((decL decI) a0))) ∧ pr105 ((decL decI) a0) a1, rs105 ((decL decI) a0) a1, [])
  | _, _ => none
noncomputable def D105 : Nat → Option (Bool × FSpec) := lk []
theorem da105 : SoundAll Tryz.prog D105 := soundAll_nil
noncomputable def cx105 (xs : List Int) (left : Int) : Cx := ⟨tt, D105, Tryz.f105.ntmps, [0, 1, 4, 10], [], [], fun _ => none, [], noM, []⟩
theorem bd105 (xs : List Int) (left : Int) (hpre : pr105 xs left) : bodyP (cx105 xs left) Tryz.f105 0 [encL encI 1 (xs), .int .i64 (left)] (fun rr => VLe rr (rs105 xs left)) := by
  have key :
      ((inK IntKind.i64 (left - (↑(List.length xs) : Int))) ∧
   (((decide (left - (↑(List.length xs) : Int) < (0 : Int)) = true) →
   (VLe (V.int IntKind.i64 (-1 : Int)) (V.int IntKind.i64 (szLen (List.length xs) left)))) ∧
   ((decide (left - (↑(List.length xs) : Int) < (0 : Int)) = false) →
   (VLe (V.int IntKind.i64 (left - (↑(List.length xs) : Int))) (V.int IntKind.i64 (szLen (List.length xs) left)))))) := by
    unfold pr105 most maxLen at hpre
    simp [szLen]
    exact ⟨inK64 (by omega), by grind⟩
  exact Eq.mp (by kernel_rfl) key
theorem so105 : Sound Tryz.prog 105 sp105 := by
  refine sound_of_body hmix (pol := 0) Tryz.func105 rfl (by kernel_rfl) fun args bin ob r bout hDe hob => ?_
  unfold sp105 at hDe
  split at hDe
  · rename_i a0 a1
    cases hDe
    exact ⟨rfl, rfl, Nat.le_of_ble_eq_true (by kernel_rfl), cx105 ((decL decI) a0) a1, Eq.mp (by kernel_rfl) htt, Eq.mp (by kernel_rfl) da105, Eq.mp (by kernel_rfl) (noM_sound (P := Tryz.prog)), by kernel_rfl, [encL encI 1 (((decL decI) a0)), .int .i64 (a1)], args_of_vles (⟨hob.1, VLe.refl _, trivial⟩), Eq.mp (by kernel_rfl) (bd105 ((decL decI) a0) a1 (hob.2))⟩
  · cases hDe

def szMsgF (m : Msg) (left : Int) : Int := if szLen m.certs.length left < 0 then -1 else if szLen m.refs.length (szLen m.certs.length left) < 0 then -1 else szLen m.refs.length (szLen m.certs.length left)
theorem szLen_le {n : Nat} {left : Int} : szLen n left ≤ left ∨ left < 0 := by unfold szLen; split <;> omega

/-! ### laws.szMsg -/
def pr62 (m : Msg) (left : Int) : Prop := 0 ≤ left ∧ left ≤ most ∧ m.bd
noncomputable def rs62 (m : Msg) (left : Int) : V := .int .i64 (szMsgF m left)
noncomputable def sp62 : FSpec := fun args bin => match args, bin with
  | [a0, .int .i64 a1], [] => some (VLe a0 (encMsg 1 ((decMsg a0))) ∧ pr62 (decMsg a0) a1, rs62 (decMsg a0) a1, [])
  | _, _ => none
noncomputable def D62 : Nat → Option (Bool × FSpec) := lk [(104, (false, sp104)), (105, (false, sp105))]
theorem da62 : SoundAll Tryz.prog D62 := soundAll_cons so104 (soundAll_cons so105 (soundAll_nil))
noncomputable def cx62 (m : Msg) (left : Int) : Cx := ⟨tt, D62, Tryz.f62.ntmps, [0, 1, 2, 4, 10, 16], [], [], fun _ => none, [], noM, []⟩
theorem bd62 (m : Msg) (left : Int) (hpre : pr62 m left) : bodyP (cx62 m left) Tryz.f62 0 [encMsg 1 (m), .int .i64 (left)] (fun rr => VLe rr (rs62 m left)) := by
  have key :
      (((VLe (encL (encCert 1) 1 (Msg.certs m))
   (encL (encCert 1) 1 (decL decCert (encL (encCert 1) 1 (Msg.certs m))))) ∧
   (pr104 (decL decCert (encL (encCert 1) 1 (Msg.certs m))) left)) ∧
   (((decide (szLen (List.length (decL decCert (encL (encCert 1) 1 (Msg.certs m)))) left < (0 : Int)) = true) →
   (VLe (V.int IntKind.i64 (-1 : Int)) (V.int IntKind.i64 (szMsgF m left)))) ∧
   ((decide (szLen (List.length (decL decCert (encL (encCert 1) 1 (Msg.certs m)))) left < (0 : Int)) = false) →
   (((VLe (encL encI 1 (Msg.refs m)) (encL encI 1 (decL decI (encL encI 1 (Msg.refs m))))) ∧
   (pr105 (decL decI (encL encI 1 (Msg.refs m)))
   (szLen (List.length (decL decCert (encL (encCert 1) 1 (Msg.certs m)))) left))) ∧
   (((decide
   (szLen (List.length (decL decI (encL encI 1 (Msg.refs m))))
   (szLen (List.length (decL decCert (encL (encCert 1) 1 (Msg.certs m)))) left) <
   (0 : Int)) =
   true) →
   (VLe (V.int IntKind.i64 (-1 : Int)) (V.int IntKind.i64 (szMsgF m left)))) ∧
   ((decide
   (szLen (List.length (decL decI (encL encI 1 (Msg.refs m))))
   (szLen (List.length (decL decCert (encL (encCert 1) 1 (Msg.certs m)))) left) <
   (0 : Int)) =
   false) →
   (VLe
   (V.int IntKind.i64
   (szLen (List.length (decL decI (encL encI 1 (Msg.refs m))))
   (szLen (List.length (decL decCert (encL (encCert 1) 1 (Msg.certs m)))) left)))
   (V.int IntKind.i64 (szMsgF m left))))))))) := by
    unfold pr62 Msg.bd at hpre
    have := @szLen_le m.certs.length left
    simp [szMsgF, pr104, pr105]
    grind
  exact Eq.mp (by kernel_rfl) key
theorem so62 : Sound Tryz.prog 62 sp62 := by
  refine sound_of_body hmix (pol := 0) Tryz.func62 rfl (by kernel_rfl) fun args bin ob r bout hDe hob => ?_
  unfold sp62 at hDe
  split at hDe
  · rename_i a0 a1
    cases hDe
    exact ⟨rfl, rfl, Nat.le_of_ble_eq_true (by kernel_rfl), cx62 (decMsg a0) a1, Eq.mp (by kernel_rfl) htt, Eq.mp (by kernel_rfl) da62, Eq.mp (by kernel_rfl) (noM_sound (P := Tryz.prog)), by kernel_rfl, [encMsg 1 ((decMsg a0)), .int .i64 (a1)], args_of_vles (⟨hob.1, VLe.refl _, trivial⟩), Eq.mp (by kernel_rfl) (bd62 (decMsg a0) a1 (hob.2))⟩
  · cases hDe

/-! ### laws.toMsg -/
def pr64 (m : Msg) : Prop := m.certs.length ≤ most ∧ m.refs.length ≤ most
noncomputable def rs64 (m : Msg) : V := encMsg 2 (m)
noncomputable def sp64 : FSpec := fun args bin => match args, bin with
  | [a0], [] => some (VLe a0 (encMsg 1 ((decMsg a0))) ∧ pr64 (decMsg a0), rs64 (decMsg a0), [])
  | _, _ => none
noncomputable def D64 : Nat → Option (Bool × FSpec) := lk [(107, (false, sp107)), (108, (false, sp108))]
theorem da64 : SoundAll Tryz.prog D64 := soundAll_cons so107 (soundAll_cons so108 (soundAll_nil))
noncomputable def cx64 (m : Msg) : Cx := ⟨tt, D64, Tryz.f64.ntmps, [0, 1, 2, 3], [], [], fun _ => none, [], noM, []⟩
theorem bd64 (m : Msg) (hpre : pr64 m) : bodyP (cx64 m) Tryz.f64 1 [encMsg 1 (m)] (fun rr => VLe rr (rs64 m)) := by
  have key :
      (((VLe (encL (encCert 1) 1 (Msg.certs m))
   (encL (encCert 1) 1 (decL decCert (encL (encCert 1) 1 (Msg.certs m))))) ∧
   (pr107 (decL decCert (encL (encCert 1) 1 (Msg.certs m))))) ∧
   (((VLe (encL encI 1 (Msg.refs m)) (encL encI 1 (decL decI (encL encI 1 (Msg.refs m))))) ∧
   (pr108 (decL decI (encL encI 1 (Msg.refs m))))) ∧
   (VLe
   (V.agg
   [V.int IntKind.i64 (Msg.kind m), V.int IntKind.i64 (Msg.view m), V.int IntKind.i64 (Msg.sender m),
   V.int IntKind.i64 (Msg.slot m), V.int IntKind.i64 (Msg.value m),
   encL (encCert 1) 2 (decL decCert (encL (encCert 1) 1 (Msg.certs m))),
   encL encI 2 (decL decI (encL encI 1 (Msg.refs m)))])
   (encMsg 2 m)))) := by
    unfold pr64 at hpre
    simp [pr107, pr108, pr143, hpre]
    exact VLe.refl _
  exact Eq.mp (by kernel_rfl) key
theorem so64 : Sound Tryz.prog 64 sp64 := by
  refine sound_of_body hmix (pol := 1) Tryz.func64 rfl (by kernel_rfl) fun args bin ob r bout hDe hob => ?_
  unfold sp64 at hDe
  split at hDe
  · rename_i a0
    cases hDe
    exact ⟨rfl, rfl, Nat.le_of_ble_eq_true (by kernel_rfl), cx64 (decMsg a0), Eq.mp (by kernel_rfl) htt, Eq.mp (by kernel_rfl) da64, Eq.mp (by kernel_rfl) (noM_sound (P := Tryz.prog)), by kernel_rfl, [encMsg 1 ((decMsg a0))], args_of_vles (⟨hob.1, trivial⟩), Eq.mp (by kernel_rfl) (bd64 (decMsg a0) (hob.2))⟩
  · cases hDe

/-! ### laws.eqMsg -/
def pr67 (a : Msg) (b : Msg) : Prop := a.bd
noncomputable def rs67 (a : Msg) (b : Msg) : V := .bool (decide (a = b))
noncomputable def sp67 : FSpec := fun args bin => match args, bin with
  | [a0, a1], [] => some (VLe a0 (encMsg 1 ((decMsg a0))) ∧ VLe a1 (encMsg 1 ((decMsg a1))) ∧ pr67 (decMsg a0) (decMsg a1), rs67 (decMsg a0) (decMsg a1), [])
  | _, _ => none
noncomputable def D67 : Nat → Option (Bool × FSpec) := lk [(110, (false, sp110)), (111, (false, sp111))]
theorem da67 : SoundAll Tryz.prog D67 := soundAll_cons so110 (soundAll_cons so111 (soundAll_nil))
noncomputable def cx67 (a : Msg) (b : Msg) : Cx := ⟨tt, D67, Tryz.f67.ntmps, [0, 1, 2, 3, 4, 9, 14, 19, 24, 29, 35, 41], [], [], fun _ => none, [], noM, []⟩
theorem bd67 (a : Msg) (b : Msg) (hpre : pr67 a b) : bodyP (cx67 a b) Tryz.f67 0 [encMsg 1 (a), encMsg 1 (b)] (fun rr => VLe rr (rs67 a b)) := by
  have key :
      ((((Msg.kind a != Msg.kind b) = true) →
   (VLe (V.bool false) (V.bool (decide (a = b))))) ∧
   (((Msg.kind a != Msg.kind b) = false) →
   ((((Msg.view a != Msg.view b) = true) →
   (VLe (V.bool false) (V.bool (decide (a = b))))) ∧
   (((Msg.view a != Msg.view b) = false) →
   ((((Msg.sender a != Msg.sender b) = true) →
   (VLe (V.bool false) (V.bool (decide (a = b))))) ∧
   (((Msg.sender a != Msg.sender b) = false) →
   ((((Msg.slot a != Msg.slot b) = true) →
   (VLe (V.bool false) (V.bool (decide (a = b))))) ∧
   (((Msg.slot a != Msg.slot b) = false) →
   ((((Msg.value a != Msg.value b) = true) →
   (VLe (V.bool false) (V.bool (decide (a = b))))) ∧
   (((Msg.value a != Msg.value b) = false) →
   (((VLe (encL (encCert 1) 1 (Msg.certs a))
   (encL (encCert 1) 1 (decL decCert (encL (encCert 1) 1 (Msg.certs a))))) ∧
   ((VLe (encL (encCert 1) 1 (Msg.certs b))
   (encL (encCert 1) 1 (decL decCert (encL (encCert 1) 1 (Msg.certs b))))) ∧
   (pr110 (decL decCert (encL (encCert 1) 1 (Msg.certs a)))
   (decL decCert (encL (encCert 1) 1 (Msg.certs b)))))) ∧
   ((((!decide
   (decL decCert (encL (encCert 1) 1 (Msg.certs a)) =
   decL decCert (encL (encCert 1) 1 (Msg.certs b)))) =
   true) →
   (VLe (V.bool false) (V.bool (decide (a = b))))) ∧
   (((!decide
   (decL decCert (encL (encCert 1) 1 (Msg.certs a)) =
   decL decCert (encL (encCert 1) 1 (Msg.certs b)))) =
   false) →
   (((VLe (encL encI 1 (Msg.refs a)) (encL encI 1 (decL decI (encL encI 1 (Msg.refs a))))) ∧
   ((VLe (encL encI 1 (Msg.refs b)) (encL encI 1 (decL decI (encL encI 1 (Msg.refs b))))) ∧
   (pr111 (decL decI (encL encI 1 (Msg.refs a))) (decL decI (encL encI 1 (Msg.refs b)))))) ∧
   ((((!decide (decL decI (encL encI 1 (Msg.refs a)) = decL decI (encL encI 1 (Msg.refs b)))) = true) →
   (VLe (V.bool false) (V.bool (decide (a = b))))) ∧
   (((!decide (decL decI (encL encI 1 (Msg.refs a)) = decL decI (encL encI 1 (Msg.refs b)))) = false) →
   (VLe (V.bool true) (V.bool (decide (a = b)))))))))))))))))))) := by
    unfold pr67 Msg.bd at hpre
    repeat' (first | apply And.intro | intro _)
    all_goals simp_all [pr110, pr111, pr145, eq_Msg]
  exact Eq.mp (by kernel_rfl) key
theorem so67 : Sound Tryz.prog 67 sp67 := by
  refine sound_of_body hmix (pol := 0) Tryz.func67 rfl (by kernel_rfl) fun args bin ob r bout hDe hob => ?_
  unfold sp67 at hDe
  split at hDe
  · rename_i a0 a1
    cases hDe
    exact ⟨rfl, rfl, Nat.le_of_ble_eq_true (by kernel_rfl), cx67 (decMsg a0) (decMsg a1), Eq.mp (by kernel_rfl) htt, Eq.mp (by kernel_rfl) da67, Eq.mp (by kernel_rfl) (noM_sound (P := Tryz.prog)), by kernel_rfl, [encMsg 1 ((decMsg a0)), encMsg 1 ((decMsg a1))], args_of_vles (⟨hob.1, hob.2.1, trivial⟩), Eq.mp (by kernel_rfl) (bd67 (decMsg a0) (decMsg a1) (hob.2.2))⟩
  · cases hDe

end Go.Av
