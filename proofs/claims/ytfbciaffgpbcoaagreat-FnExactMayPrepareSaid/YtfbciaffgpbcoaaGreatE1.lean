/- The laws' own helpers: copies, comparisons, sizes. -/
import Derived.Test.YtfbciaffgpbcoaaGreatE0
namespace Go.Av
open Go.Proofs
set_option maxRecDepth 100000
set_option linter.unusedVariables false
set_option linter.unusedSimpArgs false

/-- A size that is taken off what is left. -/
def szLen (n : Nat) (left : Int) : Int := if left - n < 0 then -1 else left - n
theorem zele_I : ELe (.int .i64 0) (encI default) := ELe.refl _
theorem zele_Cert : ELe (.agg [.int .i64 0, .int .i64 0, .int .i64 0]) (encCert 1 default) := ELe.refl _
theorem zele_Msg : ELe (.agg [.int .i64 0, .int .i64 0, .int .i64 0, .int .i64 0, .int .i64 0, .nil, .nil]) (encMsg 1 default) :=
  ele_of ⟨PLe.refl _, PLe.refl _, PLe.refl _, PLe.refl _, PLe.refl _, ple_nil _ _, ple_nil _ _, trivial⟩


/-! ### laws.toInt64S -/
def pr24 (xs : List Int) : Prop := xs.length ≤ most
noncomputable def rs24 (xs : List Int) : V := encL encI 2 (xs)
noncomputable def sp24 : FSpec := fun args bin => match args, bin with
  | [a0], [] => some (VLe a0 (encL encI 1 (((decL decI) a0))) ∧ pr24 ((decL decI) a0), rs24 ((decL decI) a0), [])
  | _, _ => none
noncomputable def in24_3 (xs : List Int) : LoopInv :=
  ⟨Nat × List Int, fun p => ⟨[(0, encL encI 1 xs), (3, .osl (canonT 3) xs.length), (4, .int .i64 p.1)], [(canonT 3, .arr 1 xs.length (gL encI p.2) tagS)]⟩,
    fun p => p.1 ≤ xs.length ∧ p.2.length = xs.length ∧ ∀ j, j < p.1 → p.2.getD j default = xs.getD j default, fun p => xs.length - p.1⟩
noncomputable def iv24 (xs : List Int) : Nat → Option LoopInv := fun rg_ => match rg_ with
  | 3 => some (in24_3 xs)
  | _ => none
noncomputable def D24 : Nat → Option (Bool × FSpec) := lk []
theorem da24 : SoundAll Tryz.prog D24 := soundAll_nil
noncomputable def cx24 (xs : List Int) : Cx := ⟨tt, D24, Tryz.f24.ntmps, [0, 2, 3, 4, 11], [(3, ⟨[(0, none), (3, some 1), (4, none)], []⟩)], [], iv24 xs, [], noM, []⟩
theorem bd24 (xs : List Int) (hpre : pr24 xs) : bodyP (cx24 xs) Tryz.f24 1 [encL encI 1 (xs)] (fun rr => VLe rr (rs24 xs)) := by
  have key :
      ((((0 : Int) ≤ (↑(List.length xs) : Int)) ∧
   (((↑(List.length xs) : Int) ≤ (↑(List.length xs) : Int)) ∧
   ((↑(List.length xs) : Int) ≤ (↑1073741824 : Int)))) ∧
   ((∃ x : Nat × List Int, ((SLe
   (AS.mk
   [(0, encL encI 1 xs), (3, V.osl 32000256 (Int.toNat (↑(List.length xs) : Int))),
   (4, V.int IntKind.i64 (0 : Int))]
   [(32000256,
   Blk.arr 1 (Int.toNat (↑(List.length xs) : Int)) (fun (x : Nat) ↦ V.int IntKind.i64 (0 : Int))
   100)])
   (AS.mk
   [(0, encL encI 1 xs), (3, V.osl 32000256 (List.length xs)),
   (4, V.int IntKind.i64 (↑(Prod.fst x) : Int))]
   [(32000256, Blk.arr 1 (List.length xs) (gL encI (Prod.snd x)) 100)])) ∧
   ((Prod.fst x ≤ List.length xs) ∧
   ((List.length (Prod.snd x) = List.length xs) ∧
   (∀ j : Nat,
   ((j < Prod.fst x) →
   (List.getD (Prod.snd x) j default = List.getD xs j default))))))) ∧
   (∀ x : Nat × List Int,
   (((Prod.fst x ≤ List.length xs) ∧
   ((List.length (Prod.snd x) = List.length xs) ∧
   (∀ j : Nat,
   ((j < Prod.fst x) →
   (List.getD (Prod.snd x) j default = List.getD xs j default))))) →
   (((decide ((↑(Prod.fst x) : Int) < (↑(List.length xs) : Int)) = true) →
   ((((0 : Int) ≤ (↑(Prod.fst x) : Int)) ∧
   ((↑(Prod.fst x) : Int) < (↑(List.length xs) : Int))) ∧
   ((((0 : Int) ≤ (↑(Prod.fst x) : Int)) ∧
   ((↑(Prod.fst x) : Int) < (↑(List.length xs) : Int))) ∧
   ((Int.toNat (↑(Prod.fst x) : Int) < List.length xs) ∧
   ((inK IntKind.i64 ((↑(Prod.fst x) : Int) + (1 : Int))) ∧
   (∃ y : Nat × List Int, ((SLe
   (AS.mk
   [(0, encL encI 1 xs), (3, V.osl 32000256 (List.length xs)),
   (4, V.int IntKind.i64 ((↑(Prod.fst x) : Int) + (1 : Int)))]
   [(32000256,
   Blk.arr 1 (List.length xs)
   (setg (gL encI (Prod.snd x)) (Int.toNat (↑(Prod.fst x) : Int))
   (V.int IntKind.i64 (List.getD xs (Int.toNat (↑(Prod.fst x) : Int)) default)))
   100)])
   (AS.mk
   [(0, encL encI 1 xs), (3, V.osl 32000256 (List.length xs)),
   (4, V.int IntKind.i64 (↑(Prod.fst y) : Int))]
   [(32000256, Blk.arr 1 (List.length xs) (gL encI (Prod.snd y)) 100)])) ∧
   (((Prod.fst y ≤ List.length xs) ∧
   ((List.length (Prod.snd y) = List.length xs) ∧
   (∀ j : Nat,
   ((j < Prod.fst y) →
   (List.getD (Prod.snd y) j default = List.getD xs j default))))) ∧
   (List.length xs - Prod.fst y < List.length xs - Prod.fst x))))))))) ∧
   ((decide ((↑(Prod.fst x) : Int) < (↑(List.length xs) : Int)) = false) →
   (VLe (V.sl (List.length xs) (gL encI (Prod.snd x)) 2) (encL encI 2 xs)))))))) := by
    unfold pr24 most at hpre
    refine ⟨⟨by omega, by omega, by omega⟩, ⟨(0, List.replicate xs.length default), ?_, by simp, by simp, fun j hj => absurd hj (Nat.not_lt_zero j)⟩, ?_⟩
    · refine sle_of ⟨rfl, VLe.refl _, rfl, VLe.refl _, rfl, VLe.refl _, trivial⟩ ⟨rfl, ?_, trivial⟩
      refine ble_arr (fun i hi => ?_) (Or.inl rfl)
      have hi' : i < xs.length := hi
      have e1 : gL encI (List.replicate xs.length default) i = encI default := by simp [gL, hi']
      rw [e1]
      exact zele_I
    · rintro ⟨i, ys⟩ ⟨hi, hl, hj⟩
      simp only at hi hl hj ⊢
      refine ⟨fun h => ?_, fun h => ?_⟩
      · have hlt : i < xs.length := by simpa using h
        refine ⟨⟨by omega, by omega⟩, ⟨by omega, by omega⟩, by simpa using hlt, inK64 (by omega), (i + 1, ys.set i (xs.getD i default)), ?_, ⟨by simp only; omega, by simpa using hl, fun j h2 => ?_⟩, by simp only; omega⟩
        · refine sle_of ⟨rfl, VLe.refl _, rfl, VLe.refl _, rfl, vle_int (by simp), trivial⟩ ⟨rfl, ?_, trivial⟩
          refine ble_arr (fun k hk => ?_) (Or.inl rfl)
          simp only [setg, gL, Int.toNat_natCast]
          by_cases e : k = i
          · subst e
            rw [if_pos rfl, getD_set_eq _ _ _ _ (by omega)]
            exact ELe.refl _
          · rw [if_neg e, getD_set_ne _ _ _ _ e]
            exact ELe.refl _
        · simp only at h2 ⊢
          by_cases e : j = i
          · subst e; rw [getD_set_eq _ _ _ _ (by omega)]
          · rw [getD_set_ne _ _ _ _ e]; exact hj j (by omega)
      · have hge : i = xs.length := by simp at h; omega
        refine vle_sl (fun k hk => ?_) (Or.inl rfl)
        simp only [gL]
        rw [hj k (by omega)]
        exact ELe.refl _
  exact Eq.mp (by kernel_rfl) key
theorem so24 : Sound Tryz.prog 24 sp24 := by
  refine sound_of_body hmix (pol := 1) Tryz.func24 rfl (by kernel_rfl) fun args bin ob r bout hDe hob => ?_
  unfold sp24 at hDe
  split at hDe
  · rename_i a0
    cases hDe
    exact ⟨rfl, rfl, Nat.le_of_ble_eq_true (by kernel_rfl), cx24 ((decL decI) a0), Eq.mp (by kernel_rfl) htt, Eq.mp (by kernel_rfl) da24, Eq.mp (by kernel_rfl) (noM_sound (P := Tryz.prog)), by kernel_rfl, [encL encI 1 (((decL decI) a0))], args_of_vles (⟨hob.1, trivial⟩), Eq.mp (by kernel_rfl) (bd24 ((decL decI) a0) (hob.2))⟩
  · cases hDe

/-! ### laws.eqInt64S -/
def pr31 (xs : List Int) (ys : List Int) : Prop := xs.length ≤ maxLen
noncomputable def rs31 (xs : List Int) (ys : List Int) : V := .bool (decide (xs = ys))
noncomputable def sp31 : FSpec := fun args bin => match args, bin with
  | [a0, a1], [] => some (VLe a0 (encL encI 1 (((decL decI) a0))) ∧ VLe a1 (encL encI 1 (((decL decI) a1))) ∧ pr31 ((decL decI) a0) ((decL decI) a1), rs31 ((decL decI) a0) ((decL decI) a1), [])
  | _, _ => none
noncomputable def in31_4 (xs : List Int) (ys : List Int) : LoopInv :=
  ⟨Nat, fun i => ⟨[(0, encL encI 1 xs), (1, encL encI 1 ys), (5, .int .i64 i)], []⟩,
    fun i => i ≤ xs.length ∧ xs.length = ys.length ∧ ∀ j, j < i → xs.getD j default = ys.getD j default, fun i => xs.length - i⟩
noncomputable def iv31 (xs : List Int) (ys : List Int) : Nat → Option LoopInv := fun rg_ => match rg_ with
  | 4 => some (in31_4 xs ys)
  | _ => none
noncomputable def D31 : Nat → Option (Bool × FSpec) := lk []
theorem da31 : SoundAll Tryz.prog D31 := soundAll_nil
noncomputable def cx31 (xs : List Int) (ys : List Int) : Cx := ⟨tt, D31, Tryz.f31.ntmps, [0, 1, 4, 5, 10, 14, 25], [(4, ⟨[(0, none), (1, none), (5, none)], []⟩)], [], iv31 xs ys, [], noM, []⟩
theorem bd31 (xs : List Int) (ys : List Int) (hpre : pr31 xs ys) : bodyP (cx31 xs ys) Tryz.f31 0 [encL encI 1 (xs), encL encI 1 (ys)] (fun rr => VLe rr (rs31 xs ys)) := by
  have key :
      (((((↑(List.length xs) : Int) != (↑(List.length ys) : Int)) = true) →
   (VLe (V.bool false) (V.bool (decide (xs = ys))))) ∧
   ((((↑(List.length xs) : Int) != (↑(List.length ys) : Int)) = false) →
   ((∃ x : Nat, ((SLe
   (AS.mk
   [(0, encL encI 1 xs), (1, encL encI 1 ys), (5, V.int IntKind.i64 (0 : Int))]
   [])
   (AS.mk
   [(0, encL encI 1 xs), (1, encL encI 1 ys),
   (5, V.int IntKind.i64 (↑x : Int))]
   [])) ∧
   ((x ≤ List.length xs) ∧
   ((List.length xs = List.length ys) ∧
   (∀ j : Nat,
   ((j < x) →
   (List.getD xs j default = List.getD ys j default))))))) ∧
   (∀ x : Nat,
   (((x ≤ List.length xs) ∧
   ((List.length xs = List.length ys) ∧
   (∀ j : Nat,
   ((j < x) →
   (List.getD xs j default = List.getD ys j default))))) →
   (((decide ((↑x : Int) < (↑(List.length xs) : Int)) = true) →
   ((((0 : Int) ≤ (↑x : Int)) ∧
   ((↑x : Int) < (↑(List.length xs) : Int))) ∧
   ((((0 : Int) ≤ (↑x : Int)) ∧
   ((↑x : Int) < (↑(List.length ys) : Int))) ∧
   ((((List.getD xs (Int.toNat (↑x : Int)) default != List.getD ys (Int.toNat (↑x : Int)) default) = true) →
   (VLe (V.bool false) (V.bool (decide (xs = ys))))) ∧
   (((List.getD xs (Int.toNat (↑x : Int)) default != List.getD ys (Int.toNat (↑x : Int)) default) = false) →
   ((inK IntKind.i64 ((↑x : Int) + (1 : Int))) ∧
   (∃ y : Nat, ((SLe
   (AS.mk
   [(0, encL encI 1 xs), (1, encL encI 1 ys),
   (5, V.int IntKind.i64 ((↑x : Int) + (1 : Int)))]
   [])
   (AS.mk
   [(0, encL encI 1 xs), (1, encL encI 1 ys),
   (5, V.int IntKind.i64 (↑y : Int))]
   [])) ∧
   (((y ≤ List.length xs) ∧
   ((List.length xs = List.length ys) ∧
   (∀ j : Nat,
   ((j < y) →
   (List.getD xs j default = List.getD ys j default))))) ∧
   (List.length xs - y < List.length xs - x)))))))))) ∧
   ((decide ((↑x : Int) < (↑(List.length xs) : Int)) = false) →
   (VLe (V.bool true) (V.bool (decide (xs = ys))))))))))) := by
    unfold pr31 maxLen at hpre
    refine ⟨fun h => ?_, fun h => ?_⟩
    · refine vle_bool ?_
      have hne : xs ≠ ys := fun e => by subst e; simp at h
      simp [hne]
    · have hlen : xs.length = ys.length := by simp at h; omega
      refine ⟨⟨0, SLe.refl _, by omega, hlen, fun j hj => absurd hj (Nat.not_lt_zero j)⟩, ?_⟩
      rintro i ⟨hi, _, hj⟩
      refine ⟨fun h => ?_, fun h => ?_⟩
      · have hlt : i < xs.length := by simpa using h
        simp only [Int.toNat_natCast]
        refine ⟨⟨by omega, by omega⟩, ⟨by omega, by omega⟩, fun h2 => ?_, fun h2 => ⟨inK64 (by omega), i + 1, SLe.refl _, ⟨by omega, hlen, fun j h3 => ?_⟩, by omega⟩⟩
        · refine vle_bool ?_
          have hne : xs ≠ ys := fun e => by subst e; simp at h2
          simp [hne]
        · rcases Nat.lt_or_ge j i with h4 | h4
          · exact hj j h4
          · have : j = i := by omega
            subst this
            simpa using h2
      · refine vle_bool ?_
        have hge : i = xs.length := by simp at h; omega
        have heq : xs = ys := by
          refine List.ext_getElem hlen fun k h1 h2 => ?_
          have := hj k (by omega)
          simpa [h1, h2] using this
        simp [heq]
  exact Eq.mp (by kernel_rfl) key
theorem so31 : Sound Tryz.prog 31 sp31 := by
  refine sound_of_body hmix (pol := 0) Tryz.func31 rfl (by kernel_rfl) fun args bin ob r bout hDe hob => ?_
  unfold sp31 at hDe
  split at hDe
  · rename_i a0 a1
    cases hDe
    exact ⟨rfl, rfl, Nat.le_of_ble_eq_true (by kernel_rfl), cx31 ((decL decI) a0) ((decL decI) a1), Eq.mp (by kernel_rfl) htt, Eq.mp (by kernel_rfl) da31, Eq.mp (by kernel_rfl) (noM_sound (P := Tryz.prog)), by kernel_rfl, [encL encI 1 (((decL decI) a0)), encL encI 1 (((decL decI) a1))], args_of_vles (⟨hob.1, hob.2.1, trivial⟩), Eq.mp (by kernel_rfl) (bd31 ((decL decI) a0) ((decL decI) a1) (hob.2.2))⟩
  · cases hDe

/-! ### laws.toCert -/
def pr41 (x : Cert) : Prop := True
noncomputable def rs41 (x : Cert) : V := encCert 2 (x)
noncomputable def sp41 : FSpec := fun args bin => match args, bin with
  | [a0], [] => some (VLe a0 (encCert 1 ((decCert a0))) ∧ pr41 (decCert a0), rs41 (decCert a0), [])
  | _, _ => none
noncomputable def D41 : Nat → Option (Bool × FSpec) := lk []
theorem da41 : SoundAll Tryz.prog D41 := soundAll_nil
noncomputable def cx41 (x : Cert) : Cx := ⟨tt, D41, Tryz.f41.ntmps, [0, 1, 2, 3], [], [], fun _ => none, [], noM, []⟩
theorem bd41 (x : Cert) (hpre : pr41 x) : bodyP (cx41 x) Tryz.f41 1 [encCert 1 (x)] (fun rr => VLe rr (rs41 x)) := by
  have key :
      (VLe (encCert 1 x) (encCert 1 x)) := by
    exact vle_agg ⟨VLe.refl _, VLe.refl _, VLe.refl _, trivial⟩
  exact Eq.mp (by kernel_rfl) key
theorem so41 : Sound Tryz.prog 41 sp41 := by
  refine sound_of_body hmix (pol := 1) Tryz.func41 rfl (by kernel_rfl) fun args bin ob r bout hDe hob => ?_
  unfold sp41 at hDe
  split at hDe
  · rename_i a0
    cases hDe
    exact ⟨rfl, rfl, Nat.le_of_ble_eq_true (by kernel_rfl), cx41 (decCert a0), Eq.mp (by kernel_rfl) htt, Eq.mp (by kernel_rfl) da41, Eq.mp (by kernel_rfl) (noM_sound (P := Tryz.prog)), by kernel_rfl, [encCert 1 ((decCert a0))], args_of_vles (⟨hob.1, trivial⟩), Eq.mp (by kernel_rfl) (bd41 (decCert a0) (hob.2))⟩
  · cases hDe

/-! ### laws.toCertS -/
def pr23 (xs : List Cert) : Prop := xs.length ≤ most ∧ ∀ x ∈ xs, pr41 x
noncomputable def rs23 (xs : List Cert) : V := encL (encCert 1) 2 (xs)
noncomputable def sp23 : FSpec := fun args bin => match args, bin with
  | [a0], [] => some (VLe a0 (encL (encCert 1) 1 (((decL decCert) a0))) ∧ pr23 ((decL decCert) a0), rs23 ((decL decCert) a0), [])
  | _, _ => none
noncomputable def in23_3 (xs : List Cert) : LoopInv :=
  ⟨Nat × List Cert, fun p => ⟨[(0, encL (encCert 1) 1 xs), (3, .osl (canonT 3) xs.length), (4, .int .i64 p.1)], [(canonT 3, .arr 3 xs.length (gL (encCert 1) p.2) tagS)]⟩,
    fun p => p.1 ≤ xs.length ∧ p.2.length = xs.length ∧ ∀ j, j < p.1 → p.2.getD j default = xs.getD j default, fun p => xs.length - p.1⟩
noncomputable def iv23 (xs : List Cert) : Nat → Option LoopInv := fun rg_ => match rg_ with
  | 3 => some (in23_3 xs)
  | _ => none
noncomputable def D23 : Nat → Option (Bool × FSpec) := lk [(41, (false, sp41))]
theorem da23 : SoundAll Tryz.prog D23 := soundAll_cons so41 (soundAll_nil)
noncomputable def cx23 (xs : List Cert) : Cx := ⟨tt, D23, Tryz.f23.ntmps, [0, 2, 3, 4, 11], [(3, ⟨[(0, none), (3, some 3), (4, none)], []⟩)], [], iv23 xs, [], noM, []⟩
theorem bd23 (xs : List Cert) (hpre : pr23 xs) : bodyP (cx23 xs) Tryz.f23 1 [encL (encCert 1) 1 (xs)] (fun rr => VLe rr (rs23 xs)) := by
  have key :
      ((((0 : Int) ≤ (↑(List.length xs) : Int)) ∧
   (((↑(List.length xs) : Int) ≤ (↑(List.length xs) : Int)) ∧
   ((↑(List.length xs) : Int) ≤ (↑1073741824 : Int)))) ∧
   ((∃ x : Nat × List Cert, ((SLe
   (AS.mk
   [(0, encL (encCert 1) 1 xs),
   (3, V.osl 32000256 (Int.toNat (↑(List.length xs) : Int))),
   (4, V.int IntKind.i64 (0 : Int))]
   [(32000256,
   Blk.arr 3 (Int.toNat (↑(List.length xs) : Int))
   (fun (x : Nat) ↦
   V.agg [V.int IntKind.i64 (0 : Int), V.int IntKind.i64 (0 : Int), V.int IntKind.i64 (0 : Int)])
   100)])
   (AS.mk
   [(0, encL (encCert 1) 1 xs), (3, V.osl 32000256 (List.length xs)),
   (4, V.int IntKind.i64 (↑(Prod.fst x) : Int))]
   [(32000256, Blk.arr 3 (List.length xs) (gL (encCert 1) (Prod.snd x)) 100)])) ∧
   ((Prod.fst x ≤ List.length xs) ∧
   ((List.length (Prod.snd x) = List.length xs) ∧
   (∀ j : Nat,
   ((j < Prod.fst x) →
   (List.getD (Prod.snd x) j default = List.getD xs j default))))))) ∧
   (∀ x : Nat × List Cert,
   (((Prod.fst x ≤ List.length xs) ∧
   ((List.length (Prod.snd x) = List.length xs) ∧
   (∀ j : Nat,
   ((j < Prod.fst x) →
   (List.getD (Prod.snd x) j default = List.getD xs j default))))) →
   (((decide ((↑(Prod.fst x) : Int) < (↑(List.length xs) : Int)) = true) →
   ((((0 : Int) ≤ (↑(Prod.fst x) : Int)) ∧
   ((↑(Prod.fst x) : Int) < (↑(List.length xs) : Int))) ∧
   (((VLe (encCert 1 (List.getD xs (Int.toNat (↑(Prod.fst x) : Int)) default))
   (encCert 1 (decCert (encCert 1 (List.getD xs (Int.toNat (↑(Prod.fst x) : Int)) default))))) ∧
   (pr41 (decCert (encCert 1 (List.getD xs (Int.toNat (↑(Prod.fst x) : Int)) default))))) ∧
   ((((0 : Int) ≤ (↑(Prod.fst x) : Int)) ∧
   ((↑(Prod.fst x) : Int) < (↑(List.length xs) : Int))) ∧
   ((Int.toNat (↑(Prod.fst x) : Int) < List.length xs) ∧
   ((inK IntKind.i64 ((↑(Prod.fst x) : Int) + (1 : Int))) ∧
   (∃ y : Nat × List Cert, ((SLe
   (AS.mk
   [(0, encL (encCert 1) 1 xs), (3, V.osl 32000256 (List.length xs)),
   (4, V.int IntKind.i64 ((↑(Prod.fst x) : Int) + (1 : Int)))]
   [(32000256,
   Blk.arr 3 (List.length xs)
   (setg (gL (encCert 1) (Prod.snd x)) (Int.toNat (↑(Prod.fst x) : Int))
   (encCert 1 (decCert (encCert 1 (List.getD xs (Int.toNat (↑(Prod.fst x) : Int)) default)))))
   100)])
   (AS.mk
   [(0, encL (encCert 1) 1 xs), (3, V.osl 32000256 (List.length xs)),
   (4, V.int IntKind.i64 (↑(Prod.fst y) : Int))]
   [(32000256, Blk.arr 3 (List.length xs) (gL (encCert 1) (Prod.snd y)) 100)])) ∧
   (((Prod.fst y ≤ List.length xs) ∧
   ((List.length (Prod.snd y) = List.length xs) ∧
   (∀ j : Nat,
   ((j < Prod.fst y) →
   (List.getD (Prod.snd y) j default = List.getD xs j default))))) ∧
   (List.length xs - Prod.fst y < List.length xs - Prod.fst x)))))))))) ∧
   ((decide ((↑(Prod.fst x) : Int) < (↑(List.length xs) : Int)) = false) →
   (VLe (V.sl (List.length xs) (gL (encCert 1) (Prod.snd x)) 2) (encL (encCert 1) 2 xs)))))))) := by
    unfold pr23 most at hpre
    obtain ⟨hpre, hel⟩ := hpre
    refine ⟨⟨by omega, by omega, by omega⟩, ⟨(0, List.replicate xs.length default), ?_, by simp, by simp, fun j hj => absurd hj (Nat.not_lt_zero j)⟩, ?_⟩
    · refine sle_of ⟨rfl, VLe.refl _, rfl, VLe.refl _, rfl, VLe.refl _, trivial⟩ ⟨rfl, ?_, trivial⟩
      refine ble_arr (fun i hi => ?_) (Or.inl rfl)
      have hi' : i < xs.length := hi
      have e1 : gL (encCert 1) (List.replicate xs.length default) i = (encCert 1) default := by simp [gL, hi']
      rw [e1]
      exact zele_Cert
    · rintro ⟨i, ys⟩ ⟨hi, hl, hj⟩
      simp only at hi hl hj ⊢
      refine ⟨fun h => ?_, fun h => ?_⟩
      · have hlt : i < xs.length := by simpa using h
        have hin : xs.getD i default ∈ xs := by simp [hlt]
        simp only [dec_encCert, Int.toNat_natCast]
        refine ⟨⟨by omega, by omega⟩, ⟨VLe.refl _, hel _ hin⟩, ⟨by omega, by omega⟩, by simpa using hlt, inK64 (by omega), (i + 1, ys.set i (xs.getD i default)), ?_, ⟨by simp only; omega, by simpa using hl, fun j h2 => ?_⟩, by simp only; omega⟩
        · refine sle_of ⟨rfl, VLe.refl _, rfl, VLe.refl _, rfl, vle_int (by simp), trivial⟩ ⟨rfl, ?_, trivial⟩
          refine ble_arr (fun k hk => ?_) (Or.inl rfl)
          simp only [setg, gL, Int.toNat_natCast]
          by_cases e : k = i
          · subst e
            rw [if_pos rfl, getD_set_eq _ _ _ _ (by omega)]
            exact ele_Cert _ _ _
          · rw [if_neg e, getD_set_ne _ _ _ _ e]
            exact ELe.refl _
        · simp only at h2 ⊢
          by_cases e : j = i
          · subst e; rw [getD_set_eq _ _ _ _ (by omega)]
          · rw [getD_set_ne _ _ _ _ e]; exact hj j (by omega)
      · have hge : i = xs.length := by simp at h; omega
        refine vle_sl (fun k hk => ?_) (Or.inl rfl)
        simp only [gL]
        rw [hj k (by omega)]
        exact ELe.refl _
  exact Eq.mp (by kernel_rfl) key
theorem so23 : Sound Tryz.prog 23 sp23 := by
  refine sound_of_body hmix (pol := 1) Tryz.func23 rfl (by kernel_rfl) fun args bin ob r bout hDe hob => ?_
  unfold sp23 at hDe
  split at hDe
  · rename_i a0
    cases hDe
    exact ⟨rfl, rfl, Nat.le_of_ble_eq_true (by kernel_rfl), cx23 ((decL decCert) a0), Eq.mp (by kernel_rfl) htt, Eq.mp (by kernel_rfl) da23, Eq.mp (by kernel_rfl) (noM_sound (P := Tryz.prog)), by kernel_rfl, [encL (encCert 1) 1 (((decL decCert) a0))], args_of_vles (⟨hob.1, trivial⟩), Eq.mp (by kernel_rfl) (bd23 ((decL decCert) a0) (hob.2))⟩
  · cases hDe

/-! ### laws.eqCert -/
def pr55 (x : Cert) (y : Cert) : Prop := True
noncomputable def rs55 (x : Cert) (y : Cert) : V := .bool (decide (x = y))
noncomputable def sp55 : FSpec := fun args bin => match args, bin with
  | [a0, a1], [] => some (VLe a0 (encCert 1 ((decCert a0))) ∧ VLe a1 (encCert 1 ((decCert a1))) ∧ pr55 (decCert a0) (decCert a1), rs55 (decCert a0) (decCert a1), [])
  | _, _ => none
noncomputable def D55 : Nat → Option (Bool × FSpec) := lk []
theorem da55 : SoundAll Tryz.prog D55 := soundAll_nil
noncomputable def cx55 (x : Cert) (y : Cert) : Cx := ⟨tt, D55, Tryz.f55.ntmps, [0, 1, 2, 3, 4, 9, 14, 19], [], [], fun _ => none, [], noM, []⟩
theorem bd55 (x : Cert) (y : Cert) (hpre : pr55 x y) : bodyP (cx55 x y) Tryz.f55 0 [encCert 1 (x), encCert 1 (y)] (fun rr => VLe rr (rs55 x y)) := by
  have key :
      ((((Cert.slot x != Cert.slot y) = true) →
   (VLe (V.bool false) (V.bool (decide (x = y))))) ∧
   (((Cert.slot x != Cert.slot y) = false) →
   ((((Cert.view x != Cert.view y) = true) →
   (VLe (V.bool false) (V.bool (decide (x = y))))) ∧
   (((Cert.view x != Cert.view y) = false) →
   ((((Cert.value x != Cert.value y) = true) →
   (VLe (V.bool false) (V.bool (decide (x = y))))) ∧
   (((Cert.value x != Cert.value y) = false) →
   (VLe (V.bool true) (V.bool (decide (x = y)))))))))) := by
    simp [eq_Cert]
    grind
  exact Eq.mp (by kernel_rfl) key
theorem so55 : Sound Tryz.prog 55 sp55 := by
  refine sound_of_body hmix (pol := 0) Tryz.func55 rfl (by kernel_rfl) fun args bin ob r bout hDe hob => ?_
  unfold sp55 at hDe
  split at hDe
  · rename_i a0 a1
    cases hDe
    exact ⟨rfl, rfl, Nat.le_of_ble_eq_true (by kernel_rfl), cx55 (decCert a0) (decCert a1), Eq.mp (by kernel_rfl) htt, Eq.mp (by kernel_rfl) da55, Eq.mp (by kernel_rfl) (noM_sound (P := Tryz.prog)), by kernel_rfl, [encCert 1 ((decCert a0)), encCert 1 ((decCert a1))], args_of_vles (⟨hob.1, hob.2.1, trivial⟩), Eq.mp (by kernel_rfl) (bd55 (decCert a0) (decCert a1) (hob.2.2))⟩
  · cases hDe

/-! ### laws.eqCertS -/
def pr30 (xs : List Cert) (ys : List Cert) : Prop := xs.length ≤ maxLen ∧ ∀ x ∈ xs, ∀ y, pr55 x y
noncomputable def rs30 (xs : List Cert) (ys : List Cert) : V := .bool (decide (xs = ys))
noncomputable def sp30 : FSpec := fun args bin => match args, bin with
  | [a0, a1], [] => some (VLe a0 (encL (encCert 1) 1 (((decL decCert) a0))) ∧ VLe a1 (encL (encCert 1) 1 (((decL decCert) a1))) ∧ pr30 ((decL decCert) a0) ((decL decCert) a1), rs30 ((decL decCert) a0) ((decL decCert) a1), [])
  | _, _ => none
noncomputable def in30_4 (xs : List Cert) (ys : List Cert) : LoopInv :=
  ⟨Nat, fun i => ⟨[(0, encL (encCert 1) 1 xs), (1, encL (encCert 1) 1 ys), (5, .int .i64 i)], []⟩,
    fun i => i ≤ xs.length ∧ xs.length = ys.length ∧ ∀ j, j < i → xs.getD j default = ys.getD j default, fun i => xs.length - i⟩
noncomputable def iv30 (xs : List Cert) (ys : List Cert) : Nat → Option LoopInv := fun rg_ => match rg_ with
  | 4 => some (in30_4 xs ys)
  | _ => none
noncomputable def D30 : Nat → Option (Bool × FSpec) := lk [(55, (false, sp55))]
theorem da30 : SoundAll Tryz.prog D30 := soundAll_cons so55 (soundAll_nil)
noncomputable def cx30 (xs : List Cert) (ys : List Cert) : Cx := ⟨tt, D30, Tryz.f30.ntmps, [0, 1, 4, 5, 10, 14, 26], [(4, ⟨[(0, none), (1, none), (5, none)], []⟩)], [], iv30 xs ys, [], noM, []⟩
theorem bd30 (xs : List Cert) (ys : List Cert) (hpre : pr30 xs ys) : bodyP (cx30 xs ys) Tryz.f30 0 [encL (encCert 1) 1 (xs), encL (encCert 1) 1 (ys)] (fun rr => VLe rr (rs30 xs ys)) := by
  have key :
      (((((↑(List.length xs) : Int) != (↑(List.length ys) : Int)) = true) →
   (VLe (V.bool false) (V.bool (decide (xs = ys))))) ∧
   ((((↑(List.length xs) : Int) != (↑(List.length ys) : Int)) = false) →
   ((∃ x : Nat, ((SLe
   (AS.mk
   [(0, encL (encCert 1) 1 xs), (1, encL (encCert 1) 1 ys),
   (5, V.int IntKind.i64 (0 : Int))]
   [])
   (AS.mk
   [(0, encL (encCert 1) 1 xs), (1, encL (encCert 1) 1 ys),
   (5, V.int IntKind.i64 (↑x : Int))]
   [])) ∧
   ((x ≤ List.length xs) ∧
   ((List.length xs = List.length ys) ∧
   (∀ j : Nat,
   ((j < x) →
   (List.getD xs j default = List.getD ys j default))))))) ∧
   (∀ x : Nat,
   (((x ≤ List.length xs) ∧
   ((List.length xs = List.length ys) ∧
   (∀ j : Nat,
   ((j < x) →
   (List.getD xs j default = List.getD ys j default))))) →
   (((decide ((↑x : Int) < (↑(List.length xs) : Int)) = true) →
   ((((0 : Int) ≤ (↑x : Int)) ∧
   ((↑x : Int) < (↑(List.length xs) : Int))) ∧
   ((((0 : Int) ≤ (↑x : Int)) ∧
   ((↑x : Int) < (↑(List.length ys) : Int))) ∧
   (((VLe (encCert 1 (List.getD xs (Int.toNat (↑x : Int)) default))
   (encCert 1 (decCert (encCert 1 (List.getD xs (Int.toNat (↑x : Int)) default))))) ∧
   ((VLe (encCert 1 (List.getD ys (Int.toNat (↑x : Int)) default))
   (encCert 1 (decCert (encCert 1 (List.getD ys (Int.toNat (↑x : Int)) default))))) ∧
   (pr55 (decCert (encCert 1 (List.getD xs (Int.toNat (↑x : Int)) default)))
   (decCert (encCert 1 (List.getD ys (Int.toNat (↑x : Int)) default)))))) ∧
   ((((!decide
   (decCert (encCert 1 (List.getD xs (Int.toNat (↑x : Int)) default)) =
   decCert (encCert 1 (List.getD ys (Int.toNat (↑x : Int)) default)))) =
   true) →
   (VLe (V.bool false) (V.bool (decide (xs = ys))))) ∧
   (((!decide
   (decCert (encCert 1 (List.getD xs (Int.toNat (↑x : Int)) default)) =
   decCert (encCert 1 (List.getD ys (Int.toNat (↑x : Int)) default)))) =
   false) →
   ((inK IntKind.i64 ((↑x : Int) + (1 : Int))) ∧
   (∃ y : Nat, ((SLe
   (AS.mk
   [(0, encL (encCert 1) 1 xs), (1, encL (encCert 1) 1 ys),
   (5, V.int IntKind.i64 ((↑x : Int) + (1 : Int)))]
   [])
   (AS.mk
   [(0, encL (encCert 1) 1 xs), (1, encL (encCert 1) 1 ys),
   (5, V.int IntKind.i64 (↑y : Int))]
   [])) ∧
   (((y ≤ List.length xs) ∧
   ((List.length xs = List.length ys) ∧
   (∀ j : Nat,
   ((j < y) →
   (List.getD xs j default = List.getD ys j default))))) ∧
   (List.length xs - y < List.length xs - x))))))))))) ∧
   ((decide ((↑x : Int) < (↑(List.length xs) : Int)) = false) →
   (VLe (V.bool true) (V.bool (decide (xs = ys))))))))))) := by
    unfold pr30 maxLen at hpre
    obtain ⟨hpre, hel⟩ := hpre
    refine ⟨fun h => ?_, fun h => ?_⟩
    · refine vle_bool ?_
      have hne : xs ≠ ys := fun e => by subst e; simp at h
      simp [hne]
    · have hlen : xs.length = ys.length := by simp at h; omega
      refine ⟨⟨0, SLe.refl _, by omega, hlen, fun j hj => absurd hj (Nat.not_lt_zero j)⟩, ?_⟩
      rintro i ⟨hi, _, hj⟩
      refine ⟨fun h => ?_, fun h => ?_⟩
      · have hlt : i < xs.length := by simpa using h
        have hin : xs.getD i default ∈ xs := by simp [hlt]
        simp only [dec_encCert, Int.toNat_natCast]
        refine ⟨⟨by omega, by omega⟩, ⟨by omega, by omega⟩, ⟨VLe.refl _, VLe.refl _, hel _ hin _⟩, fun h2 => ?_, fun h2 => ⟨inK64 (by omega), i + 1, SLe.refl _, ⟨by omega, hlen, fun j h3 => ?_⟩, by omega⟩⟩
        · refine vle_bool ?_
          have hne : xs ≠ ys := fun e => by subst e; simp at h2
          simp [hne]
        · rcases Nat.lt_or_ge j i with h4 | h4
          · exact hj j h4
          · have : j = i := by omega
            subst this
            simpa using h2
      · refine vle_bool ?_
        have hge : i = xs.length := by simp at h; omega
        have heq : xs = ys := by
          refine List.ext_getElem hlen fun k h1 h2 => ?_
          have := hj k (by omega)
          simpa [h1, h2] using this
        simp [heq]
  exact Eq.mp (by kernel_rfl) key
theorem so30 : Sound Tryz.prog 30 sp30 := by
  refine sound_of_body hmix (pol := 0) Tryz.func30 rfl (by kernel_rfl) fun args bin ob r bout hDe hob => ?_
  unfold sp30 at hDe
  split at hDe
  · rename_i a0 a1
    cases hDe
    exact ⟨rfl, rfl, Nat.le_of_ble_eq_true (by kernel_rfl), cx30 ((decL decCert) a0) ((decL decCert) a1), Eq.mp (by kernel_rfl) htt, Eq.mp (by kernel_rfl) da30, Eq.mp (by kernel_rfl) (noM_sound (P := Tryz.prog)), by kernel_rfl, [encL (encCert 1) 1 (((decL decCert) a0)), encL (encCert 1) 1 (((decL decCert) a1))], args_of_vles (⟨hob.1, hob.2.1, trivial⟩), Eq.mp (by kernel_rfl) (bd30 ((decL decCert) a0) ((decL decCert) a1) (hob.2.2))⟩
  · cases hDe

/-! ### laws.szCertS -/
def pr17 (xs : List Cert) (left : Int) : Prop := 0 ≤ left ∧ left ≤ most ∧ xs.length ≤ maxLen
noncomputable def rs17 (xs : List Cert) (left : Int) : V := .int .i64 (szLen xs.length left)
noncomputable def sp17 : FSpec := fun args bin => match args, bin with
  | [a0, .int .i64 a1], [] => some (VLe a0 (encL (encCert 1) 1 (((decL decCert) a0))) ∧ pr17 ((decL decCert) a0) a1, rs17 ((decL decCert) a0) a1, [])
  | _, _ => none
noncomputable def D17 : Nat → Option (Bool × FSpec) := lk []
theorem da17 : SoundAll Tryz.prog D17 := soundAll_nil
noncomputable def cx17 (xs : List Cert) (left : Int) : Cx := ⟨tt, D17, Tryz.f17.ntmps, [0, 1, 4, 10], [], [], fun _ => none, [], noM, []⟩
theorem bd17 (xs : List Cert) (left : Int) (hpre : pr17 xs left) : bodyP (cx17 xs left) Tryz.f17 0 [encL (encCert 1) 1 (xs), .int .i64 (left)] (fun rr => VLe rr (rs17 xs left)) := by
  have key :
      ((inK IntKind.i64 (left - (↑(List.length xs) : Int))) ∧
   (((decide (left - (↑(List.length xs) : Int) < (0 : Int)) = true) →
   (VLe (V.int IntKind.i64 (-1 : Int)) (V.int IntKind.i64 (szLen (List.length xs) left)))) ∧
   ((decide (left - (↑(List.length xs) : Int) < (0 : Int)) = false) →
   (VLe (V.int IntKind.i64 (left - (↑(List.length xs) : Int))) (V.int IntKind.i64 (szLen (List.length xs) left)))))) := by
    unfold pr17 most maxLen at hpre
    simp [szLen]
    exact ⟨inK64 (by omega), by grind⟩
  exact Eq.mp (by kernel_rfl) key
theorem so17 : Sound Tryz.prog 17 sp17 := by
  refine sound_of_body hmix (pol := 0) Tryz.func17 rfl (by kernel_rfl) fun args bin ob r bout hDe hob => ?_
  unfold sp17 at hDe
  split at hDe
  · rename_i a0 a1
    cases hDe
    exact ⟨rfl, rfl, Nat.le_of_ble_eq_true (by kernel_rfl), cx17 ((decL decCert) a0) a1, Eq.mp (by kernel_rfl) htt, Eq.mp (by kernel_rfl) da17, Eq.mp (by kernel_rfl) (noM_sound (P := Tryz.prog)), by kernel_rfl, [encL (encCert 1) 1 (((decL decCert) a0)), .int .i64 (a1)], args_of_vles (⟨hob.1, VLe.refl _, trivial⟩), Eq.mp (by kernel_rfl) (bd17 ((decL decCert) a0) a1 (hob.2))⟩
  · cases hDe

/-! ### laws.szInt64S -/
def pr18 (xs : List Int) (left : Int) : Prop := 0 ≤ left ∧ left ≤ most ∧ xs.length ≤ maxLen
noncomputable def rs18 (xs : List Int) (left : Int) : V := .int .i64 (szLen xs.length left)
noncomputable def sp18 : FSpec := fun args bin => match args, bin with
  | [a0, .int .i64 a1], [] => some (VLe a0 (encL encI 1 (((decL decI) a0))) ∧ pr18 ((decL decI) a0) a1, rs18 ((decL decI) a0) a1, [])
  | _, _ => none
noncomputable def D18 : Nat → Option (Bool × FSpec) := lk []
theorem da18 : SoundAll Tryz.prog D18 := soundAll_nil
noncomputable def cx18 (xs : List Int) (left : Int) : Cx := ⟨tt, D18, Tryz.f18.ntmps, [0, 1, 4, 10], [], [], fun _ => none, [], noM, []⟩
theorem bd18 (xs : List Int) (left : Int) (hpre : pr18 xs left) : bodyP (cx18 xs left) Tryz.f18 0 [encL encI 1 (xs), .int .i64 (left)] (fun rr => VLe rr (rs18 xs left)) := by
  have key :
      ((inK IntKind.i64 (left - (↑(List.length xs) : Int))) ∧
   (((decide (left - (↑(List.length xs) : Int) < (0 : Int)) = true) →
   (VLe (V.int IntKind.i64 (-1 : Int)) (V.int IntKind.i64 (szLen (List.length xs) left)))) ∧
   ((decide (left - (↑(List.length xs) : Int) < (0 : Int)) = false) →
   (VLe (V.int IntKind.i64 (left - (↑(List.length xs) : Int))) (V.int IntKind.i64 (szLen (List.length xs) left)))))) := by
    unfold pr18 most maxLen at hpre
    simp [szLen]
    exact ⟨inK64 (by omega), by grind⟩
  exact Eq.mp (by kernel_rfl) key
theorem so18 : Sound Tryz.prog 18 sp18 := by
  refine sound_of_body hmix (pol := 0) Tryz.func18 rfl (by kernel_rfl) fun args bin ob r bout hDe hob => ?_
  unfold sp18 at hDe
  split at hDe
  · rename_i a0 a1
    cases hDe
    exact ⟨rfl, rfl, Nat.le_of_ble_eq_true (by kernel_rfl), cx18 ((decL decI) a0) a1, Eq.mp (by kernel_rfl) htt, Eq.mp (by kernel_rfl) da18, Eq.mp (by kernel_rfl) (noM_sound (P := Tryz.prog)), by kernel_rfl, [encL encI 1 (((decL decI) a0)), .int .i64 (a1)], args_of_vles (⟨hob.1, VLe.refl _, trivial⟩), Eq.mp (by kernel_rfl) (bd18 ((decL decI) a0) a1 (hob.2))⟩
  · cases hDe

def szMsgF (m : Msg) (left : Int) : Int := if szLen m.certs.length left < 0 then -1 else if szLen m.refs.length (szLen m.certs.length left) < 0 then -1 else szLen m.refs.length (szLen m.certs.length left)
theorem szLen_le {n : Nat} {left : Int} : szLen n left ≤ left ∨ left < 0 := by unfold szLen; split <;> omega

/-! ### laws.szMsg -/
def pr10 (m : Msg) (left : Int) : Prop := 0 ≤ left ∧ left ≤ most ∧ m.bd
noncomputable def rs10 (m : Msg) (left : Int) : V := .int .i64 (szMsgF m left)
noncomputable def sp10 : FSpec := fun args bin => match args, bin with
  | [a0, .int .i64 a1], [] => some (VLe a0 (encMsg 1 ((decMsg a0))) ∧ pr10 (decMsg a0) a1, rs10 (decMsg a0) a1, [])
  | _, _ => none
noncomputable def D10 : Nat → Option (Bool × FSpec) := lk [(17, (false, sp17)), (18, (false, sp18))]
theorem da10 : SoundAll Tryz.prog D10 := soundAll_cons so17 (soundAll_cons so18 (soundAll_nil))
noncomputable def cx10 (m : Msg) (left : Int) : Cx := ⟨tt, D10, Tryz.f10.ntmps, [0, 1, 2, 4, 10, 16], [], [], fun _ => none, [], noM, []⟩
theorem bd10 (m : Msg) (left : Int) (hpre : pr10 m left) : bodyP (cx10 m left) Tryz.f10 0 [encMsg 1 (m), .int .i64 (left)] (fun rr => VLe rr (rs10 m left)) := by
  have key :
      (((VLe (encL (encCert 1) 1 (Msg.certs m))
   (encL (encCert 1) 1 (decL decCert (encL (encCert 1) 1 (Msg.certs m))))) ∧
   (pr17 (decL decCert (encL (encCert 1) 1 (Msg.certs m))) left)) ∧
   (((decide (szLen (List.length (decL decCert (encL (encCert 1) 1 (Msg.certs m)))) left < (0 : Int)) = true) →
   (VLe (V.int IntKind.i64 (-1 : Int)) (V.int IntKind.i64 (szMsgF m left)))) ∧
   ((decide (szLen (List.length (decL decCert (encL (encCert 1) 1 (Msg.certs m)))) left < (0 : Int)) = false) →
   (((VLe (encL encI 1 (Msg.refs m)) (encL encI 1 (decL decI (encL encI 1 (Msg.refs m))))) ∧
   (pr18 (decL decI (encL encI 1 (Msg.refs m)))
   (szLen (List.length (decL decCert (encL (encCert 1) 1 (Msg.certs m)))) left))) ∧
   (((decide
   (szLen (List.length (decL decI (encL encI 1 (Msg.refs m))))
   (szLen (List.length (decL decCert (encL (encCert 1) 1 (Msg.certs m)))) left) <
   (0 : Int)) =
   true) →
   (VLe (V.int IntKind.i64 (-1 : Int)) (V.int IntKind.i64 (szMsgF m left)))) ∧
   ((decide
   (szLen (List.length (decL decI (encL encI 1 (Msg.refs m))))
   (szLen (List.length (decL decCert (encL (encCert 1) 1 (Msg.certs m)))) left) <
   (0 : Int)) =
   false) →
   (VLe
   (V.int IntKind.i64
   (szLen (List.length (decL decI (encL encI 1 (Msg.refs m))))
   (szLen (List.length (decL decCert (encL (encCert 1) 1 (Msg.certs m)))) left)))
   (V.int IntKind.i64 (szMsgF m left))))))))) := by
    unfold pr10 Msg.bd at hpre
    have := @szLen_le m.certs.length left
    simp [szMsgF, pr17, pr18]
    grind
  exact Eq.mp (by kernel_rfl) key
theorem so10 : Sound Tryz.prog 10 sp10 := by
  refine sound_of_body hmix (pol := 0) Tryz.func10 rfl (by kernel_rfl) fun args bin ob r bout hDe hob => ?_
  unfold sp10 at hDe
  split at hDe
  · rename_i a0 a1
    cases hDe
    exact ⟨rfl, rfl, Nat.le_of_ble_eq_true (by kernel_rfl), cx10 (decMsg a0) a1, Eq.mp (by kernel_rfl) htt, Eq.mp (by kernel_rfl) da10, Eq.mp (by kernel_rfl) (noM_sound (P := Tryz.prog)), by kernel_rfl, [encMsg 1 ((decMsg a0)), .int .i64 (a1)], args_of_vles (⟨hob.1, VLe.refl _, trivial⟩), Eq.mp (by kernel_rfl) (bd10 (decMsg a0) a1 (hob.2))⟩
  · cases hDe

/-! ### laws.toMsg -/
def pr13 (m : Msg) : Prop := m.certs.length ≤ most ∧ m.refs.length ≤ most
noncomputable def rs13 (m : Msg) : V := encMsg 2 (m)
noncomputable def sp13 : FSpec := fun args bin => match args, bin with
  | [a0], [] => some (VLe a0 (encMsg 1 ((decMsg a0))) ∧ pr13 (decMsg a0), rs13 (decMsg a0), [])
  | _, _ => none
noncomputable def D13 : Nat → Option (Bool × FSpec) := lk [(23, (false, sp23)), (24, (false, sp24))]
theorem da13 : SoundAll Tryz.prog D13 := soundAll_cons so23 (soundAll_cons so24 (soundAll_nil))
noncomputable def cx13 (m : Msg) : Cx := ⟨tt, D13, Tryz.f13.ntmps, [0, 1, 2, 3], [], [], fun _ => none, [], noM, []⟩
theorem bd13 (m : Msg) (hpre : pr13 m) : bodyP (cx13 m) Tryz.f13 1 [encMsg 1 (m)] (fun rr => VLe rr (rs13 m)) := by
  have key :
      (((VLe (encL (encCert 1) 1 (Msg.certs m))
   (encL (encCert 1) 1 (decL decCert (encL (encCert 1) 1 (Msg.certs m))))) ∧
   (pr23 (decL decCert (encL (encCert 1) 1 (Msg.certs m))))) ∧
   (((VLe (encL encI 1 (Msg.refs m)) (encL encI 1 (decL decI (encL encI 1 (Msg.refs m))))) ∧
   (pr24 (decL decI (encL encI 1 (Msg.refs m))))) ∧
   (VLe
   (V.agg
   [V.int IntKind.i64 (Msg.kind m), V.int IntKind.i64 (Msg.view m), V.int IntKind.i64 (Msg.sender m),
   V.int IntKind.i64 (Msg.slot m), V.int IntKind.i64 (Msg.value m),
   encL (encCert 1) 2 (decL decCert (encL (encCert 1) 1 (Msg.certs m))),
   encL encI 2 (decL decI (encL encI 1 (Msg.refs m)))])
   (encMsg 2 m)))) := by
    unfold pr13 at hpre
    simp [pr23, pr24, pr41, hpre]
    exact VLe.refl _
  exact Eq.mp (by kernel_rfl) key
theorem so13 : Sound Tryz.prog 13 sp13 := by
  refine sound_of_body hmix (pol := 1) Tryz.func13 rfl (by kernel_rfl) fun args bin ob r bout hDe hob => ?_
  unfold sp13 at hDe
  split at hDe
  · rename_i a0
    cases hDe
    exact ⟨rfl, rfl, Nat.le_of_ble_eq_true (by kernel_rfl), cx13 (decMsg a0), Eq.mp (by kernel_rfl) htt, Eq.mp (by kernel_rfl) da13, Eq.mp (by kernel_rfl) (noM_sound (P := Tryz.prog)), by kernel_rfl, [encMsg 1 ((decMsg a0))], args_of_vles (⟨hob.1, trivial⟩), Eq.mp (by kernel_rfl) (bd13 (decMsg a0) (hob.2))⟩
  · cases hDe

/-! ### laws.eqMsg -/
def pr16 (a : Msg) (b : Msg) : Prop := a.bd
noncomputable def rs16 (a : Msg) (b : Msg) : V := .bool (decide (a = b))
noncomputable def sp16 : FSpec := fun args bin => match args, bin with
  | [a0, a1], [] => some (VLe a0 (encMsg 1 ((decMsg a0))) ∧ VLe a1 (encMsg 1 ((decMsg a1))) ∧ pr16 (decMsg a0) (decMsg a1), rs16 (decMsg a0) (decMsg a1), [])
  | _, _ => none
noncomputable def D16 : Nat → Option (Bool × FSpec) := lk [(30, (false, sp30)), (31, (false, sp31))]
theorem da16 : SoundAll Tryz.prog D16 := soundAll_cons so30 (soundAll_cons so31 (soundAll_nil))
noncomputable def cx16 (a : Msg) (b : Msg) : Cx := ⟨tt, D16, Tryz.f16.ntmps, [0, 1, 2, 3, 4, 9, 14, 19, 24, 29, 35, 41], [], [], fun _ => none, [], noM, []⟩
theorem bd16 (a : Msg) (b : Msg) (hpre : pr16 a b) : bodyP (cx16 a b) Tryz.f16 0 [encMsg 1 (a), encMsg 1 (b)] (fun rr => VLe rr (rs16 a b)) := by
  have key :
      ((((Msg.kind a != Msg.kind b) = true) →
   (VLe (V.bool false) (V.bool (decide (a = b))))) ∧
   (((Msg.kind a != Msg.kind b) = false) →
   ((((Msg.view a != Msg.view b) = true) →
   (VLe (V.bool false) (V.bool (decide (a = b))))) ∧
   (((Msg.view a != Msg.view b) = false) →
   ((((Msg.sender a != Msg.sender b) = true) →
   (VLe (V.bool false) (V.bool (decide (a = b))))) ∧
   (((Msg.sender a != Msg.sender b) = false) →
   ((((Msg.slot a != Msg.slot b) = true) →
   (VLe (V.bool false) (V.bool (decide (a = b))))) ∧
   (((Msg.slot a != Msg.slot b) = false) →
   ((((Msg.value a != Msg.value b) = true) →
   (VLe (V.bool false) (V.bool (decide (a = b))))) ∧
   (((Msg.value a != Msg.value b) = false) →
   (((VLe (encL (encCert 1) 1 (Msg.certs a))
   (encL (encCert 1) 1 (decL decCert (encL (encCert 1) 1 (Msg.certs a))))) ∧
   ((VLe (encL (encCert 1) 1 (Msg.certs b))
   (encL (encCert 1) 1 (decL decCert (encL (encCert 1) 1 (Msg.certs b))))) ∧
   (pr30 (decL decCert (encL (encCert 1) 1 (Msg.certs a)))
   (decL decCert (encL (encCert 1) 1 (Msg.certs b)))))) ∧
   ((((!decide
   (decL decCert (encL (encCert 1) 1 (Msg.certs a)) =
   decL decCert (encL (encCert 1) 1 (Msg.certs b)))) =
   true) →
   (VLe (V.bool false) (V.bool (decide (a = b))))) ∧
   (((!decide
   (decL decCert (encL (encCert 1) 1 (Msg.certs a)) =
   decL decCert (encL (encCert 1) 1 (Msg.certs b)))) =
   false) →
   (((VLe (encL encI 1 (Msg.refs a)) (encL encI 1 (decL decI (encL encI 1 (Msg.refs a))))) ∧
   ((VLe (encL encI 1 (Msg.refs b)) (encL encI 1 (decL decI (encL encI 1 (Msg.refs b))))) ∧
   (pr31 (decL decI (encL encI 1 (Msg.refs a))) (decL decI (encL encI 1 (Msg.refs b)))))) ∧
   ((((!decide (decL decI (encL encI 1 (Msg.refs a)) = decL decI (encL encI 1 (Msg.refs b)))) = true) →
   (VLe (V.bool false) (V.bool (decide (a = b))))) ∧
   (((!decide (decL decI (encL encI 1 (Msg.refs a)) = decL decI (encL encI 1 (Msg.refs b)))) = false) →
   (VLe (V.bool true) (V.bool (decide (a = b)))))))))))))))))))) := by
    unfold pr16 Msg.bd at hpre
    repeat' (first | apply And.intro | intro _)
    all_goals simp_all [pr30, pr31, pr55, eq_Msg]
  exact Eq.mp (by kernel_rfl) key
theorem so16 : Sound Tryz.prog 16 sp16 := by
  refine sound_of_body hmix (pol := 0) Tryz.func16 rfl (by kernel_rfl) fun args bin ob r bout hDe hob => ?_
  unfold sp16 at hDe
  split at hDe
  · rename_i a0 a1
    cases hDe
    exact ⟨rfl, rfl, Nat.le_of_ble_eq_true (by kernel_rfl), cx16 (decMsg a0) (decMsg a1), Eq.mp (by kernel_rfl) htt, Eq.mp (by kernel_rfl) da16, Eq.mp (by kernel_rfl) (noM_sound (P := Tryz.prog)), by kernel_rfl, [encMsg 1 ((decMsg a0)), encMsg 1 ((decMsg a1))], args_of_vles (⟨hob.1, hob.2.1, trivial⟩), Eq.mp (by kernel_rfl) (bd16 (decMsg a0) (decMsg a1) (hob.2.2))⟩
  · cases hDe

end Go.Av
