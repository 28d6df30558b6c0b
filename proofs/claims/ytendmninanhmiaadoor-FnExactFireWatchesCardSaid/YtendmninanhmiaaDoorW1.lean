/- Watches: what is wrong with them. -/
import Derived.Test.YtendmninanhmiaaDoorW0
import Derived.Test.YtendmninanhmiaaDoorP2
namespace Go.Av
open Go.Proofs
set_option maxRecDepth 100000
set_option linter.unusedVariables false
set_option linter.unusedSimpArgs false

theorem zele_Watch : ELe (.agg [.int .i64 0, .str ⟨#[]⟩]) (encWatch 1 default) := ELe.refl _
def szWatch (x : Watch) (left : Int) : Int := szLen x.path.size left
theorem szWatch_le (x : Watch) (left : Int) : szWatch x left ≤ left ∨ szWatch x left < 0 := szLen_le _ _

/-! ### laws.szWatch -/
def pr21 (x : Watch) (left : Int) : Prop := 0 ≤ left ∧ left ≤ most ∧ x.bd
noncomputable def rs21 (x : Watch) (left : Int) : V := .int .i64 (szWatch x left)
noncomputable def sp21 : FSpec := fun args bin => match args, bin with
  | [a0, .int .i64 a1], [] => some (VLe a0 (encWatch 1 ((decWatch a0))) ∧ pr21 (decWatch a0) a1, rs21 (decWatch a0) a1, [])
  | _, _ => none
noncomputable def D21 : Nat → Option (Bool × FSpec) := lk []
theorem da21 : SoundAll Tryd.prog D21 := soundAll_nil
noncomputable def cx21 (x : Watch) (left : Int) : Cx := ⟨tt, D21, Tryd.f21.ntmps, [0, 1, 2, 4, 11], [], [], fun _ => none, [], noM, []⟩
theorem bd21 (x : Watch) (left : Int) (hpre : pr21 x left) : bodyP (cx21 x left) Tryd.f21 0 [encWatch 1 (x), .int .i64 (left)] (fun rr => VLe rr (rs21 x left)) := by
  have key :
      ((inK IntKind.i64 (left - (↑(ByteArray.size (Watch.path x)) : Int))) ∧
   (((decide (left - (↑(ByteArray.size (Watch.path x)) : Int) < (0 : Int)) = true) →
   (VLe (V.int IntKind.i64 (-1 : Int)) (V.int IntKind.i64 (szWatch x left)))) ∧
   ((decide (left - (↑(ByteArray.size (Watch.path x)) : Int) < (0 : Int)) = false) →
   (VLe (V.int IntKind.i64 (left - (↑(ByteArray.size (Watch.path x)) : Int))) (V.int IntKind.i64 (szWatch x left)))))) := by
    obtain ⟨h0, hm, hb⟩ := hpre
    unfold most at hm
    unfold Watch.bd maxLen at hb
    refine ⟨inK64 (by omega), fun h => ?_, fun h => ?_⟩
    · exact vle_int (by unfold szWatch szLen; rw [if_pos (of_decide_eq_true h)])
    · exact vle_int (by unfold szWatch szLen; rw [if_neg (of_decide_eq_false h)])
  exact Eq.mp (by kernel_rfl) key
theorem so21 : Sound Tryd.prog 21 sp21 := by
  refine sound_of_body hmix (pol := 0) Tryd.func21 rfl (by kernel_rfl) fun args bin ob r bout hDe hob => ?_
  unfold sp21 at hDe
  split at hDe
  · rename_i a0 a1
    cases hDe
    exact ⟨rfl, rfl, Nat.le_of_ble_eq_true (by kernel_rfl), cx21 (decWatch a0) a1, Eq.mp (by kernel_rfl) htt, Eq.mp (by kernel_rfl) da21, Eq.mp (by kernel_rfl) (noM_sound (P := Tryd.prog)), by kernel_rfl, [encWatch 1 ((decWatch a0)), .int .i64 (a1)], args_of_vles (⟨hob.1, VLe.refl _, trivial⟩), Eq.mp (by kernel_rfl) (bd21 (decWatch a0) a1 (hob.2))⟩
  · cases hDe

/-! ### laws.szWatchS -/
def pr11 (xs : List Watch) (left : Int) : Prop := 0 ≤ left ∧ left ≤ most ∧ xs.length ≤ maxLen ∧ ∀ x ∈ xs, x.bd
noncomputable def rs11 (xs : List Watch) (left : Int) : V := .int .i64 (szS szWatch xs left)
noncomputable def sp11 : FSpec := fun args bin => match args, bin with
  | [a0, .int .i64 a1], [] => some (VLe a0 (encL (encWatch 1) 1 (((decL decWatch) a0))) ∧ pr11 ((decL decWatch) a0) a1, rs11 ((decL decWatch) a0) a1, [])
  | _, _ => none
noncomputable def in11_5 (xs : List Watch) (left : Int) : LoopInv :=
  ⟨Nat × Int, fun p => ⟨[(0, encL (encWatch 1) 1 xs), (1, .int .i64 p.2), (5, .int .i64 p.1)], []⟩,
    fun p => p.1 ≤ xs.length ∧ 0 ≤ p.2 ∧ p.2 ≤ left ∧ szS szWatch xs left = szA szWatch (xs.drop p.1) p.2, fun p => xs.length - p.1⟩
noncomputable def iv11 (xs : List Watch) (left : Int) : Nat → Option LoopInv := fun rg_ => match rg_ with
  | 5 => some (in11_5 xs left)
  | _ => none
noncomputable def D11 : Nat → Option (Bool × FSpec) := lk [(21, (false, sp21))]
theorem da11 : SoundAll Tryd.prog D11 := soundAll_cons so21 (soundAll_nil)
noncomputable def cx11 (xs : List Watch) (left : Int) : Cx := ⟨tt, D11, Tryd.f11.ntmps, [0, 1, 4, 5, 11, 15, 25], [(5, ⟨[(0, none), (1, none), (5, none)], []⟩)], [], iv11 xs left, [], noM, []⟩
theorem bd11 (xs : List Watch) (left : Int) (hpre : pr11 xs left) : bodyP (cx11 xs left) Tryd.f11 0 [encL (encWatch 1) 1 (xs), .int .i64 (left)] (fun rr => VLe rr (rs11 xs left)) := by
  have key :
      ((inK IntKind.i64 (left - (↑(List.length xs) : Int))) ∧
   (((decide (left - (↑(List.length xs) : Int) < (0 : Int)) = true) →
   (VLe (V.int IntKind.i64 (-1 : Int)) (V.int IntKind.i64 (szS szWatch xs left)))) ∧
   ((decide (left - (↑(List.length xs) : Int) < (0 : Int)) = false) →
   ((∃ x : Nat × Int, ((SLe
   (AS.mk
   [(0, encL (encWatch 1) 1 xs),
   (1, V.int IntKind.i64 (left - (↑(List.length xs) : Int))), (5, V.int IntKind.i64 (0 : Int))]
   [])
   (AS.mk
   [(0, encL (encWatch 1) 1 xs), (1, V.int IntKind.i64 (Prod.snd x)),
   (5, V.int IntKind.i64 (↑(Prod.fst x) : Int))]
   [])) ∧
   ((Prod.fst x ≤ List.length xs) ∧
   (((0 : Int) ≤ Prod.snd x) ∧
   ((Prod.snd x ≤ left) ∧
   (szS szWatch xs left = szA szWatch (List.drop (Prod.fst x) xs) (Prod.snd x))))))) ∧
   (∀ x : Nat × Int,
   (((Prod.fst x ≤ List.length xs) ∧
   (((0 : Int) ≤ Prod.snd x) ∧
   ((Prod.snd x ≤ left) ∧
   (szS szWatch xs left = szA szWatch (List.drop (Prod.fst x) xs) (Prod.snd x))))) →
   (((decide ((↑(Prod.fst x) : Int) < (↑(List.length xs) : Int)) = true) →
   ((((0 : Int) ≤ (↑(Prod.fst x) : Int)) ∧
   ((↑(Prod.fst x) : Int) < (↑(List.length xs) : Int))) ∧
   (((VLe (encWatch 1 (List.getD xs (Int.toNat (↑(Prod.fst x) : Int)) default))
   (encWatch 1 (decWatch (encWatch 1 (List.getD xs (Int.toNat (↑(Prod.fst x) : Int)) default))))) ∧
   (pr21 (decWatch (encWatch 1 (List.getD xs (Int.toNat (↑(Prod.fst x) : Int)) default))) (Prod.snd x))) ∧
   (((decide
   (szWatch (decWatch (encWatch 1 (List.getD xs (Int.toNat (↑(Prod.fst x) : Int)) default))) (Prod.snd x) <
   (0 : Int)) =
   true) →
   (VLe (V.int IntKind.i64 (-1 : Int)) (V.int IntKind.i64 (szS szWatch xs left)))) ∧
   ((decide
   (szWatch (decWatch (encWatch 1 (List.getD xs (Int.toNat (↑(Prod.fst x) : Int)) default))) (Prod.snd x) <
   (0 : Int)) =
   false) →
   ((inK IntKind.i64 ((↑(Prod.fst x) : Int) + (1 : Int))) ∧
   (∃ y : Nat × Int, ((SLe
   (AS.mk
   [(0, encL (encWatch 1) 1 xs),
   (1,
   V.int IntKind.i64
   (szWatch (decWatch (encWatch 1 (List.getD xs (Int.toNat (↑(Prod.fst x) : Int)) default)))
   (Prod.snd x))),
   (5, V.int IntKind.i64 ((↑(Prod.fst x) : Int) + (1 : Int)))]
   [])
   (AS.mk
   [(0, encL (encWatch 1) 1 xs), (1, V.int IntKind.i64 (Prod.snd y)),
   (5, V.int IntKind.i64 (↑(Prod.fst y) : Int))]
   [])) ∧
   (((Prod.fst y ≤ List.length xs) ∧
   (((0 : Int) ≤ Prod.snd y) ∧
   ((Prod.snd y ≤ left) ∧
   (szS szWatch xs left = szA szWatch (List.drop (Prod.fst y) xs) (Prod.snd y))))) ∧
   (List.length xs - Prod.fst y < List.length xs - Prod.fst x)))))))))) ∧
   ((decide ((↑(Prod.fst x) : Int) < (↑(List.length xs) : Int)) = false) →
   (VLe (V.int IntKind.i64 (Prod.snd x)) (V.int IntKind.i64 (szS szWatch xs left))))))))))) := by
    obtain ⟨h0, hm, hl, hb⟩ := hpre
    unfold most at hm
    unfold maxLen at hl
    refine ⟨inK64 (by omega), fun h => vle_int (szS_neg (of_decide_eq_true h)).symm, fun h => ?_⟩
    have h' := of_decide_eq_false h
    refine ⟨⟨(0, left - xs.length), SLe.refl _, Nat.zero_le _, by simp only; omega, by simp only; omega, szS_pos h'⟩, ?_⟩
    rintro ⟨i, v⟩ ⟨h1, h2, h3, h4⟩
    simp only at h1 h2 h3 h4 ⊢
    refine ⟨fun h => ?_, fun h => ?_⟩
    · have hlt : i < xs.length := by simpa using h
      have hin : xs.getD i default ∈ xs := by simp [hlt]
      have e := szA_drop szWatch hlt v
      have hle := szWatch_le (xs.getD i default) v
      simp only [dec_encWatch, Int.toNat_natCast]
      refine ⟨⟨by omega, by omega⟩, ⟨VLe.refl _, by omega, by unfold most; omega, hb _ hin⟩, fun h5 => ?_, fun h5 => ?_⟩
      · have h6 := of_decide_eq_true h5
        exact vle_int (by rw [h4, e, if_pos h6])
      · have h6 := of_decide_eq_false h5
        exact ⟨inK64 (by omega), (i + 1, szWatch (xs.getD i default) v), SLe.refl _, ⟨by simp only; omega, by simp only; omega, by simp only; omega, by rw [h4, e, if_neg h6]⟩, by simp only; omega⟩
    · have hge : i = xs.length := by simp at h; omega
      refine vle_int ?_
      rw [h4, hge, List.drop_length]
      rfl
  exact Eq.mp (by kernel_rfl) key
theorem so11 : Sound Tryd.prog 11 sp11 := by
  refine sound_of_body hmix (pol := 0) Tryd.func11 rfl (by kernel_rfl) fun args bin ob r bout hDe hob => ?_
  unfold sp11 at hDe
  split at hDe
  · rename_i a0 a1
    cases hDe
    exact ⟨rfl, rfl, Nat.le_of_ble_eq_true (by kernel_rfl), cx11 ((decL decWatch) a0) a1, Eq.mp (by kernel_rfl) htt, Eq.mp (by kernel_rfl) da11, Eq.mp (by kernel_rfl) (noM_sound (P := Tryd.prog)), by kernel_rfl, [encL (encWatch 1) 1 (((decL decWatch) a0)), .int .i64 (a1)], args_of_vles (⟨hob.1, VLe.refl _, trivial⟩), Eq.mp (by kernel_rfl) (bd11 ((decL decWatch) a0) a1 (hob.2))⟩
  · cases hDe

/-! ### laws.toWatch -/
def pr23 (x : Watch) : Prop := True
noncomputable def rs23 (x : Watch) : V := encWatch 2 (x)
noncomputable def sp23 : FSpec := fun args bin => match args, bin with
  | [a0], [] => some (VLe a0 (encWatch 1 ((decWatch a0))) ∧ pr23 (decWatch a0), rs23 (decWatch a0), [])
  | _, _ => none
noncomputable def D23 : Nat → Option (Bool × FSpec) := lk []
theorem da23 : SoundAll Tryd.prog D23 := soundAll_nil
noncomputable def cx23 (x : Watch) : Cx := ⟨tt, D23, Tryd.f23.ntmps, [0, 1, 2, 3], [], [], fun _ => none, [], noM, []⟩
theorem bd23 (x : Watch) (hpre : pr23 x) : bodyP (cx23 x) Tryd.f23 1 [encWatch 1 (x)] (fun rr => VLe rr (rs23 x)) := by
  have key :
      (VLe (encWatch 1 x) (encWatch 1 x)) := by
    exact vle_agg ⟨VLe.refl _, VLe.refl _, trivial⟩
  exact Eq.mp (by kernel_rfl) key
theorem so23 : Sound Tryd.prog 23 sp23 := by
  refine sound_of_body hmix (pol := 1) Tryd.func23 rfl (by kernel_rfl) fun args bin ob r bout hDe hob => ?_
  unfold sp23 at hDe
  split at hDe
  · rename_i a0
    cases hDe
    exact ⟨rfl, rfl, Nat.le_of_ble_eq_true (by kernel_rfl), cx23 (decWatch a0), Eq.mp (by kernel_rfl) htt, Eq.mp (by kernel_rfl) da23, Eq.mp (by kernel_rfl) (noM_sound (P := Tryd.prog)), by kernel_rfl, [encWatch 1 ((decWatch a0))], args_of_vles (⟨hob.1, trivial⟩), Eq.mp (by kernel_rfl) (bd23 (decWatch a0) (hob.2))⟩
  · cases hDe

/-! ### laws.toWatchS -/
def pr13 (xs : List Watch) : Prop := xs.length ≤ most ∧ ∀ x ∈ xs, pr23 x
noncomputable def rs13 (xs : List Watch) : V := encL (encWatch 1) 2 (xs)
noncomputable def sp13 : FSpec := fun args bin => match args, bin with
  | [a0], [] => some (VLe a0 (encL (encWatch 1) 1 (((decL decWatch) a0))) ∧ pr13 ((decL decWatch) a0), rs13 ((decL decWatch) a0), [])
  | _, _ => none
noncomputable def in13_3 (xs : List Watch) : LoopInv :=
  ⟨Nat × List Watch, fun p => ⟨[(0, encL (encWatch 1) 1 xs), (3, .osl (canonT 3) xs.length), (4, .int .i64 p.1)], [(canonT 3, .arr 2 xs.length (gL (encWatch 1) p.2) tagS)]⟩,
    fun p => p.1 ≤ xs.length ∧ p.2.length = xs.length ∧ ∀ j, j < p.1 → p.2.getD j default = xs.getD j default, fun p => xs.length - p.1⟩
noncomputable def iv13 (xs : List Watch) : Nat → Option LoopInv := fun rg_ => match rg_ with
  | 3 => some (in13_3 xs)
  | _ => none
noncomputable def D13 : Nat → Option (Bool × FSpec) := lk [(23, (false, sp23))]
theorem da13 : SoundAll Tryd.prog D13 := soundAll_cons so23 (soundAll_nil)
noncomputable def cx13 (xs : List Watch) : Cx := ⟨tt, D13, Tryd.f13.ntmps, [0, 2, 3, 4, 11], [(3, ⟨[(0, none), (3, some 2), (4, none)], []⟩)], [], iv13 xs, [], noM, []⟩
theorem bd13 (xs : List Watch) (hpre : pr13 xs) : bodyP (cx13 xs) Tryd.f13 1 [encL (encWatch 1) 1 (xs)] (fun rr => VLe rr (rs13 xs)) := by
  have key :
      ((((0 : Int) ≤ (↑(List.length xs) : Int)) ∧
   (((↑(List.length xs) : Int) ≤ (↑(List.length xs) : Int)) ∧
   ((↑(List.length xs) : Int) ≤ (↑1073741824 : Int)))) ∧
   ((∃ x : Nat × List Watch, ((SLe
   (AS.mk
   [(0, encL (encWatch 1) 1 xs),
   (3, V.osl 32000256 (Int.toNat (↑(List.length xs) : Int))),
   (4, V.int IntKind.i64 (0 : Int))]
   [(32000256,
   Blk.arr 2 (Int.toNat (↑(List.length xs) : Int))
   (fun (x : Nat) ↦ V.agg [V.int IntKind.i64 (0 : Int), V.str (ByteArray.mk #[])]) 100)])
   (AS.mk
   [(0, encL (encWatch 1) 1 xs), (3, V.osl 32000256 (List.length xs)),
   (4, V.int IntKind.i64 (↑(Prod.fst x) : Int))]
   [(32000256, Blk.arr 2 (List.length xs) (gL (encWatch 1) (Prod.snd x)) 100)])) ∧
   ((Prod.fst x ≤ List.length xs) ∧
   ((List.length (Prod.snd x) = List.length xs) ∧
   (∀ j : Nat,
   ((j < Prod.fst x) →
   (List.getD (Prod.snd x) j default = List.getD xs j default))))))) ∧
   (∀ x : Nat × List Watch,
   (((Prod.fst x ≤ List.length xs) ∧
   ((List.length (Prod.snd x) = List.length xs) ∧
   (∀ j : Nat,
   ((j < Prod.fst x) →
   (List.getD (Prod.snd x) j default = List.getD xs j default))))) →
   (((decide ((↑(Prod.fst x) : Int) < (↑(List.length xs) : Int)) = true) →
   ((((0 : Int) ≤ (↑(Prod.fst x) : Int)) ∧
   ((↑(Prod.fst x) : Int) < (↑(List.length xs) : Int))) ∧
   (((VLe (encWatch 1 (List.getD xs (Int.toNat (↑(Prod.fst x) : Int)) default))
   (encWatch 1 (decWatch (encWatch 1 (List.getD xs (Int.toNat (↑(Prod.fst x) : Int)) default))))) ∧
   (pr23 (decWatch (encWatch 1 (List.getD xs (Int.toNat (↑(Prod.fst x) : Int)) default))))) ∧
   ((((0 : Int) ≤ (↑(Prod.fst x) : Int)) ∧
   ((↑(Prod.fst x) : Int) < (↑(List.length xs) : Int))) ∧
   ((Int.toNat (↑(Prod.fst x) : Int) < List.length xs) ∧
   ((inK IntKind.i64 ((↑(Prod.fst x) : Int) + (1 : Int))) ∧
   (∃ y : Nat × List Watch, ((SLe
   (AS.mk
   [(0, encL (encWatch 1) 1 xs), (3, V.osl 32000256 (List.length xs)),
   (4, V.int IntKind.i64 ((↑(Prod.fst x) : Int) + (1 : Int)))]
   [(32000256,
   Blk.arr 2 (List.length xs)
   (setg (gL (encWatch 1) (Prod.snd x)) (Int.toNat (↑(Prod.fst x) : Int))
   (encWatch 1
   (decWatch (encWatch 1 (List.getD xs (Int.toNat (↑(Prod.fst x) : Int)) default)))))
   100)])
   (AS.mk
   [(0, encL (encWatch 1) 1 xs), (3, V.osl 32000256 (List.length xs)),
   (4, V.int IntKind.i64 (↑(Prod.fst y) : Int))]
   [(32000256, Blk.arr 2 (List.length xs) (gL (encWatch 1) (Prod.snd y)) 100)])) ∧
   (((Prod.fst y ≤ List.length xs) ∧
   ((List.length (Prod.snd y) = List.length xs) ∧
   (∀ j : Nat,
   ((j < Prod.fst y) →
   (List.getD (Prod.snd y) j default = List.getD xs j default))))) ∧
   (List.length xs - Prod.fst y < List.length xs - Prod.fst x)))))))))) ∧
   ((decide ((↑(Prod.fst x) : Int) < (↑(List.length xs) : Int)) = false) →
   (VLe (V.sl (List.length xs) (gL (encWatch 1) (Prod.snd x)) 2) (encL (encWatch 1) 2 xs)))))))) := by
    unfold pr13 most at hpre
    obtain ⟨hpre, hel⟩ := hpre
    refine ⟨⟨by omega, by omega, by omega⟩, ⟨(0, List.replicate xs.length default), ?_, by simp, by simp, fun j hj => absurd hj (Nat.not_lt_zero j)⟩, ?_⟩
    · refine sle_of ⟨rfl, VLe.refl _, rfl, VLe.refl _, rfl, VLe.refl _, trivial⟩ ⟨rfl, ?_, trivial⟩
      refine ble_arr (fun i hi => ?_) (Or.inl rfl)
      have hi' : i < xs.length := hi
      have e1 : gL (encWatch 1) (List.replicate xs.length default) i = (encWatch 1) default := by simp [gL, hi']
      rw [e1]
      exact zele_Watch
    · rintro ⟨i, ys⟩ ⟨hi, hl, hj⟩
      simp only at hi hl hj ⊢
      refine ⟨fun h => ?_, fun h => ?_⟩
      · have hlt : i < xs.length := by simpa using h
        have hin : xs.getD i default ∈ xs := by simp [hlt]
        simp only [dec_encWatch, Int.toNat_natCast]
        refine ⟨⟨by omega, by omega⟩, ⟨VLe.refl _, hel _ hin⟩, ⟨by omega, by omega⟩, by simpa using hlt, inK64 (by omega), (i + 1, ys.set i (xs.getD i default)), ?_, ⟨by simp only; omega, by simpa using hl, fun j h2 => ?_⟩, by simp only; omega⟩
        · refine sle_of ⟨rfl, VLe.refl _, rfl, VLe.refl _, rfl, vle_int (by simp), trivial⟩ ⟨rfl, ?_, trivial⟩
          refine ble_arr (fun k hk => ?_) (Or.inl rfl)
          simp only [setg, gL, Int.toNat_natCast]
          by_cases e : k = i
          · subst e
            rw [if_pos rfl, getD_set_eq _ _ _ _ (by omega)]
            exact ele_Watch _ _ _
          · rw [if_neg e, getD_set_ne _ _ _ _ e]
            exact ELe.refl _
        · simp only at h2 ⊢
          by_cases e : j = i
          · subst e; rw [getD_set_eq _ _ _ _ (by omega)]
          · rw [getD_set_ne _ _ _ _ e]; exact hj j (by omega)
      · have hge : i = xs.length := by simp at h; omega
        refine vle_sl (fun k hk => ?_) (Or.inl rfl)
        simp only [gL]
        rw [hj k (by omega)]
        exact ELe.refl _
  exact Eq.mp (by kernel_rfl) key
theorem so13 : Sound Tryd.prog 13 sp13 := by
  refine sound_of_body hmix (pol := 1) Tryd.func13 rfl (by kernel_rfl) fun args bin ob r bout hDe hob => ?_
  unfold sp13 at hDe
  split at hDe
  · rename_i a0
    cases hDe
    exact ⟨rfl, rfl, Nat.le_of_ble_eq_true (by kernel_rfl), cx13 ((decL decWatch) a0), Eq.mp (by kernel_rfl) htt, Eq.mp (by kernel_rfl) da13, Eq.mp (by kernel_rfl) (noM_sound (P := Tryd.prog)), by kernel_rfl, [encL (encWatch 1) 1 (((decL decWatch) a0))], args_of_vles (⟨hob.1, trivial⟩), Eq.mp (by kernel_rfl) (bd13 ((decL decWatch) a0) (hob.2))⟩
  · cases hDe

/-! ### laws.eqWatch -/
def pr51 (x : Watch) (y : Watch) : Prop := True
noncomputable def rs51 (x : Watch) (y : Watch) : V := .bool (decide (x = y))
noncomputable def sp51 : FSpec := fun args bin => match args, bin with
  | [a0, a1], [] => some (VLe a0 (encWatch 1 ((decWatch a0))) ∧ VLe a1 (encWatch 1 ((decWatch a1))) ∧ pr51 (decWatch a0) (decWatch a1), rs51 (decWatch a0) (decWatch a1), [])
  | _, _ => none
noncomputable def D51 : Nat → Option (Bool × FSpec) := lk []
theorem da51 : SoundAll Tryd.prog D51 := soundAll_nil
noncomputable def cx51 (x : Watch) (y : Watch) : Cx := ⟨tt, D51, Tryd.f51.ntmps, [0, 1, 2, 3, 4, 9, 14], [], [], fun _ => none, [], noM, []⟩
theorem bd51 (x : Watch) (y : Watch) (hpre : pr51 x y) : bodyP (cx51 x y) Tryd.f51 0 [encWatch 1 (x), encWatch 1 (y)] (fun rr => VLe rr (rs51 x y)) := by
  have key :
      ((((Watch.client x != Watch.client y) = true) →
   (VLe (V.bool false) (V.bool (decide (x = y))))) ∧
   (((Watch.client x != Watch.client y) = false) →
   ((((!strEq (Watch.path x) (Watch.path y)) = true) →
   (VLe (V.bool false) (V.bool (decide (x = y))))) ∧
   (((!strEq (Watch.path x) (Watch.path y)) = false) →
   (VLe (V.bool true) (V.bool (decide (x = y)))))))) := by
    simp [eq_Watch, strEq_dec]
    grind
  exact Eq.mp (by kernel_rfl) key
theorem so51 : Sound Tryd.prog 51 sp51 := by
  refine sound_of_body hmix (pol := 0) Tryd.func51 rfl (by kernel_rfl) fun args bin ob r bout hDe hob => ?_
  unfold sp51 at hDe
  split at hDe
  · rename_i a0 a1
    cases hDe
    exact ⟨rfl, rfl, Nat.le_of_ble_eq_true (by kernel_rfl), cx51 (decWatch a0) (decWatch a1), Eq.mp (by kernel_rfl) htt, Eq.mp (by kernel_rfl) da51, Eq.mp (by kernel_rfl) (noM_sound (P := Tryd.prog)), by kernel_rfl, [encWatch 1 ((decWatch a0)), encWatch 1 ((decWatch a1))], args_of_vles (⟨hob.1, hob.2.1, trivial⟩), Eq.mp (by kernel_rfl) (bd51 (decWatch a0) (decWatch a1) (hob.2.2))⟩
  · cases hDe

/-! ### laws.eqWatchS -/
def pr15 (xs : List Watch) (ys : List Watch) : Prop := xs.length ≤ maxLen ∧ ∀ x ∈ xs, ∀ y, pr51 x y
noncomputable def rs15 (xs : List Watch) (ys : List Watch) : V := .bool (decide (xs = ys))
noncomputable def sp15 : FSpec := fun args bin => match args, bin with
  | [a0, a1], [] => some (VLe a0 (encL (encWatch 1) 1 (((decL decWatch) a0))) ∧ VLe a1 (encL (encWatch 1) 1 (((decL decWatch) a1))) ∧ pr15 ((decL decWatch) a0) ((decL decWatch) a1), rs15 ((decL decWatch) a0) ((decL decWatch) a1), [])
  | _, _ => none
noncomputable def in15_4 (xs : List Watch) (ys : List Watch) : LoopInv :=
  ⟨Nat, fun i => ⟨[(0, encL (encWatch 1) 1 xs), (1, encL (encWatch 1) 1 ys), (5, .int .i64 i)], []⟩,
    fun i => i ≤ xs.length ∧ xs.length = ys.length ∧ ∀ j, j < i → xs.getD j default = ys.getD j default, fun i => xs.length - i⟩
noncomputable def iv15 (xs : List Watch) (ys : List Watch) : Nat → Option LoopInv := fun rg_ => match rg_ with
  | 4 => some (in15_4 xs ys)
  | _ => none
noncomputable def D15 : Nat → Option (Bool × FSpec) := lk [(51, (false, sp51))]
theorem da15 : SoundAll Tryd.prog D15 := soundAll_cons so51 (soundAll_nil)
noncomputable def cx15 (xs : List Watch) (ys : List Watch) : Cx := ⟨tt, D15, Tryd.f15.ntmps, [0, 1, 4, 5, 10, 14, 26], [(4, ⟨[(0, none), (1, none), (5, none)], []⟩)], [], iv15 xs ys, [], noM, []⟩
theorem bd15 (xs : List Watch) (ys : List Watch) (hpre : pr15 xs ys) : bodyP (cx15 xs ys) Tryd.f15 0 [encL (encWatch 1) 1 (xs), encL (encWatch 1) 1 (ys)] (fun rr => VLe rr (rs15 xs ys)) := by
  have key :
      (((((↑(List.length xs) : Int) != (↑(List.length ys) : Int)) = true) →
   (VLe (V.bool false) (V.bool (decide (xs = ys))))) ∧
   ((((↑(List.length xs) : Int) != (↑(List.length ys) : Int)) = false) →
   ((∃ x : Nat, ((SLe
   (AS.mk
   [(0, encL (encWatch 1) 1 xs), (1, encL (encWatch 1) 1 ys),
   (5, V.int IntKind.i64 (0 : Int))]
   [])
   (AS.mk
   [(0, encL (encWatch 1) 1 xs), (1, encL (encWatch 1) 1 ys),
   (5, V.int IntKind.i64 (↑x : Int))]
   [])) ∧
   ((x ≤ List.length xs) ∧
   ((List.length xs = List.length ys) ∧
   (∀ j : Nat,
   ((j < x) →
   (List.getD xs j default = List.getD ys j default))))))) ∧
   (∀ x : Nat,
   (((x ≤ List.length xs) ∧
   ((List.length xs = List.length ys) ∧
   (∀ j : Nat,
   ((j < x) →
   (List.getD xs j default = List.getD ys j default))))) →
   (((decide ((↑x : Int) < (↑(List.length xs) : Int)) = true) →
   ((((0 : Int) ≤ (↑x : Int)) ∧
   ((↑x : Int) < (↑(List.length xs) : Int))) ∧
   ((((0 : Int) ≤ (↑x : Int)) ∧
   ((↑x : Int) < (↑(List.length ys) : Int))) ∧
   (((VLe (encWatch 1 (List.getD xs (Int.toNat (↑x : Int)) default))
   (encWatch 1 (decWatch (encWatch 1 (List.getD xs (Int.toNat (↑x : Int)) default))))) ∧
   ((VLe (encWatch 1 (List.getD ys (Int.toNat (↑x : Int)) default))
   (encWatch 1 (decWatch (encWatch 1 (List.getD ys (Int.toNat (↑x : Int)) default))))) ∧
   (pr51 (decWatch (encWatch 1 (List.getD xs (Int.toNat (↑x : Int)) default)))
   (decWatch (encWatch 1 (List.getD ys (Int.toNat (↑x : Int)) default)))))) ∧
   ((((!decide
   (decWatch (encWatch 1 (List.getD xs (Int.toNat (↑x : Int)) default)) =
   decWatch (encWatch 1 (List.getD ys (Int.toNat (↑x : Int)) default)))) =
   true) →
   (VLe (V.bool false) (V.bool (decide (xs = ys))))) ∧
   (((!decide
   (decWatch (encWatch 1 (List.getD xs (Int.toNat (↑x : Int)) default)) =
   decWatch (encWatch 1 (List.getD ys (Int.toNat (↑x : Int)) default)))) =
   false) →
   ((inK IntKind.i64 ((↑x : Int) + (1 : Int))) ∧
   (∃ y : Nat, ((SLe
   (AS.mk
   [(0, encL (encWatch 1) 1 xs), (1, encL (encWatch 1) 1 ys),
   (5, V.int IntKind.i64 ((↑x : Int) + (1 : Int)))]
   [])
   (AS.mk
   [(0, encL (encWatch 1) 1 xs), (1, encL (encWatch 1) 1 ys),
   (5, V.int IntKind.i64 (↑y : Int))]
   [])) ∧
   (((y ≤ List.length xs) ∧
   ((List.length xs = List.length ys) ∧
   (∀ j : Nat,
   ((j < y) →
   (List.getD xs j default = List.getD ys j default))))) ∧
   (List.length xs - y < List.length xs - x))))))))))) ∧
   ((decide ((↑x : Int) < (↑(List.length xs) : Int)) = false) →
   (VLe (V.bool true) (V.bool (decide (xs = ys))))))))))) := by
    unfold pr15 maxLen at hpre
    obtain ⟨hpre, hel⟩ := hpre
    refine ⟨fun h => ?_, fun h => ?_⟩
    · refine vle_bool ?_
      have hne : xs ≠ ys := fun e => by subst e; simp at h
      simp [hne]
    · have hlen : xs.length = ys.length := by simp at h; omega
      refine ⟨⟨0, SLe.refl _, by omega, hlen, fun j hj => absurd hj (Nat.not_lt_zero j)⟩, ?_⟩
      rintro i ⟨hi, _, hj⟩
      refine ⟨fun h => ?_, fun h => ?_⟩
      · have hlt : i < xs.length := by simpa using h
        have hin : xs.getD i default ∈ xs := by simp [hlt]
        simp only [dec_encWatch, Int.toNat_natCast]
        refine ⟨⟨by omega, by omega⟩, ⟨by omega, by omega⟩, ⟨VLe.refl _, VLe.refl _, hel _ hin _⟩, fun h2 => ?_, fun h2 => ⟨inK64 (by omega), i + 1, SLe.refl _, ⟨by omega, hlen, fun j h3 => ?_⟩, by omega⟩⟩
        · refine vle_bool ?_
          have hne : xs ≠ ys := fun e => by subst e; simp at h2
          simp [hne]
        · rcases Nat.lt_or_ge j i with h4 | h4
          · exact hj j h4
          · have : j = i := by omega
            subst this
            simpa using h2
      · refine vle_bool ?_
        have hge : i = xs.length := by simp at h; omega
        have heq : xs = ys := by
          refine List.ext_getElem hlen fun k h1 h2 => ?_
          have := hj k (by omega)
          simpa [h1, h2] using this
        simp [heq]
  exact Eq.mp (by kernel_rfl) key
theorem so15 : Sound Tryd.prog 15 sp15 := by
  refine sound_of_body hmix (pol := 0) Tryd.func15 rfl (by kernel_rfl) fun args bin ob r bout hDe hob => ?_
  unfold sp15 at hDe
  split at hDe
  · rename_i a0 a1
    cases hDe
    exact ⟨rfl, rfl, Nat.le_of_ble_eq_true (by kernel_rfl), cx15 ((decL decWatch) a0) ((decL decWatch) a1), Eq.mp (by kernel_rfl) htt, Eq.mp (by kernel_rfl) da15, Eq.mp (by kernel_rfl) (noM_sound (P := Tryd.prog)), by kernel_rfl, [encL (encWatch 1) 1 (((decL decWatch) a0)), encL (encWatch 1) 1 (((decL decWatch) a1))], args_of_vles (⟨hob.1, hob.2.1, trivial⟩), Eq.mp (by kernel_rfl) (bd15 ((decL decWatch) a0) ((decL decWatch) a1) (hob.2.2))⟩
  · cases hDe

noncomputable def watchF (w : Watch) : Int := if ¬ inR w.client 1 9 then 3 else pathF w.path
noncomputable def watchE (l : List Watch) (i : Nat) : Int := if watchF (l.getD i default) ≠ 0 then watchF (l.getD i default) else if l.getD i default ∈ l.take i then 6 else 0
noncomputable def watchesF (l : List Watch) : Int := if 20 < l.length then 2 else scanE (watchE l) l.length
noncomputable def isW (w x : Watch) : Bool := decide (x = w)
noncomputable def atW (l : List Watch) (w : Watch) : Int := idxF (isW w) l
theorem isW_a (x w : Watch) : (x.client == w.client && strEq x.path w.path) = isW w x := by
  rw [strEq_dec]
  unfold isW
  rw [Bool.eq_iff_iff, decide_eq_true_eq, eq_Watch, Bool.and_eq_true, beq_iff_eq, decide_eq_true_eq]
theorem isW_b (x w : Watch) : (w.client == x.client && strEq w.path x.path) = isW w x := by
  rw [strEq_dec]
  unfold isW
  rw [Bool.eq_iff_iff, decide_eq_true_eq, eq_Watch, Bool.and_eq_true, beq_iff_eq, decide_eq_true_eq]
  exact ⟨fun h => ⟨h.1.symm, h.2.symm⟩, fun h => ⟨h.1.symm, h.2.symm⟩⟩
theorem atW_take {l : List Watch} {i : Nat} (h : i < l.length) : atW l (l.getD i default) = i ↔ ¬ l.getD i default ∈ l.take i := by
  constructor
  · intro e hm
    obtain ⟨_, _, h3⟩ := idxF_pre e
    obtain ⟨j, h1, h2, hx⟩ := mem_take.1 hm
    have := h3 j h1
    rw [hx] at this
    exact of_decide_eq_false this rfl
  · intro hm
    exact idxF_some h (fun j hj => decide_eq_false fun e => hm (mem_take.2 ⟨j, hj, by omega, e⟩)) (decide_eq_true rfl)

/-! ### impl.watchFault -/
def pr49 (w : Watch) : Prop := True
noncomputable def rs49 (w : Watch) : V := .int .i64 (watchF w)
noncomputable def sp49 : FSpec := fun args bin => match args, bin with
  | [a0], [] => some (VLe a0 (encWatch 1 ((decWatch a0))) ∧ pr49 (decWatch a0), rs49 (decWatch a0), [])
  | _, _ => none
noncomputable def D49 : Nat → Option (Bool × FSpec) := lk [(83, (false, sp83)), (72, (false, sp72))]
theorem da49 : SoundAll Tryd.prog D49 := soundAll_cons so83 (soundAll_cons so72 (soundAll_nil))
noncomputable def cx49 (w : Watch) : Cx := ⟨tt, D49, Tryd.f49.ntmps, [0, 1, 2, 6], [], [], fun _ => none, [], noM, []⟩
theorem bd49 (w : Watch) (hpre : pr49 w) : bodyP (cx49 w) Tryd.f49 0 [encWatch 1 (w)] (fun rr => VLe rr (rs49 w)) := by
  have key :
      ((pr83 (Watch.client w)) ∧
   ((((!decide (inR (Watch.client w) (1 : Int) (9 : Int))) = true) →
   (VLe (V.int IntKind.i64 (3 : Int)) (V.int IntKind.i64 (watchF w)))) ∧
   (((!decide (inR (Watch.client w) (1 : Int) (9 : Int))) = false) →
   ((pr72 (Watch.path w)) ∧
   (VLe (V.int IntKind.i64 (pathF (Watch.path w))) (V.int IntKind.i64 (watchF w))))))) := by
    refine ⟨trivial, fun h => ?_, fun h => ⟨trivial, ?_⟩⟩
    · have h1 : ¬ inR w.client 1 9 := by simpa using h
      exact vle_int (by unfold watchF; rw [if_pos h1])
    · have h1 : inR w.client 1 9 := by simpa using h
      exact vle_int (by unfold watchF; rw [if_neg (not_not_intro h1)])
  exact Eq.mp (by kernel_rfl) key
theorem so49 : Sound Tryd.prog 49 sp49 := by
  refine sound_of_body hmix (pol := 0) Tryd.func49 rfl (by kernel_rfl) fun args bin ob r bout hDe hob => ?_
  unfold sp49 at hDe
  split at hDe
  · rename_i a0
    cases hDe
    exact ⟨rfl, rfl, Nat.le_of_ble_eq_true (by kernel_rfl), cx49 (decWatch a0), Eq.mp (by kernel_rfl) htt, Eq.mp (by kernel_rfl) da49, Eq.mp (by kernel_rfl) (noM_sound (P := Tryd.prog)), by kernel_rfl, [encWatch 1 ((decWatch a0))], args_of_vles (⟨hob.1, trivial⟩), Eq.mp (by kernel_rfl) (bd49 (decWatch a0) (hob.2))⟩
  · cases hDe

/-! ### spec.l7Watch -/
def pr58 (w : Watch) : Prop := True
noncomputable def rs58 (w : Watch) : V := .int .i64 (watchF w)
noncomputable def sp58 : FSpec := fun args bin => match args, bin with
  | [a0], [] => some (VLe a0 (encPWatch 1 ((decPWatch a0))) ∧ pr58 (decPWatch a0), rs58 (decPWatch a0), [])
  | _, _ => none
noncomputable def D58 : Nat → Option (Bool × FSpec) := lk [(52, (false, sp52)), (53, (false, sp53))]
theorem da58 : SoundAll Tryd.prog D58 := soundAll_cons so52 (soundAll_cons so53 (soundAll_nil))
noncomputable def cx58 (w : Watch) : Cx := ⟨tt, D58, Tryd.f58.ntmps, [0, 2, 8], [], [], fun _ => none, [], noM, []⟩
theorem bd58 (w : Watch) (hpre : pr58 w) : bodyP (cx58 w) Tryd.f58 0 [encPWatch 1 (w)] (fun rr => VLe rr (rs58 w)) := by
  have key :
      ((pr52 (Watch.client w)) ∧
   ((((!decide (inR (Watch.client w) (1 : Int) (9 : Int))) = true) →
   (VLe (V.int IntKind.i64 (3 : Int)) (V.int IntKind.i64 (watchF w)))) ∧
   (((!decide (inR (Watch.client w) (1 : Int) (9 : Int))) = false) →
   ((pr53 (Watch.path w)) ∧
   (VLe (V.int IntKind.i64 (pathF (Watch.path w))) (V.int IntKind.i64 (watchF w))))))) := by
    refine ⟨trivial, fun h => ?_, fun h => ⟨trivial, ?_⟩⟩
    · have h1 : ¬ inR w.client 1 9 := by simpa using h
      exact vle_int (by unfold watchF; rw [if_pos h1])
    · have h1 : inR w.client 1 9 := by simpa using h
      exact vle_int (by unfold watchF; rw [if_neg (not_not_intro h1)])
  exact Eq.mp (by kernel_rfl) key
theorem so58 : Sound Tryd.prog 58 sp58 := by
  refine sound_of_body hmix (pol := 0) Tryd.func58 rfl (by kernel_rfl) fun args bin ob r bout hDe hob => ?_
  unfold sp58 at hDe
  split at hDe
  · rename_i a0
    cases hDe
    exact ⟨rfl, rfl, Nat.le_of_ble_eq_true (by kernel_rfl), cx58 (decPWatch a0), Eq.mp (by kernel_rfl) htt, Eq.mp (by kernel_rfl) da58, Eq.mp (by kernel_rfl) (noM_sound (P := Tryd.prog)), by kernel_rfl, [encPWatch 1 ((decPWatch a0))], args_of_vles (⟨hob.1, trivial⟩), Eq.mp (by kernel_rfl) (bd58 (decPWatch a0) (hob.2))⟩
  · cases hDe

/-! ### spec.l7At -/
def pr59 (xs : List Watch) (w : Watch) : Prop := xs.length ≤ maxLen
noncomputable def rs59 (xs : List Watch) (w : Watch) : V := .int .i64 (atW xs w)
noncomputable def sp59 : FSpec := fun args bin => match args, bin with
  | [a0, a1], [] => some (VLe a0 (encL (encWatch 1) 1 (((decL decWatch) a0))) ∧ VLe a1 (encWatch 1 ((decWatch a1))) ∧ pr59 ((decL decWatch) a0) (decWatch a1), rs59 ((decL decWatch) a0) (decWatch a1), [])
  | _, _ => none
noncomputable def in59_2 (xs : List Watch) (w : Watch) : LoopInv :=
  ⟨Nat, fun i => ⟨[(0, encL (encWatch 1) 1 xs), (3, .oref 256 0 0), (5, .int .i64 i)], [(256, .box (encWatch 1 w).cells)]⟩,
    fun i => i ≤ xs.length ∧ ∀ j, j < i → isW w (xs.getD j default) = false, fun i => xs.length - i⟩
noncomputable def iv59 (xs : List Watch) (w : Watch) : Nat → Option LoopInv := fun rg_ => match rg_ with
  | 2 => some (in59_2 xs w)
  | _ => none
noncomputable def D59 : Nat → Option (Bool × FSpec) := lk []
theorem da59 : SoundAll Tryd.prog D59 := soundAll_nil
noncomputable def cx59 (xs : List Watch) (w : Watch) : Cx := ⟨tt, D59, Tryd.f59.ntmps, [0, 1, 3, 4, 5, 9, 17], [(2, ⟨[(0, none), (3, none), (5, none)], [(256, [])]⟩)], [], iv59 xs w, [], noM, []⟩
theorem bd59 (xs : List Watch) (w : Watch) (hpre : pr59 xs w) : bodyP (cx59 xs w) Tryd.f59 0 [encL (encWatch 1) 1 (xs), encWatch 1 (w)] (fun rr => VLe rr (rs59 xs w)) := by
  have key :
      ((∃ x : Nat, ((SLe
   (AS.mk
   [(0, encL (encWatch 1) 1 xs), (3, V.oref 256 0 0),
   (5, V.int IntKind.i64 (0 : Int))]
   [(256, Blk.box [V.int IntKind.i64 (Watch.client w), V.str (Watch.path w)])])
   (AS.mk
   [(0, encL (encWatch 1) 1 xs), (3, V.oref 256 0 0),
   (5, V.int IntKind.i64 (↑x : Int))]
   [(256, Blk.box [V.int IntKind.i64 (Watch.client w), V.str (Watch.path w)])])) ∧
   ((x ≤ List.length xs) ∧
   (∀ j : Nat,
   ((j < x) →
   (isW w (List.getD xs j default) = false)))))) ∧
   (∀ x : Nat,
   (((x ≤ List.length xs) ∧
   (∀ j : Nat,
   ((j < x) →
   (isW w (List.getD xs j default) = false)))) →
   (((decide ((↑x : Int) < (↑(List.length xs) : Int)) = true) →
   ((((0 : Int) ≤ (↑x : Int)) ∧
   ((↑x : Int) < (↑(List.length xs) : Int))) ∧
   ((((Watch.client (List.getD xs (Int.toNat (↑x : Int)) default) == Watch.client w &&
   strEq (Watch.path (List.getD xs (Int.toNat (↑x : Int)) default)) (Watch.path w)) =
   true) →
   (VLe (V.int IntKind.i64 (↑x : Int)) (V.int IntKind.i64 (atW xs w)))) ∧
   (((Watch.client (List.getD xs (Int.toNat (↑x : Int)) default) == Watch.client w &&
   strEq (Watch.path (List.getD xs (Int.toNat (↑x : Int)) default)) (Watch.path w)) =
   false) →
   ((inK IntKind.i64 ((↑x : Int) + (1 : Int))) ∧
   (∃ y : Nat, ((SLe
   (AS.mk
   [(0, encL (encWatch 1) 1 xs), (3, V.oref 256 0 0),
   (5, V.int IntKind.i64 ((↑x : Int) + (1 : Int)))]
   [(256, Blk.box [V.int IntKind.i64 (Watch.client w), V.str (Watch.path w)])])
   (AS.mk
   [(0, encL (encWatch 1) 1 xs), (3, V.oref 256 0 0),
   (5, V.int IntKind.i64 (↑y : Int))]
   [(256, Blk.box [V.int IntKind.i64 (Watch.client w), V.str (Watch.path w)])])) ∧
   (((y ≤ List.length xs) ∧
   (∀ j : Nat,
   ((j < y) →
   (isW w (List.getD xs j default) = false)))) ∧
   (List.length xs - y < List.length xs - x))))))))) ∧
   ((decide ((↑x : Int) < (↑(List.length xs) : Int)) = false) →
   (VLe (V.int IntKind.i64 (-1 : Int)) (V.int IntKind.i64 (atW xs w)))))))) := by
    have hl : xs.length ≤ maxLen := hpre
    unfold maxLen at hl
    refine ⟨⟨0, SLe.refl _, by omega, fun j hj => absurd hj (Nat.not_lt_zero j)⟩, ?_⟩
    rintro i ⟨hi, hj⟩
    refine ⟨fun h => ?_, fun h => ?_⟩
    · have hlt : i < xs.length := by simpa using h
      rw [Int.toNat_natCast, isW_a]
      refine ⟨⟨by omega, by omega⟩, fun h2 => vle_int (idxF_some hlt hj h2).symm, fun h2 => ⟨inK64 (by omega), i + 1, SLe.refl _, ⟨by omega, fun j h3 => ?_⟩, by omega⟩⟩
      rcases Nat.lt_or_ge j i with h4 | h4
      · exact hj j h4
      · have : j = i := by omega
        subst this
        exact h2
    · have hge : i = xs.length := by simp at h; omega
      exact vle_int (idxF_none fun j h3 => hj j (by omega)).symm
  exact Eq.mp (by kernel_rfl) key
theorem so59 : Sound Tryd.prog 59 sp59 := by
  refine sound_of_body hmix (pol := 0) Tryd.func59 rfl (by kernel_rfl) fun args bin ob r bout hDe hob => ?_
  unfold sp59 at hDe
  split at hDe
  · rename_i a0 a1
    cases hDe
    exact ⟨rfl, rfl, Nat.le_of_ble_eq_true (by kernel_rfl), cx59 ((decL decWatch) a0) (decWatch a1), Eq.mp (by kernel_rfl) htt, Eq.mp (by kernel_rfl) da59, Eq.mp (by kernel_rfl) (noM_sound (P := Tryd.prog)), by kernel_rfl, [encL (encWatch 1) 1 (((decL decWatch) a0)), encWatch 1 ((decWatch a1))], args_of_vles (⟨hob.1, hob.2.1, trivial⟩), Eq.mp (by kernel_rfl) (bd59 ((decL decWatch) a0) (decWatch a1) (hob.2.2))⟩
  · cases hDe

/-! ### slices.Index(()loop.example/g00369/impl.Watch,loop.example/g00369/impl.Watch) -/
def pr94 (xs : List Watch) (w : Watch) : Prop := xs.length ≤ maxLen
noncomputable def rs94 (xs : List Watch) (w : Watch) : V := .int .i64 (atW xs w)
noncomputable def sp94 : FSpec := fun args bin => match args, bin with
  | [a0, a1], [] => some (VLe a0 (encL (encWatch 1) 1 (((decL decWatch) a0))) ∧ VLe a1 (encWatch 1 ((decWatch a1))) ∧ pr94 ((decL decWatch) a0) (decWatch a1), rs94 ((decL decWatch) a0) (decWatch a1), [])
  | _, _ => none
noncomputable def in94_2 (xs : List Watch) (w : Watch) : LoopInv :=
  ⟨Nat, fun i => ⟨[(0, encL (encWatch 1) 1 xs), (3, .oref 256 0 0), (7, .int .i64 xs.length), (8, .int .i64 i)], [(256, .box (encWatch 1 w).cells)]⟩,
    fun i => i ≤ xs.length ∧ ∀ j, j < i → isW w (xs.getD j default) = false, fun i => xs.length - i⟩
noncomputable def iv94 (xs : List Watch) (w : Watch) : Nat → Option LoopInv := fun rg_ => match rg_ with
  | 2 => some (in94_2 xs w)
  | _ => none
noncomputable def D94 : Nat → Option (Bool × FSpec) := lk []
theorem da94 : SoundAll Tryd.prog D94 := soundAll_nil
noncomputable def cx94 (xs : List Watch) (w : Watch) : Cx := ⟨tt, D94, Tryd.f94.ntmps, [0, 1, 3, 4, 5, 7, 8, 9, 16], [(2, ⟨[(0, none), (3, none), (7, none), (8, none)], [(256, [])]⟩)], [], iv94 xs w, [], noM, []⟩
theorem bd94 (xs : List Watch) (w : Watch) (hpre : pr94 xs w) : bodyP (cx94 xs w) Tryd.f94 0 [encL (encWatch 1) 1 (xs), encWatch 1 (w)] (fun rr => VLe rr (rs94 xs w)) := by
  have key :
      ((∃ x : Nat, ((SLe
   (AS.mk
   [(0, encL (encWatch 1) 1 xs), (3, V.oref 256 0 0),
   (7, V.int IntKind.i64 (↑(List.length xs) : Int)), (8, V.int IntKind.i64 (0 : Int))]
   [(256, Blk.box [V.int IntKind.i64 (Watch.client w), V.str (Watch.path w)])])
   (AS.mk
   [(0, encL (encWatch 1) 1 xs), (3, V.oref 256 0 0),
   (7, V.int IntKind.i64 (↑(List.length xs) : Int)), (8, V.int IntKind.i64 (↑x : Int))]
   [(256, Blk.box [V.int IntKind.i64 (Watch.client w), V.str (Watch.path w)])])) ∧
   ((x ≤ List.length xs) ∧
   (∀ j : Nat,
   ((j < x) →
   (isW w (List.getD xs j default) = false)))))) ∧
   (∀ x : Nat,
   (((x ≤ List.length xs) ∧
   (∀ j : Nat,
   ((j < x) →
   (isW w (List.getD xs j default) = false)))) →
   (((decide ((↑x : Int) < (↑(List.length xs) : Int)) = true) →
   ((((0 : Int) ≤ (↑x : Int)) ∧
   ((↑x : Int) < (↑(List.length xs) : Int))) ∧
   ((((Watch.client w == Watch.client (List.getD xs (Int.toNat (↑x : Int)) default) &&
   strEq (Watch.path w) (Watch.path (List.getD xs (Int.toNat (↑x : Int)) default))) =
   true) →
   (VLe (V.int IntKind.i64 (↑x : Int)) (V.int IntKind.i64 (atW xs w)))) ∧
   (((Watch.client w == Watch.client (List.getD xs (Int.toNat (↑x : Int)) default) &&
   strEq (Watch.path w) (Watch.path (List.getD xs (Int.toNat (↑x : Int)) default))) =
   false) →
   ((inK IntKind.i64 ((↑x : Int) + (1 : Int))) ∧
   (∃ y : Nat, ((SLe
   (AS.mk
   [(0, encL (encWatch 1) 1 xs), (3, V.oref 256 0 0),
   (7, V.int IntKind.i64 (↑(List.length xs) : Int)), (8, V.int IntKind.i64 ((↑x : Int) + (1 : Int)))]
   [(256, Blk.box [V.int IntKind.i64 (Watch.client w), V.str (Watch.path w)])])
   (AS.mk
   [(0, encL (encWatch 1) 1 xs), (3, V.oref 256 0 0),
   (7, V.int IntKind.i64 (↑(List.length xs) : Int)), (8, V.int IntKind.i64 (↑y : Int))]
   [(256, Blk.box [V.int IntKind.i64 (Watch.client w), V.str (Watch.path w)])])) ∧
   (((y ≤ List.length xs) ∧
   (∀ j : Nat,
   ((j < y) →
   (isW w (List.getD xs j default) = false)))) ∧
   (List.length xs - y < List.length xs - x))))))))) ∧
   ((decide ((↑x : Int) < (↑(List.length xs) : Int)) = false) →
   (VLe (V.int IntKind.i64 (-1 : Int)) (V.int IntKind.i64 (atW xs w)))))))) := by
    have hl : xs.length ≤ maxLen := hpre
    unfold maxLen at hl
    refine ⟨⟨0, SLe.refl _, by omega, fun j hj => absurd hj (Nat.not_lt_zero j)⟩, ?_⟩
    rintro i ⟨hi, hj⟩
    refine ⟨fun h => ?_, fun h => ?_⟩
    · have hlt : i < xs.length := by simpa using h
      rw [Int.toNat_natCast, isW_b]
      refine ⟨⟨by omega, by omega⟩, fun h2 => vle_int (idxF_some hlt hj h2).symm, fun h2 => ⟨inK64 (by omega), i + 1, SLe.refl _, ⟨by omega, fun j h3 => ?_⟩, by omega⟩⟩
      rcases Nat.lt_or_ge j i with h4 | h4
      · exact hj j h4
      · have : j = i := by omega
        subst this
        exact h2
    · have hge : i = xs.length := by simp at h; omega
      exact vle_int (idxF_none fun j h3 => hj j (by omega)).symm
  exact Eq.mp (by kernel_rfl) key
theorem so94 : Sound Tryd.prog 94 sp94 := by
  refine sound_of_body hmix (pol := 0) Tryd.func94 rfl (by kernel_rfl) fun args bin ob r bout hDe hob => ?_
  unfold sp94 at hDe
  split at hDe
  · rename_i a0 a1
    cases hDe
    exact ⟨rfl, rfl, Nat.le_of_ble_eq_true (by kernel_rfl), cx94 ((decL decWatch) a0) (decWatch a1), Eq.mp (by kernel_rfl) htt, Eq.mp (by kernel_rfl) da94, Eq.mp (by kernel_rfl) (noM_sound (P := Tryd.prog)), by kernel_rfl, [encL (encWatch 1) 1 (((decL decWatch) a0)), encWatch 1 ((decWatch a1))], args_of_vles (⟨hob.1, hob.2.1, trivial⟩), Eq.mp (by kernel_rfl) (bd94 ((decL decWatch) a0) (decWatch a1) (hob.2.2))⟩
  · cases hDe

/-! ### slices.Contains(()loop.example/g00369/impl.Watch,loop.example/g00369/impl.Watch) -/
def pr50 (xs : List Watch) (w : Watch) : Prop := xs.length ≤ maxLen
noncomputable def rs50 (xs : List Watch) (w : Watch) : V := .bool (decide (w ∈ xs))
noncomputable def sp50 : FSpec := fun args bin => match args, bin with
  | [a0, a1], [] => some (VLe a0 (encL (encWatch 1) 1 (((decL decWatch) a0))) ∧ VLe a1 (encWatch 1 ((decWatch a1))) ∧ pr50 ((decL decWatch) a0) (decWatch a1), rs50 ((decL decWatch) a0) (decWatch a1), [])
  | _, _ => none
noncomputable def D50 : Nat → Option (Bool × FSpec) := lk [(94, (false, sp94))]
theorem da50 : SoundAll Tryd.prog D50 := soundAll_cons so94 (soundAll_nil)
noncomputable def cx50 (xs : List Watch) (w : Watch) : Cx := ⟨tt, D50, Tryd.f50.ntmps, [0, 1, 3, 4], [], [], fun _ => none, [], noM, []⟩
theorem bd50 (xs : List Watch) (w : Watch) (hpre : pr50 xs w) : bodyP (cx50 xs w) Tryd.f50 0 [encL (encWatch 1) 1 (xs), encWatch 1 (w)] (fun rr => VLe rr (rs50 xs w)) := by
  have key :
      (((VLe (encL (encWatch 1) 1 xs)
   (encL (encWatch 1) 1 (decL decWatch (encL (encWatch 1) 1 xs)))) ∧
   ((VLe (encWatch 1 w) (encWatch 1 (decWatch (encWatch 1 w)))) ∧
   (pr94 (decL decWatch (encL (encWatch 1) 1 xs)) (decWatch (encWatch 1 w))))) ∧
   (VLe
   (V.bool
   (decide
   (atW (decL decWatch (encL (encWatch 1) 1 xs)) (decWatch (encWatch 1 w)) ≥ (0 : Int))))
   (V.bool (decide (w ∈ xs))))) := by
    simp only [decL_Watch, dec_encWatch]
    refine ⟨⟨VLe.refl _, VLe.refl _, hpre⟩, vle_bool ?_⟩
    have := idxF_nonneg (isW w) xs
    show decide (0 ≤ idxF (isW w) xs) = _
    rw [this, Bool.eq_iff_iff, decide_eq_true_eq, List.any_eq_true]
    unfold isW
    constructor
    · rintro ⟨x, hx, h⟩
      rw [← of_decide_eq_true h]
      exact hx
    · intro h
      exact ⟨w, h, decide_eq_true rfl⟩
  exact Eq.mp (by kernel_rfl) key
theorem so50 : Sound Tryd.prog 50 sp50 := by
  refine sound_of_body hmix (pol := 0) Tryd.func50 rfl (by kernel_rfl) fun args bin ob r bout hDe hob => ?_
  unfold sp50 at hDe
  split at hDe
  · rename_i a0 a1
    cases hDe
    exact ⟨rfl, rfl, Nat.le_of_ble_eq_true (by kernel_rfl), cx50 ((decL decWatch) a0) (decWatch a1), Eq.mp (by kernel_rfl) htt, Eq.mp (by kernel_rfl) da50, Eq.mp (by kernel_rfl) (noM_sound (P := Tryd.prog)), by kernel_rfl, [encL (encWatch 1) 1 (((decL decWatch) a0)), encWatch 1 ((decWatch a1))], args_of_vles (⟨hob.1, hob.2.1, trivial⟩), Eq.mp (by kernel_rfl) (bd50 ((decL decWatch) a0) (decWatch a1) (hob.2.2))⟩
  · cases hDe

/-! ### impl.WatchesFault -/
def pr14 (l : List Watch) : Prop := l.length ≤ maxLen
noncomputable def rs14 (l : List Watch) : V := .int .i64 (watchesF l)
noncomputable def sp14 : FSpec := fun args bin => match args, bin with
  | [a0], [] => some (VLe a0 (encL (encWatch 1) 1 (((decL decWatch) a0))) ∧ pr14 ((decL decWatch) a0), rs14 ((decL decWatch) a0), [])
  | _, _ => none
noncomputable def in14_4 (l : List Watch) : LoopInv :=
  ⟨Nat, fun i => ⟨[(0, encL (encWatch 1) 1 l), (9, encL (encWatch 1) 1 l), (10, .int .i64 l.length), (11, .int .i64 i)], []⟩,
    fun i => i ≤ l.length ∧ scanE (watchE l) i = 0, fun i => l.length - i⟩
noncomputable def iv14 (l : List Watch) : Nat → Option LoopInv := fun rg_ => match rg_ with
  | 4 => some (in14_4 l)
  | _ => none
noncomputable def D14 : Nat → Option (Bool × FSpec) := lk [(49, (false, sp49)), (50, (false, sp50))]
theorem da14 : SoundAll Tryd.prog D14 := soundAll_cons so49 (soundAll_cons so50 (soundAll_nil))
noncomputable def cx14 (l : List Watch) : Cx := ⟨tt, D14, Tryd.f14.ntmps, [0, 2, 3, 4, 5, 8, 9, 10, 11, 12, 19, 25], [(4, ⟨[(0, none), (9, none), (10, none), (11, none)], []⟩)], [], iv14 l, [], noM, []⟩
theorem bd14 (l : List Watch) (hpre : pr14 l) : bodyP (cx14 l) Tryd.f14 0 [encL (encWatch 1) 1 (l)] (fun rr => VLe rr (rs14 l)) := by
  have key :
      (((decide ((↑(List.length l) : Int) > (20 : Int)) = true) →
   (VLe (V.int IntKind.i64 (2 : Int)) (V.int IntKind.i64 (watchesF l)))) ∧
   ((decide ((↑(List.length l) : Int) > (20 : Int)) = false) →
   ((∃ x : Nat, ((SLe
   (AS.mk
   [(0, encL (encWatch 1) 1 l), (9, encL (encWatch 1) 1 l),
   (10, V.int IntKind.i64 (↑(List.length l) : Int)), (11, V.int IntKind.i64 (0 : Int))]
   [])
   (AS.mk
   [(0, encL (encWatch 1) 1 l), (9, encL (encWatch 1) 1 l),
   (10, V.int IntKind.i64 (↑(List.length l) : Int)), (11, V.int IntKind.i64 (↑x : Int))]
   [])) ∧
   ((x ≤ List.length l) ∧
   (scanE (watchE l) x = (0 : Int))))) ∧
   (∀ x : Nat,
   (((x ≤ List.length l) ∧
   (scanE (watchE l) x = (0 : Int))) →
   (((decide ((↑x : Int) < (↑(List.length l) : Int)) = true) →
   ((((0 : Int) ≤ (↑x : Int)) ∧
   ((↑x : Int) < (↑(List.length l) : Int))) ∧
   (((VLe (encWatch 1 (List.getD l (Int.toNat (↑x : Int)) default))
   (encWatch 1 (decWatch (encWatch 1 (List.getD l (Int.toNat (↑x : Int)) default))))) ∧
   (pr49 (decWatch (encWatch 1 (List.getD l (Int.toNat (↑x : Int)) default))))) ∧
   ((((watchF (decWatch (encWatch 1 (List.getD l (Int.toNat (↑x : Int)) default))) != (0 : Int)) = true) →
   (VLe (V.int IntKind.i64 (watchF (decWatch (encWatch 1 (List.getD l (Int.toNat (↑x : Int)) default)))))
   (V.int IntKind.i64 (watchesF l)))) ∧
   (((watchF (decWatch (encWatch 1 (List.getD l (Int.toNat (↑x : Int)) default))) != (0 : Int)) = false) →
   ((((0 : Int) ≤ Option.getD none (0 : Int)) ∧
   ((Option.getD none (0 : Int) ≤ Option.getD (some (↑x : Int)) (↑(List.length l) : Int)) ∧
   (Option.getD (some (↑x : Int)) (↑(List.length l) : Int) ≤ (↑(List.length l) : Int)))) ∧
   ((sizedL 2 (List.length l) (gL (encWatch 1) l)) ∧
   (((VLe
   (V.sl (Int.toNat (Option.getD (some (↑x : Int)) (↑(List.length l) : Int)) - 0)
   (match (motive := Option Int → Nat → V) none with
   | none => gL (encWatch 1) l
   | some val => dropg (gL (encWatch 1) l) 0)
   1)
   (encL (encWatch 1) 1
   (decL decWatch
   (V.sl (Int.toNat (Option.getD (some (↑x : Int)) (↑(List.length l) : Int)) - 0)
   (match (motive := Option Int → Nat → V) none with
   | none => gL (encWatch 1) l
   | some val => dropg (gL (encWatch 1) l) 0)
   1)))) ∧
   ((VLe (encWatch 1 (List.getD l (Int.toNat (↑x : Int)) default))
   (encWatch 1 (decWatch (encWatch 1 (List.getD l (Int.toNat (↑x : Int)) default))))) ∧
   (pr50
   (decL decWatch
   (V.sl (Int.toNat (Option.getD (some (↑x : Int)) (↑(List.length l) : Int)) - 0)
   (match (motive := Option Int → Nat → V) none with
   | none => gL (encWatch 1) l
   | some val => dropg (gL (encWatch 1) l) 0)
   1))
   (decWatch (encWatch 1 (List.getD l (Int.toNat (↑x : Int)) default)))))) ∧
   (((decide
   (decWatch (encWatch 1 (List.getD l (Int.toNat (↑x : Int)) default)) ∈
   decL decWatch
   (V.sl (Int.toNat (Option.getD (some (↑x : Int)) (↑(List.length l) : Int)) - 0)
   (match (motive := Option Int → Nat → V) none with
   | none => gL (encWatch 1) l
   | some val => dropg (gL (encWatch 1) l) 0)
   1)) =
   true) →
   (VLe (V.int IntKind.i64 (6 : Int)) (V.int IntKind.i64 (watchesF l)))) ∧
   ((decide
   (decWatch (encWatch 1 (List.getD l (Int.toNat (↑x : Int)) default)) ∈
   decL decWatch
   (V.sl (Int.toNat (Option.getD (some (↑x : Int)) (↑(List.length l) : Int)) - 0)
   (match (motive := Option Int → Nat → V) none with
   | none => gL (encWatch 1) l
   | some val => dropg (gL (encWatch 1) l) 0)
   1)) =
   false) →
   ((inK IntKind.i64 ((↑x : Int) + (1 : Int))) ∧
   (∃ y : Nat, ((SLe
   (AS.mk
   [(0, encL (encWatch 1) 1 l), (9, encL (encWatch 1) 1 l),
   (10, V.int IntKind.i64 (↑(List.length l) : Int)),
   (11, V.int IntKind.i64 ((↑x : Int) + (1 : Int)))]
   [])
   (AS.mk
   [(0, encL (encWatch 1) 1 l), (9, encL (encWatch 1) 1 l),
   (10, V.int IntKind.i64 (↑(List.length l) : Int)), (11, V.int IntKind.i64 (↑y : Int))]
   [])) ∧
   (((y ≤ List.length l) ∧
   (scanE (watchE l) y = (0 : Int))) ∧
   (List.length l - y < List.length l - x))))))))))))))) ∧
   ((decide ((↑x : Int) < (↑(List.length l) : Int)) = false) →
   (VLe (V.int IntKind.i64 (0 : Int)) (V.int IntKind.i64 (watchesF l)))))))))) := by
    have hl : l.length ≤ maxLen := hpre
    unfold maxLen at hl
    refine ⟨fun h => ?_, fun h => ?_⟩
    · have h1 : 20 < l.length := by have := of_decide_eq_true h; omega
      exact vle_int (by unfold watchesF; rw [if_pos h1])
    have h1 : ¬ 20 < l.length := by have := of_decide_eq_false h; omega
    have e1 : watchesF l = scanE (watchE l) l.length := if_neg h1
    refine ⟨⟨0, SLe.refl _, by omega, rfl⟩, ?_⟩
    rintro i ⟨hi, hz⟩
    refine ⟨fun h2 => ?_, fun h2 => ?_⟩
    · have hlt : i < l.length := by simpa using h2
      simp only [dec_encWatch, dec_encPWatch, decL_Watch, Int.toNat_natCast]
      have stop : ∀ c, c = watchE l i → c ≠ 0 → VLe (.int .i64 c) (.int .i64 (watchesF l)) := fun c hc h0 => vle_int (by
        rw [e1, scanE_stop hz (by rw [← hc]; exact h0) _ hlt, hc])
      refine ⟨⟨by omega, by omega⟩, ⟨VLe.refl _, trivial⟩, fun h3 => ?_, fun h3 => ?_⟩
      · have h4 : watchF (l.getD i default) ≠ 0 := by simpa using h3
        exact stop _ (by unfold watchE; rw [if_pos h4]) h4
      have h4 : ¬ watchF (l.getD i default) ≠ 0 := by simpa using h3
      have e2 : watchE l i = if l.getD i default ∈ l.take i then 6 else 0 := if_neg h4
      simp only [Option.getD_some, Option.getD_none, Int.toNat_natCast, Nat.sub_zero, decL_take (dec_encWatch 1) 1 l i hi]
      refine ⟨⟨by omega, by omega, by omega⟩, fun k hk => ⟨rfl, rfl⟩, ⟨vle_take hi, VLe.refl _, by show (l.take i).length ≤ maxLen; rw [List.length_take]; unfold maxLen; omega⟩, fun h5 => ?_, fun h5 => ⟨inK64 (by omega), i + 1, SLe.refl _, ⟨by omega, ?_⟩, by omega⟩⟩
      · exact stop _ (by rw [e2, if_pos (of_decide_eq_true h5)]) (by decide)
      · exact scanE_next hz (by rw [e2, if_neg (of_decide_eq_false h5)])
    · have hge : i = l.length := by simp at h2; omega
      exact vle_int (by rw [e1, ← hge, hz])
  exact Eq.mp (by kernel_rfl) key
theorem so14 : Sound Tryd.prog 14 sp14 := by
  refine sound_of_body hmix (pol := 0) Tryd.func14 rfl (by kernel_rfl) fun args bin ob r bout hDe hob => ?_
  unfold sp14 at hDe
  split at hDe
  · rename_i a0
    cases hDe
    exact ⟨rfl, rfl, Nat.le_of_ble_eq_true (by kernel_rfl), cx14 ((decL decWatch) a0), Eq.mp (by kernel_rfl) htt, Eq.mp (by kernel_rfl) da14, Eq.mp (by kernel_rfl) (noM_sound (P := Tryd.prog)), by kernel_rfl, [encL (encWatch 1) 1 (((decL decWatch) a0))], args_of_vles (⟨hob.1, trivial⟩), Eq.mp (by kernel_rfl) (bd14 ((decL decWatch) a0) (hob.2))⟩
  · cases hDe

/-! ### spec.l7Fault -/
def pr48 (l : List Watch) : Prop := l.length ≤ maxLen
noncomputable def rs48 (l : List Watch) : V := .int .i64 (watchesF l)
noncomputable def sp48 : FSpec := fun args bin => match args, bin with
  | [a0], [] => some (VLe a0 (encL (encWatch 1) 1 (((decL decWatch) a0))) ∧ pr48 ((decL decWatch) a0), rs48 ((decL decWatch) a0), [])
  | _, _ => none
noncomputable def in48_4 (l : List Watch) : LoopInv :=
  ⟨Nat, fun i => ⟨[(0, encL (encWatch 1) 1 l), (3, .int .i64 i)], []⟩,
    fun i => i ≤ l.length ∧ scanE (watchE l) i = 0, fun i => l.length - i⟩
noncomputable def iv48 (l : List Watch) : Nat → Option LoopInv := fun rg_ => match rg_ with
  | 4 => some (in48_4 l)
  | _ => none
noncomputable def D48 : Nat → Option (Bool × FSpec) := lk [(58, (false, sp58)), (59, (false, sp59))]
theorem da48 : SoundAll Tryd.prog D48 := soundAll_cons so58 (soundAll_cons so59 (soundAll_nil))
noncomputable def cx48 (l : List Watch) : Cx := ⟨tt, D48, Tryd.f48.ntmps, [0, 2, 3, 4, 7, 11, 19, 28], [(4, ⟨[(0, none), (3, none)], []⟩)], [], iv48 l, [], noM, []⟩
theorem bd48 (l : List Watch) (hpre : pr48 l) : bodyP (cx48 l) Tryd.f48 0 [encL (encWatch 1) 1 (l)] (fun rr => VLe rr (rs48 l)) := by
  have key :
      (((decide ((↑(List.length l) : Int) > (20 : Int)) = true) →
   (VLe (V.int IntKind.i64 (2 : Int)) (V.int IntKind.i64 (watchesF l)))) ∧
   ((decide ((↑(List.length l) : Int) > (20 : Int)) = false) →
   ((∃ x : Nat, ((SLe (AS.mk [(0, encL (encWatch 1) 1 l), (3, V.int IntKind.i64 (0 : Int))] [])
   (AS.mk [(0, encL (encWatch 1) 1 l), (3, V.int IntKind.i64 (↑x : Int))] [])) ∧
   ((x ≤ List.length l) ∧
   (scanE (watchE l) x = (0 : Int))))) ∧
   (∀ x : Nat,
   (((x ≤ List.length l) ∧
   (scanE (watchE l) x = (0 : Int))) →
   (((decide ((↑x : Int) < (↑(List.length l) : Int)) = true) →
   ((((0 : Int) ≤ (↑x : Int)) ∧
   ((↑x : Int) < (↑(List.length l) : Int))) ∧
   (((VLe (encPWatch 1 (List.getD l (Int.toNat (↑x : Int)) default))
   (encPWatch 1 (decPWatch (encPWatch 1 (List.getD l (Int.toNat (↑x : Int)) default))))) ∧
   (pr58 (decPWatch (encPWatch 1 (List.getD l (Int.toNat (↑x : Int)) default))))) ∧
   ((((watchF (decPWatch (encPWatch 1 (List.getD l (Int.toNat (↑x : Int)) default))) != (0 : Int)) = true) →
   (VLe (V.int IntKind.i64 (watchF (decPWatch (encPWatch 1 (List.getD l (Int.toNat (↑x : Int)) default)))))
   (V.int IntKind.i64 (watchesF l)))) ∧
   (((watchF (decPWatch (encPWatch 1 (List.getD l (Int.toNat (↑x : Int)) default))) != (0 : Int)) = false) →
   ((((0 : Int) ≤ (↑x : Int)) ∧
   ((↑x : Int) < (↑(List.length l) : Int))) ∧
   (((VLe (encL (encWatch 1) 1 l)
   (encL (encWatch 1) 1 (decL decWatch (encL (encWatch 1) 1 l)))) ∧
   ((VLe (encWatch 1 (List.getD l (Int.toNat (↑x : Int)) default))
   (encWatch 1 (decWatch (encWatch 1 (List.getD l (Int.toNat (↑x : Int)) default))))) ∧
   (pr59 (decL decWatch (encL (encWatch 1) 1 l))
   (decWatch (encWatch 1 (List.getD l (Int.toNat (↑x : Int)) default)))))) ∧
   ((((atW (decL decWatch (encL (encWatch 1) 1 l))
   (decWatch (encWatch 1 (List.getD l (Int.toNat (↑x : Int)) default))) !=
   (↑x : Int)) =
   true) →
   (VLe (V.int IntKind.i64 (6 : Int)) (V.int IntKind.i64 (watchesF l)))) ∧
   (((atW (decL decWatch (encL (encWatch 1) 1 l))
   (decWatch (encWatch 1 (List.getD l (Int.toNat (↑x : Int)) default))) !=
   (↑x : Int)) =
   false) →
   ((inK IntKind.i64 ((↑x : Int) + (1 : Int))) ∧
   (∃ y : Nat, ((SLe
   (AS.mk [(0, encL (encWatch 1) 1 l), (3, V.int IntKind.i64 ((↑x : Int) + (1 : Int)))]
   [])
   (AS.mk [(0, encL (encWatch 1) 1 l), (3, V.int IntKind.i64 (↑y : Int))] [])) ∧
   (((y ≤ List.length l) ∧
   (scanE (watchE l) y = (0 : Int))) ∧
   (List.length l - y < List.length l - x)))))))))))))) ∧
   ((decide ((↑x : Int) < (↑(List.length l) : Int)) = false) →
   (VLe (V.int IntKind.i64 (0 : Int)) (V.int IntKind.i64 (watchesF l)))))))))) := by
    have hl : l.length ≤ maxLen := hpre
    unfold maxLen at hl
    refine ⟨fun h => ?_, fun h => ?_⟩
    · have h1 : 20 < l.length := by have := of_decide_eq_true h; omega
      exact vle_int (by unfold watchesF; rw [if_pos h1])
    have h1 : ¬ 20 < l.length := by have := of_decide_eq_false h; omega
    have e1 : watchesF l = scanE (watchE l) l.length := if_neg h1
    refine ⟨⟨0, SLe.refl _, by omega, rfl⟩, ?_⟩
    rintro i ⟨hi, hz⟩
    refine ⟨fun h2 => ?_, fun h2 => ?_⟩
    · have hlt : i < l.length := by simpa using h2
      simp only [dec_encWatch, dec_encPWatch, decL_Watch, Int.toNat_natCast]
      have stop : ∀ c, c = watchE l i → c ≠ 0 → VLe (.int .i64 c) (.int .i64 (watchesF l)) := fun c hc h0 => vle_int (by
        rw [e1, scanE_stop hz (by rw [← hc]; exact h0) _ hlt, hc])
      refine ⟨⟨by omega, by omega⟩, ⟨VLe.refl _, trivial⟩, fun h3 => ?_, fun h3 => ?_⟩
      · have h4 : watchF (l.getD i default) ≠ 0 := by simpa using h3
        exact stop _ (by unfold watchE; rw [if_pos h4]) h4
      have h4 : ¬ watchF (l.getD i default) ≠ 0 := by simpa using h3
      have e2 : watchE l i = if l.getD i default ∈ l.take i then 6 else 0 := if_neg h4
      have hk := atW_take hlt
      refine ⟨⟨by omega, by omega⟩, ⟨VLe.refl _, VLe.refl _, hpre⟩, fun h5 => ?_, fun h5 => ⟨inK64 (by omega), i + 1, SLe.refl _, ⟨by omega, ?_⟩, by omega⟩⟩
      · have h6 : atW l (l.getD i default) ≠ i := by simpa using h5
        exact stop _ (by rw [e2, if_pos (Classical.byContradiction fun g => h6 (hk.2 g))]) (by decide)
      · have h6 : atW l (l.getD i default) = i := by simpa using h5
        exact scanE_next hz (by rw [e2, if_neg (hk.1 h6)])
    · have hge : i = l.length := by simp at h2; omega
      exact vle_int (by rw [e1, ← hge, hz])
  exact Eq.mp (by kernel_rfl) key
theorem so48 : Sound Tryd.prog 48 sp48 := by
  refine sound_of_body hmix (pol := 0) Tryd.func48 rfl (by kernel_rfl) fun args bin ob r bout hDe hob => ?_
  unfold sp48 at hDe
  split at hDe
  · rename_i a0
    cases hDe
    exact ⟨rfl, rfl, Nat.le_of_ble_eq_true (by kernel_rfl), cx48 ((decL decWatch) a0), Eq.mp (by kernel_rfl) htt, Eq.mp (by kernel_rfl) da48, Eq.mp (by kernel_rfl) (noM_sound (P := Tryd.prog)), by kernel_rfl, [encL (encWatch 1) 1 (((decL decWatch) a0))], args_of_vles (⟨hob.1, trivial⟩), Eq.mp (by kernel_rfl) (bd48 ((decL decWatch) a0) (hob.2))⟩
  · cases hDe

/-! ### spec.WatchesFault -/
def pr12 (l : List Watch) : Prop := l.length ≤ maxLen
noncomputable def rs12 (l : List Watch) : V := .int .i64 (watchesF l)
noncomputable def sp12 : FSpec := fun args bin => match args, bin with
  | [a0], [] => some (VLe a0 (encL (encWatch 1) 1 (((decL decWatch) a0))) ∧ pr12 ((decL decWatch) a0), rs12 ((decL decWatch) a0), [])
  | _, _ => none
noncomputable def D12 : Nat → Option (Bool × FSpec) := lk [(48, (false, sp48))]
theorem da12 : SoundAll Tryd.prog D12 := soundAll_cons so48 (soundAll_nil)
noncomputable def cx12 (l : List Watch) : Cx := ⟨tt, D12, Tryd.f12.ntmps, [0, 2], [], [], fun _ => none, [], noM, []⟩
theorem bd12 (l : List Watch) (hpre : pr12 l) : bodyP (cx12 l) Tryd.f12 0 [encL (encWatch 1) 1 (l)] (fun rr => VLe rr (rs12 l)) := by
  have key :
      (((VLe (encL (encWatch 1) 1 l)
   (encL (encWatch 1) 1 (decL decWatch (encL (encWatch 1) 1 l)))) ∧
   (pr48 (decL decWatch (encL (encWatch 1) 1 l)))) ∧
   (VLe (V.int IntKind.i64 (watchesF (decL decWatch (encL (encWatch 1) 1 l))))
   (V.int IntKind.i64 (watchesF l)))) := by
    simp only [decL_Watch]
    exact ⟨⟨VLe.refl _, hpre⟩, VLe.refl _⟩
  exact Eq.mp (by kernel_rfl) key
theorem so12 : Sound Tryd.prog 12 sp12 := by
  refine sound_of_body hmix (pol := 0) Tryd.func12 rfl (by kernel_rfl) fun args bin ob r bout hDe hob => ?_
  unfold sp12 at hDe
  split at hDe
  · rename_i a0
    cases hDe
    exact ⟨rfl, rfl, Nat.le_of_ble_eq_true (by kernel_rfl), cx12 ((decL decWatch) a0), Eq.mp (by kernel_rfl) htt, Eq.mp (by kernel_rfl) da12, Eq.mp (by kernel_rfl) (noM_sound (P := Tryd.prog)), by kernel_rfl, [encL (encWatch 1) 1 (((decL decWatch) a0))], args_of_vles (⟨hob.1, trivial⟩), Eq.mp (by kernel_rfl) (bd12 ((decL decWatch) a0) (hob.2))⟩
  · cases hDe

/-! ### laws.FnExactWatchesFault -/
def pr3 (l : List Watch) : Prop := l.length ≤ maxLen ∧ ∀ x ∈ l, x.bd
noncomputable def rs3 (l : List Watch) : V := .bool (true)
def Q3 (vs : List V) : Prop := ∃ (l : List Watch), ArgsLe vs [encL (encWatch 1) 1 (l)] ∧ pr3 l
noncomputable def D3 : Nat → Option (Bool × FSpec) := lk [(11, (false, sp11)), (13, (false, sp13)), (15, (false, sp15)), (12, (false, sp12)), (14, (false, sp14))]
theorem da3 : SoundAll Tryd.prog D3 := soundAll_cons so11 (soundAll_cons so13 (soundAll_cons so15 (soundAll_cons so12 (soundAll_cons so14 (soundAll_nil)))))
noncomputable def cx3 (l : List Watch) : Cx := ⟨tt, D3, Tryd.f3.ntmps, [0, 2, 3, 4, 5, 6, 11, 21, 26], [], [], fun _ => none, [], noM, []⟩
theorem bd3 (l : List Watch) (hpre : pr3 l) : bodyP (cx3 l) Tryd.f3 0 [encL (encWatch 1) 1 (l)] (fun rr => VLe rr (rs3 l)) := by
  have key :
      (((VLe (encL (encWatch 1) 1 l)
   (encL (encWatch 1) 1 (decL decWatch (encL (encWatch 1) 1 l)))) ∧
   (pr11 (decL decWatch (encL (encWatch 1) 1 l)) (1048576 : Int))) ∧
   (((decide (szS szWatch (decL decWatch (encL (encWatch 1) 1 l)) (1048576 : Int) < (0 : Int)) = true) →
   (VLe (V.bool true) (V.bool true))) ∧
   ((decide (szS szWatch (decL decWatch (encL (encWatch 1) 1 l)) (1048576 : Int) < (0 : Int)) = false) →
   (((VLe (encL (encWatch 1) 1 l)
   (encL (encWatch 1) 1 (decL decWatch (encL (encWatch 1) 1 l)))) ∧
   (pr13 (decL decWatch (encL (encWatch 1) 1 l)))) ∧
   (((VLe (encL (encWatch 1) 1 (decL decWatch (encL (encWatch 1) 1 l)))
   (encL (encWatch 1) 1
   (decL decWatch (encL (encWatch 1) 1 (decL decWatch (encL (encWatch 1) 1 l)))))) ∧
   (pr12 (decL decWatch (encL (encWatch 1) 1 (decL decWatch (encL (encWatch 1) 1 l)))))) ∧
   (((VLe (encL (encWatch 1) 1 l)
   (encL (encWatch 1) 1 (decL decWatch (encL (encWatch 1) 1 l)))) ∧
   (pr13 (decL decWatch (encL (encWatch 1) 1 l)))) ∧
   (((VLe (encL (encWatch 1) 1 (decL decWatch (encL (encWatch 1) 1 l)))
   (encL (encWatch 1) 1
   (decL decWatch (encL (encWatch 1) 1 (decL decWatch (encL (encWatch 1) 1 l)))))) ∧
   (pr14 (decL decWatch (encL (encWatch 1) 1 (decL decWatch (encL (encWatch 1) 1 l)))))) ∧
   ((((watchesF
   (decL decWatch (encL (encWatch 1) 1 (decL decWatch (encL (encWatch 1) 1 l)))) !=
   watchesF
   (decL decWatch (encL (encWatch 1) 1 (decL decWatch (encL (encWatch 1) 1 l))))) =
   true) →
   (VLe (V.bool false) (V.bool true))) ∧
   (((watchesF
   (decL decWatch (encL (encWatch 1) 1 (decL decWatch (encL (encWatch 1) 1 l)))) !=
   watchesF
   (decL decWatch (encL (encWatch 1) 1 (decL decWatch (encL (encWatch 1) 1 l))))) =
   false) →
   (((VLe (encL (encWatch 1) 1 l)
   (encL (encWatch 1) 1 (decL decWatch (encL (encWatch 1) 1 l)))) ∧
   (pr13 (decL decWatch (encL (encWatch 1) 1 l)))) ∧
   (((VLe (encL (encWatch 1) 1 (decL decWatch (encL (encWatch 1) 1 l)))
   (encL (encWatch 1) 1
   (decL decWatch (encL (encWatch 1) 1 (decL decWatch (encL (encWatch 1) 1 l)))))) ∧
   ((VLe (encL (encWatch 1) 1 (decL decWatch (encL (encWatch 1) 1 l)))
   (encL (encWatch 1) 1
   (decL decWatch (encL (encWatch 1) 1 (decL decWatch (encL (encWatch 1) 1 l)))))) ∧
   (pr15 (decL decWatch (encL (encWatch 1) 1 (decL decWatch (encL (encWatch 1) 1 l))))
   (decL decWatch (encL (encWatch 1) 1 (decL decWatch (encL (encWatch 1) 1 l))))))) ∧
   ((((!decide
   (decL decWatch (encL (encWatch 1) 1 (decL decWatch (encL (encWatch 1) 1 l))) =
   decL decWatch (encL (encWatch 1) 1 (decL decWatch (encL (encWatch 1) 1 l))))) =
   true) →
   (VLe (V.bool false) (V.bool true))) ∧
   (((!decide
   (decL decWatch (encL (encWatch 1) 1 (decL decWatch (encL (encWatch 1) 1 l))) =
   decL decWatch (encL (encWatch 1) 1 (decL decWatch (encL (encWatch 1) 1 l))))) =
   false) →
   (VLe (V.bool true) (V.bool true))))))))))))))) := by
    obtain ⟨hl, hb⟩ := hpre
    have hl' := hl
    unfold maxLen at hl'
    have f1 := @szS_bd _ szWatch l 1048576
    simp only [decL_Watch]
    refine ⟨⟨VLe.refl _, by omega, by unfold most; omega, hl, hb⟩, fun h => VLe.refl _, fun h => ?_⟩
    have g1 := f1 (of_decide_eq_false h)
    have p1 : pr13 l := ⟨by unfold most; omega, fun x hx => trivial⟩
    have p2 : pr15 l l := ⟨hl, fun x hx y => trivial⟩
    repeat' (first | exact VLe.refl _ | exact p1 | exact p2 | exact hl | apply And.intro | intro _)
    all_goals simp_all
  exact Eq.mp (by kernel_rfl) key
theorem so3 : Sound Tryd.prog 3 (lawD Q3) := by
  refine sound_of_body hmix (pol := 0) Tryd.func3 rfl (by kernel_rfl) fun args bin ob r bout hDe hob => ?_
  unfold lawD at hDe
  split at hDe
  · cases hDe
    obtain ⟨l, hle, hpre⟩ := hob
    have hlen : args.length = 1 := hle.1.symm
    exact ⟨rfl, rfl, by rw [hlen]; exact Nat.le_of_ble_eq_true (by kernel_rfl), cx3 l, Eq.mp (by kernel_rfl) htt, Eq.mp (by kernel_rfl) da3, Eq.mp (by kernel_rfl) (noM_sound (P := Tryd.prog)), by kernel_rfl, _, hle, Eq.mp (by kernel_rfl) (bd3 l hpre)⟩
  · cases hDe

end Go.Av
