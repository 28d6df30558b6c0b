/- Copies whose memory is the caller's own. -/
import Derived.Test.YtnfelcpanphhlaaGreatK1
namespace Go.Av
open Go.Proofs
set_option maxRecDepth 100000
set_option linter.unusedVariables false
set_option linter.unusedSimpArgs false

theorem ble_nil {α : Type} [Inhabited α] (enc : α → V) {sz te te' : Nat} {g : Nat → V} : BLe (.arr sz 0 g te) (.arr sz ([] : List α).length (gL enc []) te') := ble_arr (fun i hi => absurd hi (Nat.not_lt_zero i)) (Or.inr (Or.inr (Or.inr rfl)))


/-! ### laws.toInt64S%o -/
def pr108o (xs : List Int) : Prop := xs.length ≤ most
noncomputable def ro108o (xs : List Int) : List Int := xs
noncomputable def rb108o (xs : List Int) : List Blk := [(.arr 1 (ro108o xs).length (gL encI (ro108o xs)) tagS)]
noncomputable def rs108o (xs : List Int) : V := .osl 0 (ro108o xs).length
noncomputable def sp108o : FSpec := fun args bin => match args, bin with
  | [a0], [] => some (VLe a0 (encL encI 1 (((decL decI) a0))) ∧ pr108o ((decL decI) a0), rs108o ((decL decI) a0), rb108o ((decL decI) a0))
  | _, _ => none
noncomputable def in108o_3 (xs : List Int) : LoopInv :=
  ⟨Nat × List Int, fun p => ⟨[(0, encL encI 1 xs), (3, .osl (canonT 3) xs.length), (4, .int .i64 p.1)], [(canonT 3, .arr 1 xs.length (gL encI p.2) tagS)]⟩,
    fun p => p.1 ≤ xs.length ∧ p.2.length = xs.length ∧ ∀ j, j < p.1 → p.2.getD j default = xs.getD j default, fun p => xs.length - p.1⟩
noncomputable def iv108o (xs : List Int) : Nat → Option LoopInv := fun rg_ => match rg_ with
  | 3 => some (in108o_3 xs)
  | _ => none
noncomputable def D108o : Nat → Option (Bool × FSpec) := lk []
theorem da108o : SoundAll Tryz.prog D108o := soundAll_nil
noncomputable def cx108o (xs : List Int) : Cx := ⟨tt, D108o, Tryz.f108.ntmps, [0, 2, 3, 4, 11], [(3, ⟨[(0, none), (3, some 1), (4, none)], []⟩)], [], iv108o xs, [], noM, []⟩
theorem bd108o (xs : List Int) (hpre : pr108o xs) : bodyO (cx108o xs) Tryz.f108 [(0, 1)] [encL encI 1 (xs)] [] (fun rr bs => VLe rr (rs108o xs) ∧ BinLe bs (rb108o xs)) := by
  have key :
      ((((0 : Int) ≤ (↑(List.length xs) : Int)) ∧
   (((↑(List.length xs) : Int) ≤ (↑(List.length xs) : Int)) ∧
   ((↑(List.length xs) : Int) ≤ (↑1073741824 : Int)))) ∧
   ((∃ x : Nat × List Int, ((SLe
   (AS.mk
   [(0, encL encI 1 xs), (3, V.osl 32000256 (Int.toNat (↑(List.length xs) : Int))),
   (4, V.int IntKind.i64 (0 : Int))]
   [(32000256,
   Blk.arr 1 (Int.toNat (↑(List.length xs) : Int)) (fun (x : Nat) ↦ V.int IntKind.i64 (0 : Int))
   100)])
   (AS.mk
   [(0, encL encI 1 xs), (3, V.osl 32000256 (List.length xs)),
   (4, V.int IntKind.i64 (↑(Prod.fst x) : Int))]
   [(32000256, Blk.arr 1 (List.length xs) (gL encI (Prod.snd x)) 100)])) ∧
   ((Prod.fst x ≤ List.length xs) ∧
   ((List.length (Prod.snd x) = List.length xs) ∧
   (∀ j : Nat,
   ((j < Prod.fst x) →
   (List.getD (Prod.snd x) j default = List.getD xs j default))))))) ∧
   (∀ x : Nat × List Int,
   (((Prod.fst x ≤ List.length xs) ∧
   ((List.length (Prod.snd x) = List.length xs) ∧
   (∀ j : Nat,
   ((j < Prod.fst x) →
   (List.getD (Prod.snd x) j default = List.getD xs j default))))) →
   (((decide ((↑(Prod.fst x) : Int) < (↑(List.length xs) : Int)) = true) →
   ((((0 : Int) ≤ (↑(Prod.fst x) : Int)) ∧
   ((↑(Prod.fst x) : Int) < (↑(List.length xs) : Int))) ∧
   ((((0 : Int) ≤ (↑(Prod.fst x) : Int)) ∧
   ((↑(Prod.fst x) : Int) < (↑(List.length xs) : Int))) ∧
   ((Int.toNat (↑(Prod.fst x) : Int) < List.length xs) ∧
   ((inK IntKind.i64 ((↑(Prod.fst x) : Int) + (1 : Int))) ∧
   (∃ y : Nat × List Int, ((SLe
   (AS.mk
   [(0, encL encI 1 xs), (3, V.osl 32000256 (List.length xs)),
   (4, V.int IntKind.i64 ((↑(Prod.fst x) : Int) + (1 : Int)))]
   [(32000256,
   Blk.arr 1 (List.length xs)
   (setg (gL encI (Prod.snd x)) (Int.toNat (↑(Prod.fst x) : Int))
   (V.int IntKind.i64 (List.getD xs (Int.toNat (↑(Prod.fst x) : Int)) default)))
   100)])
   (AS.mk
   [(0, encL encI 1 xs), (3, V.osl 32000256 (List.length xs)),
   (4, V.int IntKind.i64 (↑(Prod.fst y) : Int))]
   [(32000256, Blk.arr 1 (List.length xs) (gL encI (Prod.snd y)) 100)])) ∧
   (((Prod.fst y ≤ List.length xs) ∧
   ((List.length (Prod.snd y) = List.length xs) ∧
   (∀ j : Nat,
   ((j < Prod.fst y) →
   (List.getD (Prod.snd y) j default = List.getD xs j default))))) ∧
   (List.length xs - Prod.fst y < List.length xs - Prod.fst x))))))))) ∧
   ((decide ((↑(Prod.fst x) : Int) < (↑(List.length xs) : Int)) = false) →
   ((VLe (V.osl 0 (List.length xs)) (V.osl 0 (List.length (ro108o xs)))) ∧
   ((BLe (Blk.arr 1 (List.length xs) (gL encI (Prod.snd x)) 100)
   (Blk.arr 1 (List.length (ro108o xs)) (gL encI (ro108o xs)) 100)) ∧
   (True))))))))) := by
    unfold pr108o most at hpre
    refine ⟨⟨by omega, by omega, by omega⟩, ⟨(0, List.replicate xs.length default), ?_, by simp, by simp, fun j hj => absurd hj (Nat.not_lt_zero j)⟩, ?_⟩
    · refine sle_of ⟨rfl, VLe.refl _, rfl, VLe.refl _, rfl, VLe.refl _, trivial⟩ ⟨rfl, ?_, trivial⟩
      refine ble_arr (fun i hi => ?_) (Or.inl rfl)
      have hi' : i < xs.length := hi
      have e1 : gL encI (List.replicate xs.length default) i = encI default := by simp [gL, hi']
      rw [e1]
      exact zele_I
    · rintro ⟨i, ys⟩ ⟨hi, hl, hj⟩
      simp only at hi hl hj ⊢
      refine ⟨fun h => ?_, fun h => ?_⟩
      · have hlt : i < xs.length := by simpa using h
        refine ⟨⟨by omega, by omega⟩, ⟨by omega, by omega⟩, by simpa using hlt, inK64 (by omega), (i + 1, ys.set i (xs.getD i default)), ?_, ⟨by simp only; omega, by simpa using hl, fun j h2 => ?_⟩, by simp only; omega⟩
        · refine sle_of ⟨rfl, VLe.refl _, rfl, VLe.refl _, rfl, vle_int (by simp), trivial⟩ ⟨rfl, ?_, trivial⟩
          refine ble_arr (fun k hk => ?_) (Or.inl rfl)
          simp only [setg, gL, Int.toNat_natCast]
          by_cases e : k = i
          · subst e
            rw [if_pos rfl, getD_set_eq _ _ _ _ (by omega)]
            exact ELe.refl _
          · rw [if_neg e, getD_set_ne _ _ _ _ e]
            exact ELe.refl _
        · simp only at h2 ⊢
          by_cases e : j = i
          · subst e; rw [getD_set_eq _ _ _ _ (by omega)]
          · rw [getD_set_ne _ _ _ _ e]; exact hj j (by omega)
      · have hge : i = xs.length := by simp at h; omega
        refine ⟨VLe.refl _, ble_arr (fun k hk => ?_) (Or.inl rfl), trivial⟩
        show ELe _ (gL encI xs k)
        simp only [gL]
        rw [hj k (by omega)]
        exact ELe.refl _
  exact Eq.mp (by kernel_rfl) key
theorem so108o : Sound Tryz.prog 108 sp108o := by
  refine sound_of_bodyO hmix (tpl := [(0, 1)]) Tryz.func108 rfl (by kernel_rfl) fun args bin ob r bout hDe hob => ?_
  unfold sp108o at hDe
  split at hDe
  · rename_i a0
    cases hDe
    exact ⟨Nat.le_of_ble_eq_true (by kernel_rfl), cx108o ((decL decI) a0), Eq.mp (by kernel_rfl) htt, Eq.mp (by kernel_rfl) da108o, Eq.mp (by kernel_rfl) (noM_sound (P := Tryz.prog)), by kernel_rfl, [encL encI 1 (((decL decI) a0))], [], args_of_vles (⟨hob.1, trivial⟩), trivial, Eq.mp (by kernel_rfl) (bd108o ((decL decI) a0) (hob.2))⟩
  · cases hDe

/-! ### laws.toCertS%o -/
def pr107o (xs : List Cert) : Prop := xs.length ≤ most ∧ ∀ x ∈ xs, pr143 x
noncomputable def ro107o (xs : List Cert) : List Cert := xs
noncomputable def rb107o (xs : List Cert) : List Blk := [(.arr 3 (ro107o xs).length (gL (encCert 1) (ro107o xs)) tagS)]
noncomputable def rs107o (xs : List Cert) : V := .osl 0 (ro107o xs).length
noncomputable def sp107o : FSpec := fun args bin => match args, bin with
  | [a0], [] => some (VLe a0 (encL (encCert 1) 1 (((decL decCert) a0))) ∧ pr107o ((decL decCert) a0), rs107o ((decL decCert) a0), rb107o ((decL decCert) a0))
  | _, _ => none
noncomputable def in107o_3 (xs : List Cert) : LoopInv :=
  ⟨Nat × List Cert, fun p => ⟨[(0, encL (encCert 1) 1 xs), (3, .osl (canonT 3) xs.length), (4, .int .i64 p.1)], [(canonT 3, .arr 3 xs.length (gL (encCert 1) p.2) tagS)]⟩,
    fun p => p.1 ≤ xs.length ∧ p.2.length = xs.length ∧ ∀ j, j < p.1 → p.2.getD j default = xs.getD j default, fun p => xs.length - p.1⟩
noncomputable def iv107o (xs : List Cert) : Nat → Option LoopInv := fun rg_ => match rg_ with
  | 3 => some (in107o_3 xs)
  | _ => none
noncomputable def D107o : Nat → Option (Bool × FSpec) := lk [(143, (false, sp143))]
theorem da107o : SoundAll Tryz.prog D107o := soundAll_cons so143 (soundAll_nil)
noncomputable def cx107o (xs : List Cert) : Cx := ⟨tt, D107o, Tryz.f107.ntmps, [0, 2, 3, 4, 11], [(3, ⟨[(0, none), (3, some 3), (4, none)], []⟩)], [], iv107o xs, [], noM, []⟩
theorem bd107o (xs : List Cert) (hpre : pr107o xs) : bodyO (cx107o xs) Tryz.f107 [(0, 3)] [encL (encCert 1) 1 (xs)] [] (fun rr bs => VLe rr (rs107o xs) ∧ BinLe bs (rb107o xs)) := by
  have key :
      ((((0 : Int) ≤ (↑(List.length xs) : Int)) ∧
   (((↑(List.length xs) : Int) ≤ (↑(List.length xs) : Int)) ∧
   ((↑(List.length xs) : Int) ≤ (↑1073741824 : Int)))) ∧
   ((∃ x : Nat × List Cert, ((SLe
   (AS.mk
   [(0, encL (encCert 1) 1 xs),
   (3, V.osl 32000256 (Int.toNat (↑(List.length xs) : Int))),
   (4, V.int IntKind.i64 (0 : Int))]
   [(32000256,
   Blk.arr 3 (Int.toNat (↑(List.length xs) : Int))
   (fun (x : Nat) ↦
   V.agg [V.int IntKind.i64 (0 : Int), V.int IntKind.i64 (0 : Int), V.int IntKind.i64 (0 : Int)])
   100)])
   (AS.mk
   [(0, encL (encCert 1) 1 xs), (3, V.osl 32000256 (List.length xs)),
   (4, V.int IntKind.i64 (↑(Prod.fst x) : Int))]
   [(32000256, Blk.arr 3 (List.length xs) (gL (encCert 1) (Prod.snd x)) 100)])) ∧
   ((Prod.fst x ≤ List.length xs) ∧
   ((List.length (Prod.snd x) = List.length xs) ∧
   (∀ j : Nat,
   ((j < Prod.fst x) →
   (List.getD (Prod.snd x) j default = List.getD xs j default))))))) ∧
   (∀ x : Nat × List Cert,
   (((Prod.fst x ≤ List.length xs) ∧
   ((List.length (Prod.snd x) = List.length xs) ∧
   (∀ j : Nat,
   ((j < Prod.fst x) →
   (List.getD (Prod.snd x) j default = List.getD xs j default))))) →
   (((decide ((↑(Prod.fst x) : Int) < (↑(List.length xs) : Int)) = true) →
   ((((0 : Int) ≤ (↑(Prod.fst x) : Int)) ∧
   ((↑(Prod.fst x) : Int) < (↑(List.length xs) : Int))) ∧
   (((VLe (encCert 1 (List.getD xs (Int.toNat (↑(Prod.fst x) : Int)) default))
   (encCert 1 (decCert (encCert 1 (List.getD xs (Int.toNat (↑(Prod.fst x) : Int)) default))))) ∧
   (pr143 (decCert (encCert 1 (List.getD xs (Int.toNat (↑(Prod.fst x) : Int)) default))))) ∧
   ((((0 : Int) ≤ (↑(Prod.fst x) : Int)) ∧
   ((↑(Prod.fst x) : Int) < (↑(List.length xs) : Int))) ∧
   ((Int.toNat (↑(Prod.fst x) : Int) < List.length xs) ∧
   ((inK IntKind.i64 ((↑(Prod.fst x) : Int) + (1 : Int))) ∧
   (∃ y : Nat × List Cert, ((SLe
   (AS.mk
   [(0, encL (encCert 1) 1 xs), (3, V.osl 32000256 (List.length xs)),
   (4, V.int IntKind.i64 ((↑(Prod.fst x) : Int) + (1 : Int)))]
   [(32000256,
   Blk.arr 3 (List.length xs)
   (setg (gL (encCert 1) (Prod.snd x)) (Int.toNat (↑(Prod.fst x) : Int))
   (encCert 1 (decCert (encCert 1 (List.getD xs (Int.toNat (↑(Prod.fst x) : Int)) default)))))
   100)])
   (AS.mk
   [(0, encL (encCert 1) 1 xs), (3, V.osl 32000256 (List.length xs)),
   (4, V.int IntKind.i64 (↑(Prod.fst y) : Int))]
   [(32000256, Blk.arr 3 (List.length xs) (gL (encCert 1) (Prod.snd y)) 100)])) ∧
   (((Prod.fst y ≤ List.length xs) ∧
   ((List.length (Prod.snd y) = List.length xs) ∧
   (∀ j : Nat,
   ((j < Prod.fst y) →
   (List.getD (Prod.snd y) j default = List.getD xs j default))))) ∧
   (List.length xs - Prod.fst y < List.length xs - Prod.fst x)))))))))) ∧
   ((decide ((↑(Prod.fst x) : Int) < (↑(List.length xs) : Int)) = false) →
   ((VLe (V.osl 0 (List.length xs)) (V.osl 0 (List.length (ro107o xs)))) ∧
   ((BLe (Blk.arr 3 (List.length xs) (gL (encCert 1) (Prod.snd x)) 100)
   (Blk.arr 3 (List.length (ro107o xs)) (gL (encCert 1) (ro107o xs)) 100)) ∧
   (True))))))))) := by
    unfold pr107o most at hpre
    obtain ⟨hpre, hel⟩ := hpre
    refine ⟨⟨by omega, by omega, by omega⟩, ⟨(0, List.replicate xs.length default), ?_, by simp, by simp, fun j hj => absurd hj (Nat.not_lt_zero j)⟩, ?_⟩
    · refine sle_of ⟨rfl, VLe.refl _, rfl, VLe.refl _, rfl, VLe.refl _, trivial⟩ ⟨rfl, ?_, trivial⟩
      refine ble_arr (fun i hi => ?_) (Or.inl rfl)
      have hi' : i < xs.length := hi
      have e1 : gL (encCert 1) (List.replicate xs.length default) i = (encCert 1) default := by simp [gL, hi']
      rw [e1]
      exact zele_Cert
    · rintro ⟨i, ys⟩ ⟨hi, hl, hj⟩
      simp only at hi hl hj ⊢
      refine ⟨fun h => ?_, fun h => ?_⟩
      · have hlt : i < xs.length := by simpa using h
        have hin : xs.getD i default ∈ xs := by simp [hlt]
        simp only [dec_encCert, Int.toNat_natCast]
        refine ⟨⟨by omega, by omega⟩, ⟨VLe.refl _, hel _ hin⟩, ⟨by omega, by omega⟩, by simpa using hlt, inK64 (by omega), (i + 1, ys.set i (xs.getD i default)), ?_, ⟨by simp only; omega, by simpa using hl, fun j h2 => ?_⟩, by simp only; omega⟩
        · refine sle_of ⟨rfl, VLe.refl _, rfl, VLe.refl _, rfl, vle_int (by simp), trivial⟩ ⟨rfl, ?_, trivial⟩
          refine ble_arr (fun k hk => ?_) (Or.inl rfl)
          simp only [setg, gL, Int.toNat_natCast]
          by_cases e : k = i
          · subst e
            rw [if_pos rfl, getD_set_eq _ _ _ _ (by omega)]
            exact ele_Cert _ _ _
          · rw [if_neg e, getD_set_ne _ _ _ _ e]
            exact ELe.refl _
        · simp only at h2 ⊢
          by_cases e : j = i
          · subst e; rw [getD_set_eq _ _ _ _ (by omega)]
          · rw [getD_set_ne _ _ _ _ e]; exact hj j (by omega)
      · have hge : i = xs.length := by simp at h; omega
        refine ⟨VLe.refl _, ble_arr (fun k hk => ?_) (Or.inl rfl), trivial⟩
        show ELe _ (gL (encCert 1) xs k)
        simp only [gL]
        rw [hj k (by omega)]
        exact ELe.refl _
  exact Eq.mp (by kernel_rfl) key
theorem so107o : Sound Tryz.prog 107 sp107o := by
  refine sound_of_bodyO hmix (tpl := [(0, 3)]) Tryz.func107 rfl (by kernel_rfl) fun args bin ob r bout hDe hob => ?_
  unfold sp107o at hDe
  split at hDe
  · rename_i a0
    cases hDe
    exact ⟨Nat.le_of_ble_eq_true (by kernel_rfl), cx107o ((decL decCert) a0), Eq.mp (by kernel_rfl) htt, Eq.mp (by kernel_rfl) da107o, Eq.mp (by kernel_rfl) (noM_sound (P := Tryz.prog)), by kernel_rfl, [encL (encCert 1) 1 (((decL decCert) a0))], [], args_of_vles (⟨hob.1, trivial⟩), trivial, Eq.mp (by kernel_rfl) (bd107o ((decL decCert) a0) (hob.2))⟩
  · cases hDe

/-! ### laws.toMsgS%o -/
def pr22o (xs : List Msg) : Prop := xs.length ≤ most ∧ ∀ x ∈ xs, pr64 x
noncomputable def ro22o (xs : List Msg) : List Msg := xs
noncomputable def rb22o (xs : List Msg) : List Blk := [(.arr 7 (ro22o xs).length (gL (encMsg 1) (ro22o xs)) 2)]
noncomputable def rs22o (xs : List Msg) : V := .osl 0 (ro22o xs).length
noncomputable def sp22o : FSpec := fun args bin => match args, bin with
  | [a0], [] => some (VLe a0 (encL (encMsg 1) 1 (((decL decMsg) a0))) ∧ pr22o ((decL decMsg) a0), rs22o ((decL decMsg) a0), rb22o ((decL decMsg) a0))
  | _, _ => none
noncomputable def in22o_3 (xs : List Msg) : LoopInv :=
  ⟨Nat × List Msg, fun p => ⟨[(0, encL (encMsg 1) 1 xs), (3, .osl (canonT 3) xs.length), (4, .int .i64 p.1)], [(canonT 3, .arr 7 xs.length (gL (encMsg 1) p.2) 2)]⟩,
    fun p => p.1 ≤ xs.length ∧ p.2.length = xs.length ∧ ∀ j, j < p.1 → p.2.getD j default = xs.getD j default, fun p => xs.length - p.1⟩
noncomputable def iv22o (xs : List Msg) : Nat → Option LoopInv := fun rg_ => match rg_ with
  | 3 => some (in22o_3 xs)
  | _ => none
noncomputable def D22o : Nat → Option (Bool × FSpec) := lk [(64, (false, sp64))]
theorem da22o : SoundAll Tryz.prog D22o := soundAll_cons so64 (soundAll_nil)
noncomputable def cx22o (xs : List Msg) : Cx := ⟨tt, D22o, Tryz.f22.ntmps, [0, 2, 3, 4, 11], [(3, ⟨[(0, none), (3, some 7), (4, none)], []⟩)], [], iv22o xs, [], noM, []⟩
theorem bd22o (xs : List Msg) (hpre : pr22o xs) : bodyO (cx22o xs) Tryz.f22 [(0, 7)] [encL (encMsg 1) 1 (xs)] [] (fun rr bs => VLe rr (rs22o xs) ∧ BinLe bs (rb22o xs)) := by
  have key :
      ((((0 : Int) ≤ (↑(List.length xs) : Int)) ∧
   (((↑(List.length xs) : Int) ≤ (↑(List.length xs) : Int)) ∧
   ((↑(List.length xs) : Int) ≤ (↑1073741824 : Int)))) ∧
   ((∃ x : Nat × List Msg, ((SLe
   (AS.mk
   [(0, encL (encMsg 1) 1 xs),
   (3, V.osl 32000256 (Int.toNat (↑(List.length xs) : Int))),
   (4, V.int IntKind.i64 (0 : Int))]
   [(32000256,
   Blk.arr 7 (Int.toNat (↑(List.length xs) : Int))
   (fun (x : Nat) ↦
   V.agg
   [V.int IntKind.i64 (0 : Int), V.int IntKind.i64 (0 : Int), V.int IntKind.i64 (0 : Int),
   V.int IntKind.i64 (0 : Int), V.int IntKind.i64 (0 : Int), V.nil, V.nil])
   2)])
   (AS.mk
   [(0, encL (encMsg 1) 1 xs), (3, V.osl 32000256 (List.length xs)),
   (4, V.int IntKind.i64 (↑(Prod.fst x) : Int))]
   [(32000256, Blk.arr 7 (List.length xs) (gL (encMsg 1) (Prod.snd x)) 2)])) ∧
   ((Prod.fst x ≤ List.length xs) ∧
   ((List.length (Prod.snd x) = List.length xs) ∧
   (∀ j : Nat,
   ((j < Prod.fst x) →
   (List.getD (Prod.snd x) j default = List.getD xs j default))))))) ∧
   (∀ x : Nat × List Msg,
   (((Prod.fst x ≤ List.length xs) ∧
   ((List.length (Prod.snd x) = List.length xs) ∧
   (∀ j : Nat,
   ((j < Prod.fst x) →
   (List.getD (Prod.snd x) j default = List.getD xs j default))))) →
   (((decide ((↑(Prod.fst x) : Int) < (↑(List.length xs) : Int)) = true) →
   ((((0 : Int) ≤ (↑(Prod.fst x) : Int)) ∧
   ((↑(Prod.fst x) : Int) < (↑(List.length xs) : Int))) ∧
   (((VLe (encMsg 1 (List.getD xs (Int.toNat (↑(Prod.fst x) : Int)) default))
   (encMsg 1 (decMsg (encMsg 1 (List.getD xs (Int.toNat (↑(Prod.fst x) : Int)) default))))) ∧
   (pr64 (decMsg (encMsg 1 (List.getD xs (Int.toNat (↑(Prod.fst x) : Int)) default))))) ∧
   ((((0 : Int) ≤ (↑(Prod.fst x) : Int)) ∧
   ((↑(Prod.fst x) : Int) < (↑(List.length xs) : Int))) ∧
   ((Int.toNat (↑(Prod.fst x) : Int) < List.length xs) ∧
   ((inK IntKind.i64 ((↑(Prod.fst x) : Int) + (1 : Int))) ∧
   (∃ y : Nat × List Msg, ((SLe
   (AS.mk
   [(0, encL (encMsg 1) 1 xs), (3, V.osl 32000256 (List.length xs)),
   (4, V.int IntKind.i64 ((↑(Prod.fst x) : Int) + (1 : Int)))]
   [(32000256,
   Blk.arr 7 (List.length xs)
   (setg (gL (encMsg 1) (Prod.snd x)) (Int.toNat (↑(Prod.fst x) : Int))
   (encMsg 220 (decMsg (encMsg 1 (List.getD xs (Int.toNat (↑(Prod.fst x) : Int)) default)))))
   2)])
   (AS.mk
   [(0, encL (encMsg 1) 1 xs), (3, V.osl 32000256 (List.length xs)),
   (4, V.int IntKind.i64 (↑(Prod.fst y) : Int))]
   [(32000256, Blk.arr 7 (List.length xs) (gL (encMsg 1) (Prod.snd y)) 2)])) ∧
   (((Prod.fst y ≤ List.length xs) ∧
   ((List.length (Prod.snd y) = List.length xs) ∧
   (∀ j : Nat,
   ((j < Prod.fst y) →
   (List.getD (Prod.snd y) j default = List.getD xs j default))))) ∧
   (List.length xs - Prod.fst y < List.length xs - Prod.fst x)))))))))) ∧
   ((decide ((↑(Prod.fst x) : Int) < (↑(List.length xs) : Int)) = false) →
   ((VLe (V.osl 0 (List.length xs)) (V.osl 0 (List.length (ro22o xs)))) ∧
   ((BLe (Blk.arr 7 (List.length xs) (gL (encMsg 1) (Prod.snd x)) 2)
   (Blk.arr 7 (List.length (ro22o xs)) (gL (encMsg 1) (ro22o xs)) 2)) ∧
   (True))))))))) := by
    unfold pr22o most at hpre
    obtain ⟨hpre, hel⟩ := hpre
    refine ⟨⟨by omega, by omega, by omega⟩, ⟨(0, List.replicate xs.length default), ?_, by simp, by simp, fun j hj => absurd hj (Nat.not_lt_zero j)⟩, ?_⟩
    · refine sle_of ⟨rfl, VLe.refl _, rfl, VLe.refl _, rfl, VLe.refl _, trivial⟩ ⟨rfl, ?_, trivial⟩
      refine ble_arr (fun i hi => ?_) (Or.inl rfl)
      have hi' : i < xs.length := hi
      have e1 : gL (encMsg 1) (List.replicate xs.length default) i = (encMsg 1) default := by simp [gL, hi']
      rw [e1]
      exact zele_Msg
    · rintro ⟨i, ys⟩ ⟨hi, hl, hj⟩
      simp only at hi hl hj ⊢
      refine ⟨fun h => ?_, fun h => ?_⟩
      · have hlt : i < xs.length := by simpa using h
        have hin : xs.getD i default ∈ xs := by simp [hlt]
        simp only [dec_encMsg, Int.toNat_natCast]
        refine ⟨⟨by omega, by omega⟩, ⟨VLe.refl _, hel _ hin⟩, ⟨by omega, by omega⟩, by simpa using hlt, inK64 (by omega), (i + 1, ys.set i (xs.getD i default)), ?_, ⟨by simp only; omega, by simpa using hl, fun j h2 => ?_⟩, by simp only; omega⟩
        · refine sle_of ⟨rfl, VLe.refl _, rfl, VLe.refl _, rfl, vle_int (by simp), trivial⟩ ⟨rfl, ?_, trivial⟩
          refine ble_arr (fun k hk => ?_) (Or.inl rfl)
          simp only [setg, gL, Int.toNat_natCast]
          by_cases e : k = i
          · subst e
            rw [if_pos rfl, getD_set_eq _ _ _ _ (by omega)]
            exact ele_Msg _ _ _
          · rw [if_neg e, getD_set_ne _ _ _ _ e]
            exact ELe.refl _
        · simp only at h2 ⊢
          by_cases e : j = i
          · subst e; rw [getD_set_eq _ _ _ _ (by omega)]
          · rw [getD_set_ne _ _ _ _ e]; exact hj j (by omega)
      · have hge : i = xs.length := by simp at h; omega
        refine ⟨VLe.refl _, ble_arr (fun k hk => ?_) (Or.inl rfl), trivial⟩
        show ELe _ (gL (encMsg 1) xs k)
        simp only [gL]
        rw [hj k (by omega)]
        exact ELe.refl _
  exact Eq.mp (by kernel_rfl) key
theorem so22o : Sound Tryz.prog 22 sp22o := by
  refine sound_of_bodyO hmix (tpl := [(0, 7)]) Tryz.func22 rfl (by kernel_rfl) fun args bin ob r bout hDe hob => ?_
  unfold sp22o at hDe
  split at hDe
  · rename_i a0
    cases hDe
    exact ⟨Nat.le_of_ble_eq_true (by kernel_rfl), cx22o ((decL decMsg) a0), Eq.mp (by kernel_rfl) htt, Eq.mp (by kernel_rfl) da22o, Eq.mp (by kernel_rfl) (noM_sound (P := Tryz.prog)), by kernel_rfl, [encL (encMsg 1) 1 (((decL decMsg) a0))], [], args_of_vles (⟨hob.1, trivial⟩), trivial, Eq.mp (by kernel_rfl) (bd22o ((decL decMsg) a0) (hob.2))⟩
  · cases hDe

/-! ### laws.toMsg%o -/
def pr64o (x : Msg) : Prop := x.certs.length ≤ most ∧ x.refs.length ≤ most
noncomputable def ro64o (x : Msg) : Msg := x
noncomputable def rb64o (x : Msg) : List Blk := [(.arr 3 ((ro64o x).certs).length (gL (encCert 1) ((ro64o x).certs)) tagS), (.arr 1 ((ro64o x).refs).length (gL encI ((ro64o x).refs)) tagS)]
noncomputable def rs64o (x : Msg) : V := .agg [.int .i64 ((ro64o x).kind), .int .i64 ((ro64o x).view), .int .i64 ((ro64o x).sender), .int .i64 ((ro64o x).slot), .int .i64 ((ro64o x).value), .osl 0 ((ro64o x).certs).length, .osl 1 ((ro64o x).refs).length]
noncomputable def sp64o : FSpec := fun args bin => match args, bin with
  | [a0], [] => some (VLe a0 (encMsg 1 ((decMsg a0))) ∧ pr64o (decMsg a0), rs64o (decMsg a0), rb64o (decMsg a0))
  | _, _ => none
noncomputable def D64o : Nat → Option (Bool × FSpec) := lk [(107, (false, sp107o)), (108, (false, sp108o))]
theorem da64o : SoundAll Tryz.prog D64o := soundAll_cons so107o (soundAll_cons so108o (soundAll_nil))
noncomputable def cx64o (x : Msg) : Cx := ⟨tt, D64o, Tryz.f64.ntmps, [0, 1, 2, 3], [], [], fun _ => none, [], noM, []⟩
theorem bd64o (x : Msg) (hpre : pr64o x) : bodyO (cx64o x) Tryz.f64 [(5, 3), (6, 1)] [encMsg 1 (x)] [] (fun rr bs => VLe rr (rs64o x) ∧ BinLe bs (rb64o x)) := by
  have key :
      (((VLe (encL (encCert 1) 1 (Msg.certs x))
   (encL (encCert 1) 1 (decL decCert (encL (encCert 1) 1 (Msg.certs x))))) ∧
   (pr107o (decL decCert (encL (encCert 1) 1 (Msg.certs x))))) ∧
   (((VLe (encL encI 1 (Msg.refs x)) (encL encI 1 (decL decI (encL encI 1 (Msg.refs x))))) ∧
   (pr108o (decL decI (encL encI 1 (Msg.refs x))))) ∧
   ((VLe
   (V.agg
   [V.int IntKind.i64 (Msg.kind x), V.int IntKind.i64 (Msg.view x), V.int IntKind.i64 (Msg.sender x),
   V.int IntKind.i64 (Msg.slot x), V.int IntKind.i64 (Msg.value x),
   V.osl 0 (List.length (ro107o (decL decCert (encL (encCert 1) 1 (Msg.certs x))))),
   V.osl 1 (List.length (ro108o (decL decI (encL encI 1 (Msg.refs x)))))])
   (V.agg
   [V.int IntKind.i64 (Msg.kind (ro64o x)), V.int IntKind.i64 (Msg.view (ro64o x)),
   V.int IntKind.i64 (Msg.sender (ro64o x)), V.int IntKind.i64 (Msg.slot (ro64o x)),
   V.int IntKind.i64 (Msg.value (ro64o x)), V.osl 0 (List.length (Msg.certs (ro64o x))),
   V.osl 1 (List.length (Msg.refs (ro64o x)))])) ∧
   ((BLe
   (Blk.arr 3 (List.length (ro107o (decL decCert (encL (encCert 1) 1 (Msg.certs x)))))
   (gL (encCert 1) (ro107o (decL decCert (encL (encCert 1) 1 (Msg.certs x))))) 100)
   (Blk.arr 3 (List.length (Msg.certs (ro64o x))) (gL (encCert 1) (Msg.certs (ro64o x))) 100)) ∧
   ((BLe
   (Blk.arr 1 (List.length (ro108o (decL decI (encL encI 1 (Msg.refs x)))))
   (gL encI (ro108o (decL decI (encL encI 1 (Msg.refs x))))) 100)
   (Blk.arr 1 (List.length (Msg.refs (ro64o x))) (gL encI (Msg.refs (ro64o x))) 100)) ∧
   (True)))))) := by
    obtain ⟨h1, h2⟩ := hpre
    simp only [decL_Cert, decL_ints, ro64o, ro107o, ro108o]
    exact ⟨⟨VLe.refl _, h1, fun _ _ => trivial⟩, ⟨VLe.refl _, h2⟩, VLe.refl _, BLe.refl _, BLe.refl _, trivial⟩
  exact Eq.mp (by kernel_rfl) key
theorem so64o : Sound Tryz.prog 64 sp64o := by
  refine sound_of_bodyO hmix (tpl := [(5, 3), (6, 1)]) Tryz.func64 rfl (by kernel_rfl) fun args bin ob r bout hDe hob => ?_
  unfold sp64o at hDe
  split at hDe
  · rename_i a0
    cases hDe
    exact ⟨Nat.le_of_ble_eq_true (by kernel_rfl), cx64o (decMsg a0), Eq.mp (by kernel_rfl) htt, Eq.mp (by kernel_rfl) da64o, Eq.mp (by kernel_rfl) (noM_sound (P := Tryz.prog)), by kernel_rfl, [encMsg 1 ((decMsg a0))], [], args_of_vles (⟨hob.1, trivial⟩), trivial, Eq.mp (by kernel_rfl) (bd64o (decMsg a0) (hob.2))⟩
  · cases hDe

end Go.Av
