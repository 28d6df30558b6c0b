/- Copies whose memory is the caller's own. -/
import Derived.Test.YtfbciaffgpbcoaaGreatK1
namespace Go.Av
open Go.Proofs
set_option maxRecDepth 100000
set_option linter.unusedVariables false
set_option linter.unusedSimpArgs false

theorem ble_nil {α : Type} [Inhabited α] (enc : α → V) {sz te te' : Nat} {g : Nat → V} : BLe (.arr sz 0 g te) (.arr sz ([] : List α).length (gL enc []) te') := ble_arr (fun i hi => absurd hi (Nat.not_lt_zero i)) (Or.inr (Or.inr (Or.inr rfl)))


/-! ### laws.toInt64S%o -/
def pr24o (xs : List Int) : Prop := xs.length ≤ most
noncomputable def ro24o (xs : List Int) : List Int := xs
noncomputable def rb24o (xs : List Int) : List Blk := [(.arr 1 (ro24o xs).length (gL encI (ro24o xs)) tagS)]
noncomputable def rs24o (xs : List Int) : V := .osl 0 (ro24o xs).length
noncomputable def sp24o : FSpec := fun args bin => match args, bin with
  | [a0], [] => some (VLe a0 (encL encI 1 (((decL decI) a0))) ∧ pr24o ((decL decI) a0), rs24o ((decL decI) a0), rb24o ((decL decI) a0))
  | _, _ => none
noncomputable def in24o_3 (xs : List Int) : LoopInv :=
  ⟨Nat × List Int, fun p => ⟨[(0, encL encI 1 xs), (3, .osl (canonT 3) xs.length), (4, .int .i64 p.1)], [(canonT 3, .arr 1 xs.length (gL encI p.2) tagS)]⟩,
    fun p => p.1 ≤ xs.length ∧ p.2.length = xs.length ∧ ∀ j, j < p.1 → p.2.getD j default = xs.getD j default, fun p => xs.length - p.1⟩
noncomputable def iv24o (xs : List Int) : Nat → Option LoopInv := fun rg_ => match rg_ with
  | 3 => some (in24o_3 xs)
  | _ => none
noncomputable def D24o : Nat → Option (Bool × FSpec) := lk []
theorem da24o : SoundAll Tryz.prog D24o := soundAll_nil
noncomputable def cx24o (xs : List Int) : Cx := ⟨tt, D24o, Tryz.f24.ntmps, [0, 2, 3, 4, 11], [(3, ⟨[(0, none), (3, some 1), (4, none)], []⟩)], [], iv24o xs, [], noM, []⟩
theorem bd24o (xs : List Int) (hpre : pr24o xs) : bodyO (cx24o xs) Tryz.f24 [(0, 1)] [encL encI 1 (xs)] [] (fun rr bs => VLe rr (rs24o xs) ∧ BinLe bs (rb24o xs)) := by
  have key :
      ((((0 : Int) ≤ (↑(List.length xs) : Int)) ∧
   (((↑(List.length xs) : Int) ≤ (↑(List.length xs) : Int)) ∧
   ((↑(List.length xs) : Int) ≤ (↑1073741824 : Int)))) ∧
   ((∃ x : Nat × List Int, ((SLe
   (AS.mk
   [(0, encL encI 1 xs), (3, V.osl 32000256 (Int.toNat (↑(List.length xs) : Int))),
   (4, V.int IntKind.i64 (0 : Int))]
   [(32000256,
   Blk.arr 1 (Int.toNat (↑(List.length xs) : Int)) (fun (x : Nat) ↦ V.int IntKind.i64 (0 : Int))
   100)])
   (AS.mk
   [(0, encL encI 1 xs), (3, V.osl 32000256 (List.length xs)),
   (4, V.int IntKind.i64 (↑(Prod.fst x) : Int))]
   [(32000256, Blk.arr 1 (List.length xs) (gL encI (Prod.snd x)) 100)])) ∧
   ((Prod.fst x ≤ List.length xs) ∧
   ((List.length (Prod.snd x) = List.length xs) ∧
   (∀ j : Nat,
   ((j < Prod.fst x) →
   (List.getD (Prod.snd x) j default = List.getD xs j default))))))) ∧
   (∀ x : Nat × List Int,
   (((Prod.fst x ≤ List.length xs) ∧
   ((List.length (Prod.snd x) = List.length xs) ∧
   (∀ j : Nat,
   ((j < Prod.fst x) →
   (List.getD (Prod.snd x) j default = List.getD xs j default))))) →
   (((decide ((↑(Prod.fst x) : Int) < (↑(List.length xs) : Int)) = true) →
   ((((0 : Int) ≤ (↑(Prod.fst x) : Int)) ∧
   ((↑(Prod.fst x) : Int) < (↑(List.length xs) : Int))) ∧
   ((((0 : Int) ≤ (↑(Prod.fst x) : Int)) ∧
   ((↑(Prod.fst x) : Int) < (↑(List.length xs) : Int))) ∧
   ((Int.toNat (↑(Prod.fst x) : Int) < List.length xs) ∧
   ((inK IntKind.i64 ((↑(Prod.fst x) : Int) + (1 : Int))) ∧
   (∃ y : Nat × List Int, ((SLe
   (AS.mk
   [(0, encL encI 1 xs), (3, V.osl 32000256 (List.length xs)),
   (4, V.int IntKind.i64 ((↑(Prod.fst x) : Int) + (1 : Int)))]
   [(32000256,
   Blk.arr 1 (List.length xs)
   (setg (gL encI (Prod.snd x)) (Int.toNat (↑(Prod.fst x) : Int))
   (V.int IntKind.i64 (List.getD xs (Int.toNat (↑(Prod.fst x) : Int)) default)))
   100)])
   (AS.mk
   [(0, encL encI 1 xs), (3, V.osl 32000256 (List.length xs)),
   (4, V.int IntKind.i64 (↑(Prod.fst y) : Int))]
   [(32000256, Blk.arr 1 (List.length xs) (gL encI (Prod.snd y)) 100)])) ∧
   (((Prod.fst y ≤ List.length xs) ∧
   ((List.length (Prod.snd y) = List.length xs) ∧
   (∀ j : Nat,
   ((j < Prod.fst y) →
   (List.getD (Prod.snd y) j default = List.getD xs j default))))) ∧
   (List.length xs - Prod.fst y < List.length xs - Prod.fst x))))))))) ∧
   ((decide ((↑(Prod.fst x) : Int) < (↑(List.length xs) : Int)) = false) →
   ((VLe (V.osl 0 (List.length xs)) (V.osl 0 (List.length (ro24o xs)))) ∧
   ((BLe (Blk.arr 1 (List.length xs) (gL encI (Prod.snd x)) 100)
   (Blk.arr 1 (List.length (ro24o xs)) (gL encI (ro24o xs)) 100)) ∧
   (True))))))))) := by
    unfold pr24o most at hpre
    refine ⟨⟨by omega, by omega, by omega⟩, ⟨(0, List.replicate xs.length default), ?_, by simp, by simp, fun j hj => absurd hj (Nat.not_lt_zero j)⟩, ?_⟩
    · refine sle_of ⟨rfl, VLe.refl _, rfl, VLe.refl _, rfl, VLe.refl _, trivial⟩ ⟨rfl, ?_, trivial⟩
      refine ble_arr (fun i hi => ?_) (Or.inl rfl)
      have hi' : i < xs.length := hi
      have e1 : gL encI (List.replicate xs.length default) i = encI default := by simp [gL, hi']
      rw [e1]
      exact zele_I
    · rintro ⟨i, ys⟩ ⟨hi, hl, hj⟩
      simp only at hi hl hj ⊢
      refine ⟨fun h => ?_, fun h => ?_⟩
      · have hlt : i < xs.length := by simpa using h
        refine ⟨⟨by omega, by omega⟩, ⟨by omega, by omega⟩, by simpa using hlt, inK64 (by omega), (i + 1, ys.set i (xs.getD i default)), ?_, ⟨by simp only; omega, by simpa using hl, fun j h2 => ?_⟩, by simp only; omega⟩
        · refine sle_of ⟨rfl, VLe.refl _, rfl, VLe.refl _, rfl, vle_int (by simp), trivial⟩ ⟨rfl, ?_, trivial⟩
          refine ble_arr (fun k hk => ?_) (Or.inl rfl)
          simp only [setg, gL, Int.toNat_natCast]
          by_cases e : k = i
          · subst e
            rw [if_pos rfl, getD_set_eq _ _ _ _ (by omega)]
            exact ELe.refl _
          · rw [if_neg e, getD_set_ne _ _ _ _ e]
            exact ELe.refl _
        · simp only at h2 ⊢
          by_cases e : j = i
          · subst e; rw [getD_set_eq _ _ _ _ (by omega)]
          · rw [getD_set_ne _ _ _ _ e]; exact hj j (by omega)
      · have hge : i = xs.length := by simp at h; omega
        refine ⟨VLe.refl _, ble_arr (fun k hk => ?_) (Or.inl rfl), trivial⟩
        show ELe _ (gL encI xs k)
        simp only [gL]
        rw [hj k (by omega)]
        exact ELe.refl _
  exact Eq.mp (by kernel_rfl) key
theorem so24o : Sound Tryz.prog 24 sp24o := by
  refine sound_of_bodyO hmix (tpl := [(0, 1)]) Tryz.func24 rfl (by kernel_rfl) fun args bin ob r bout hDe hob => ?_
  unfold sp24o at hDe
  split at hDe
  · rename_i a0
    cases hDe
    exact ⟨Nat.le_of_ble_eq_true (by kernel_rfl), cx24o ((decL decI) a0), Eq.mp (by kernel_rfl) htt, Eq.mp (by kernel_rfl) da24o, Eq.mp (by kernel_rfl) (noM_sound (P := Tryz.prog)), by kernel_rfl, [encL encI 1 (((decL decI) a0))], [], args_of_vles (⟨hob.1, trivial⟩), trivial, Eq.mp (by kernel_rfl) (bd24o ((decL decI) a0) (hob.2))⟩
  · cases hDe

/-! ### laws.toCertS%o -/
def pr23o (xs : List Cert) : Prop := xs.length ≤ most ∧ ∀ x ∈ xs, pr41 x
noncomputable def ro23o (xs : List Cert) : List Cert := xs
noncomputable def rb23o (xs : List Cert) : List Blk := [(.arr 3 (ro23o xs).length (gL (encCert 1) (ro23o xs)) tagS)]
noncomputable def rs23o (xs : List Cert) : V := .osl 0 (ro23o xs).length
noncomputable def sp23o : FSpec := fun args bin => match args, bin with
  | [a0], [] => some (VLe a0 (encL (encCert 1) 1 (((decL decCert) a0))) ∧ pr23o ((decL decCert) a0), rs23o ((decL decCert) a0), rb23o ((decL decCert) a0))
  | _, _ => none
noncomputable def in23o_3 (xs : List Cert) : LoopInv :=
  ⟨Nat × List Cert, fun p => ⟨[(0, encL (encCert 1) 1 xs), (3, .osl (canonT 3) xs.length), (4, .int .i64 p.1)], [(canonT 3, .arr 3 xs.length (gL (encCert 1) p.2) tagS)]⟩,
    fun p => p.1 ≤ xs.length ∧ p.2.length = xs.length ∧ ∀ j, j < p.1 → p.2.getD j default = xs.getD j default, fun p => xs.length - p.1⟩
noncomputable def iv23o (xs : List Cert) : Nat → Option LoopInv := fun rg_ => match rg_ with
  | 3 => some (in23o_3 xs)
  | _ => none
noncomputable def D23o : Nat → Option (Bool × FSpec) := lk [(41, (false, sp41))]
theorem da23o : SoundAll Tryz.prog D23o := soundAll_cons so41 (soundAll_nil)
noncomputable def cx23o (xs : List Cert) : Cx := ⟨tt, D23o, Tryz.f23.ntmps, [0, 2, 3, 4, 11], [(3, ⟨[(0, none), (3, some 3), (4, none)], []⟩)], [], iv23o xs, [], noM, []⟩
theorem bd23o (xs : List Cert) (hpre : pr23o xs) : bodyO (cx23o xs) Tryz.f23 [(0, 3)] [encL (encCert 1) 1 (xs)] [] (fun rr bs => VLe rr (rs23o xs) ∧ BinLe bs (rb23o xs)) := by
  have key :
      ((((0 : Int) ≤ (↑(List.length xs) : Int)) ∧
   (((↑(List.length xs) : Int) ≤ (↑(List.length xs) : Int)) ∧
   ((↑(List.length xs) : Int) ≤ (↑1073741824 : Int)))) ∧
   ((∃ x : Nat × List Cert, ((SLe
   (AS.mk
   [(0, encL (encCert 1) 1 xs),
   (3, V.osl 32000256 (Int.toNat (↑(List.length xs) : Int))),
   (4, V.int IntKind.i64 (0 : Int))]
   [(32000256,
   Blk.arr 3 (Int.toNat (↑(List.length xs) : Int))
   (fun (x : Nat) ↦
   V.agg [V.int IntKind.i64 (0 : Int), V.int IntKind.i64 (0 : Int), V.int IntKind.i64 (0 : Int)])
   100)])
   (AS.mk
   [(0, encL (encCert 1) 1 xs), (3, V.osl 32000256 (List.length xs)),
   (4, V.int IntKind.i64 (↑(Prod.fst x) : Int))]
   [(32000256, Blk.arr 3 (List.length xs) (gL (encCert 1) (Prod.snd x)) 100)])) ∧
   ((Prod.fst x ≤ List.length xs) ∧
   ((List.length (Prod.snd x) = List.length xs) ∧
   (∀ j : Nat,
   ((j < Prod.fst x) →
   (List.getD (Prod.snd x) j default = List.getD xs j default))))))) ∧
   (∀ x : Nat × List Cert,
   (((Prod.fst x ≤ List.length xs) ∧
   ((List.length (Prod.snd x) = List.length xs) ∧
   (∀ j : Nat,
   ((j < Prod.fst x) →
   (List.getD (Prod.snd x) j default = List.getD xs j default))))) →
   (((decide ((↑(Prod.fst x) : Int) < (↑(List.length xs) : Int)) = true) →
   ((((0 : Int) ≤ (↑(Prod.fst x) : Int)) ∧
   ((↑(Prod.fst x) : Int) < (↑(List.length xs) : Int))) ∧
   (((VLe (encCert 1 (List.getD xs (Int.toNat (↑(Prod.fst x) : Int)) default))
   (encCert 1 (decCert (encCert 1 (List.getD xs (Int.toNat (↑(Prod.fst x) : Int)) default))))) ∧
   (pr41 (decCert (encCert 1 (List.getD xs (Int.toNat (↑(Prod.fst x) : Int)) default))))) ∧
   ((((0 : Int) ≤ (↑(Prod.fst x) : Int)) ∧
   ((↑(Prod.fst x) : Int) < (↑(List.length xs) : Int))) ∧
   ((Int.toNat (↑(Prod.fst x) : Int) < List.length xs) ∧
   ((inK IntKind.i64 ((↑(Prod.fst x) : Int) + (1 : Int))) ∧
   (∃ y : Nat × List Cert, ((SLe
   (AS.mk
   [(0, encL (encCert 1) 1 xs), (3, V.osl 32000256 (List.length xs)),
   (4, V.int IntKind.i64 ((↑(Prod.fst x) : Int) + (1 : Int)))]
   [(32000256,
   Blk.arr 3 (List.length xs)
   (setg (gL (encCert 1) (Prod.snd x)) (Int.toNat (↑(Prod.fst x) : Int))
   (encCert 1 (decCert (encCert 1 (List.getD xs (Int.toNat (↑(Prod.fst x) : Int)) default)))))
   100)])
   (AS.mk
   [(0, encL (encCert 1) 1 xs), (3, V.osl 32000256 (List.length xs)),
   (4, V.int IntKind.i64 (↑(Prod.fst y) : Int))]
   [(32000256, Blk.arr 3 (List.length xs) (gL (encCert 1) (Prod.snd y)) 100)])) ∧
   (((Prod.fst y ≤ List.length xs) ∧
   ((List.length (Prod.snd y) = List.length xs) ∧
   (∀ j : Nat,
   ((j < Prod.fst y) →
   (List.getD (Prod.snd y) j default = List.getD xs j default))))) ∧
   (List.length xs - Prod.fst y < List.length xs - Prod.fst x)))))))))) ∧
   ((decide ((↑(Prod.fst x) : Int) < (↑(List.length xs) : Int)) = false) →
   ((VLe (V.osl 0 (List.length xs)) (V.osl 0 (List.length (ro23o xs)))) ∧
   ((BLe (Blk.arr 3 (List.length xs) (gL (encCert 1) (Prod.snd x)) 100)
   (Blk.arr 3 (List.length (ro23o xs)) (gL (encCert 1) (ro23o xs)) 100)) ∧
   (True))))))))) := by
    unfold pr23o most at hpre
    obtain ⟨hpre, hel⟩ := hpre
    refine ⟨⟨by omega, by omega, by omega⟩, ⟨(0, List.replicate xs.length default), ?_, by simp, by simp, fun j hj => absurd hj (Nat.not_lt_zero j)⟩, ?_⟩
    · refine sle_of ⟨rfl, VLe.refl _, rfl, VLe.refl _, rfl, VLe.refl _, trivial⟩ ⟨rfl, ?_, trivial⟩
      refine ble_arr (fun i hi => ?_) (Or.inl rfl)
      have hi' : i < xs.length := hi
      have e1 : gL (encCert 1) (List.replicate xs.length default) i = (encCert 1) default := by simp [gL, hi']
      rw [e1]
      exact zele_Cert
    · rintro ⟨i, ys⟩ ⟨hi, hl, hj⟩
      simp only at hi hl hj ⊢
      refine ⟨fun h => ?_, fun h => ?_⟩
      · have hlt : i < xs.length := by simpa using h
        have hin : xs.getD i default ∈ xs := by simp [hlt]
        simp only [dec_encCert, Int.toNat_natCast]
        refine ⟨⟨by omega, by omega⟩, ⟨VLe.refl _, hel _ hin⟩, ⟨by omega, by omega⟩, by simpa using hlt, inK64 (by omega), (i + 1, ys.set i (xs.getD i default)), ?_, ⟨by simp only; omega, by simpa using hl, fun j h2 => ?_⟩, by simp only; omega⟩
        · refine sle_of ⟨rfl, VLe.refl _, rfl, VLe.refl _, rfl, vle_int (by simp), trivial⟩ ⟨rfl, ?_, trivial⟩
          refine ble_arr (fun k hk => ?_) (Or.inl rfl)
          simp only [setg, gL, Int.toNat_natCast]
          by_cases e : k = i
          · subst e
            rw [if_pos rfl, getD_set_eq _ _ _ _ (by omega)]
            exact ele_Cert _ _ _
          · rw [if_neg e, getD_set_ne _ _ _ _ e]
            exact ELe.refl _
        · simp only at h2 ⊢
          by_cases e : j = i
          · subst e; rw [getD_set_eq _ _ _ _ (by omega)]
          · rw [getD_set_ne _ _ _ _ e]; exact hj j (by omega)
      · have hge : i = xs.length := by simp at h; omega
        refine ⟨VLe.refl _, ble_arr (fun k hk => ?_) (Or.inl rfl), trivial⟩
        show ELe _ (gL (encCert 1) xs k)
        simp only [gL]
        rw [hj k (by omega)]
        exact ELe.refl _
  exact Eq.mp (by kernel_rfl) key
theorem so23o : Sound Tryz.prog 23 sp23o := by
  refine sound_of_bodyO hmix (tpl := [(0, 3)]) Tryz.func23 rfl (by kernel_rfl) fun args bin ob r bout hDe hob => ?_
  unfold sp23o at hDe
  split at hDe
  · rename_i a0
    cases hDe
    exact ⟨Nat.le_of_ble_eq_true (by kernel_rfl), cx23o ((decL decCert) a0), Eq.mp (by kernel_rfl) htt, Eq.mp (by kernel_rfl) da23o, Eq.mp (by kernel_rfl) (noM_sound (P := Tryz.prog)), by kernel_rfl, [encL (encCert 1) 1 (((decL decCert) a0))], [], args_of_vles (⟨hob.1, trivial⟩), trivial, Eq.mp (by kernel_rfl) (bd23o ((decL decCert) a0) (hob.2))⟩
  · cases hDe

/-! ### laws.toMsgS%o -/
def pr6o (xs : List Msg) : Prop := xs.length ≤ most ∧ ∀ x ∈ xs, pr13 x
noncomputable def ro6o (xs : List Msg) : List Msg := xs
noncomputable def rb6o (xs : List Msg) : List Blk := [(.arr 7 (ro6o xs).length (gL (encMsg 1) (ro6o xs)) 2)]
noncomputable def rs6o (xs : List Msg) : V := .osl 0 (ro6o xs).length
noncomputable def sp6o : FSpec := fun args bin => match args, bin with
  | [a0], [] => some (VLe a0 (encL (encMsg 1) 1 (((decL decMsg) a0))) ∧ pr6o ((decL decMsg) a0), rs6o ((decL decMsg) a0), rb6o ((decL decMsg) a0))
  | _, _ => none
noncomputable def in6o_3 (xs : List Msg) : LoopInv :=
  ⟨Nat × List Msg, fun p => ⟨[(0, encL (encMsg 1) 1 xs), (3, .osl (canonT 3) xs.length), (4, .int .i64 p.1)], [(canonT 3, .arr 7 xs.length (gL (encMsg 1) p.2) 2)]⟩,
    fun p => p.1 ≤ xs.length ∧ p.2.length = xs.length ∧ ∀ j, j < p.1 → p.2.getD j default = xs.getD j default, fun p => xs.length - p.1⟩
noncomputable def iv6o (xs : List Msg) : Nat → Option LoopInv := fun rg_ => match rg_ with
  | 3 => some (in6o_3 xs)
  | _ => none
noncomputable def D6o : Nat → Option (Bool × FSpec) := lk [(13, (false, sp13))]
theorem da6o : SoundAll Tryz.prog D6o := soundAll_cons so13 (soundAll_nil)
noncomputable def cx6o (xs : List Msg) : Cx := ⟨tt, D6o, Tryz.f6.ntmps, [0, 2, 3, 4, 11], [(3, ⟨[(0, none), (3, some 7), (4, none)], []⟩)], [], iv6o xs, [], noM, []⟩
theorem bd6o (xs : List Msg) (hpre : pr6o xs) : bodyO (cx6o xs) Tryz.f6 [(0, 7)] [encL (encMsg 1) 1 (xs)] [] (fun rr bs => VLe rr (rs6o xs) ∧ BinLe bs (rb6o xs)) := by
  have key :
      ((((0 : Int) ≤ (↑(List.length xs) : Int)) ∧
   (((↑(List.length xs) : Int) ≤ (↑(List.length xs) : Int)) ∧
   ((↑(List.length xs) : Int) ≤ (↑1073741824 : Int)))) ∧
   ((∃ x : Nat × List Msg, ((SLe
   (AS.mk
   [(0, encL (encMsg 1) 1 xs),
   (3, V.osl 32000256 (Int.toNat (↑(List.length xs) : Int))),
   (4, V.int IntKind.i64 (0 : Int))]
   [(32000256,
   Blk.arr 7 (Int.toNat (↑(List.length xs) : Int))
   (fun (x : Nat) ↦
   V.agg
   [V.int IntKind.i64 (0 : Int), V.int IntKind.i64 (0 : Int), V.int IntKind.i64 (0 : Int),
   V.int IntKind.i64 (0 : Int), V.int IntKind.i64 (0 : Int), V.nil, V.nil])
   2)])
   (AS.mk
   [(0, encL (encMsg 1) 1 xs), (3, V.osl 32000256 (List.length xs)),
   (4, V.int IntKind.i64 (↑(Prod.fst x) : Int))]
   [(32000256, Blk.arr 7 (List.length xs) (gL (encMsg 1) (Prod.snd x)) 2)])) ∧
   ((Prod.fst x ≤ List.length xs) ∧
   ((List.length (Prod.snd x) = List.length xs) ∧
   (∀ j : Nat,
   ((j < Prod.fst x) →
   (List.getD (Prod.snd x) j default = List.getD xs j default))))))) ∧
   (∀ x : Nat × List Msg,
   (((Prod.fst x ≤ List.length xs) ∧
   ((List.length (Prod.snd x) = List.length xs) ∧
   (∀ j : Nat,
   ((j < Prod.fst x) →
   (List.getD (Prod.snd x) j default = List.getD xs j default))))) →
   (((decide ((↑(Prod.fst x) : Int) < (↑(List.length xs) : Int)) = true) →
   ((((0 : Int) ≤ (↑(Prod.fst x) : Int)) ∧
   ((↑(Prod.fst x) : Int) < (↑(List.length xs) : Int))) ∧
   (((VLe (encMsg 1 (List.getD xs (Int.toNat (↑(Prod.fst x) : Int)) default))
   (encMsg 1 (decMsg (encMsg 1 (List.getD xs (Int.toNat (↑(Prod.fst x) : Int)) default))))) ∧
   (pr13 (decMsg (encMsg 1 (List.getD xs (Int.toNat (↑(Prod.fst x) : Int)) default))))) ∧
   ((((0 : Int) ≤ (↑(Prod.fst x) : Int)) ∧
   ((↑(Prod.fst x) : Int) < (↑(List.length xs) : Int))) ∧
   ((Int.toNat (↑(Prod.fst x) : Int) < List.length xs) ∧
   ((inK IntKind.i64 ((↑(Prod.fst x) : Int) + (1 : Int))) ∧
   (∃ y : Nat × List Msg, ((SLe
   (AS.mk
   [(0, encL (encMsg 1) 1 xs), (3, V.osl 32000256 (List.length xs)),
   (4, V.int IntKind.i64 ((↑(Prod.fst x) : Int) + (1 : Int)))]
   [(32000256,
   Blk.arr 7 (List.length xs)
   (setg (gL (encMsg 1) (Prod.snd x)) (Int.toNat (↑(Prod.fst x) : Int))
   (encMsg 220 (decMsg (encMsg 1 (List.getD xs (Int.toNat (↑(Prod.fst x) : Int)) default)))))
   2)])
   (AS.mk
   [(0, encL (encMsg 1) 1 xs), (3, V.osl 32000256 (List.length xs)),
   (4, V.int IntKind.i64 (↑(Prod.fst y) : Int))]
   [(32000256, Blk.arr 7 (List.length xs) (gL (encMsg 1) (Prod.snd y)) 2)])) ∧
   (((Prod.fst y ≤ List.length xs) ∧
   ((List.length (Prod.snd y) = List.length xs) ∧
   (∀ j : Nat,
   ((j < Prod.fst y) →
   (List.getD (Prod.snd y) j default = List.getD xs j default))))) ∧
   (List.length xs - Prod.fst y < List.length xs - Prod.fst x)))))))))) ∧
   ((decide ((↑(Prod.fst x) : Int) < (↑(List.length xs) : Int)) = false) →
   ((VLe (V.osl 0 (List.length xs)) (V.osl 0 (List.length (ro6o xs)))) ∧
   ((BLe (Blk.arr 7 (List.length xs) (gL (encMsg 1) (Prod.snd x)) 2)
   (Blk.arr 7 (List.length (ro6o xs)) (gL (encMsg 1) (ro6o xs)) 2)) ∧
   (True))))))))) := by
    unfold pr6o most at hpre
    obtain ⟨hpre, hel⟩ := hpre
    refine ⟨⟨by omega, by omega, by omega⟩, ⟨(0, List.replicate xs.length default), ?_, by simp, by simp, fun j hj => absurd hj (Nat.not_lt_zero j)⟩, ?_⟩
    · refine sle_of ⟨rfl, VLe.refl _, rfl, VLe.refl _, rfl, VLe.refl _, trivial⟩ ⟨rfl, ?_, trivial⟩
      refine ble_arr (fun i hi => ?_) (Or.inl rfl)
      have hi' : i < xs.length := hi
      have e1 : gL (encMsg 1) (List.replicate xs.length default) i = (encMsg 1) default := by simp [gL, hi']
      rw [e1]
      exact zele_Msg
    · rintro ⟨i, ys⟩ ⟨hi, hl, hj⟩
      simp only at hi hl hj ⊢
      refine ⟨fun h => ?_, fun h => ?_⟩
      · have hlt : i < xs.length := by simpa using h
        have hin : xs.getD i default ∈ xs := by simp [hlt]
        simp only [dec_encMsg, Int.toNat_natCast]
        refine ⟨⟨by omega, by omega⟩, ⟨VLe.refl _, hel _ hin⟩, ⟨by omega, by omega⟩, by simpa using hlt, inK64 (by omega), (i + 1, ys.set i (xs.getD i default)), ?_, ⟨by simp only; omega, by simpa using hl, fun j h2 => ?_⟩, by simp only; omega⟩
        · refine sle_of ⟨rfl, VLe.refl _, rfl, VLe.refl _, rfl, vle_int (by simp), trivial⟩ ⟨rfl, ?_, trivial⟩
          refine ble_arr (fun k hk => ?_) (Or.inl rfl)
          simp only [setg, gL, Int.toNat_natCast]
          by_cases e : k = i
          · subst e
            rw [if_pos rfl, getD_set_eq _ _ _ _ (by omega)]
            exact ele_Msg _ _ _
          · rw [if_neg e, getD_set_ne _ _ _ _ e]
            exact ELe.refl _
        · simp only at h2 ⊢
          by_cases e : j = i
          · subst e; rw [getD_set_eq _ _ _ _ (by omega)]
          · rw [getD_set_ne _ _ _ _ e]; exact hj j (by omega)
      · have hge : i = xs.length := by simp at h; omega
        refine ⟨VLe.refl _, ble_arr (fun k hk => ?_) (Or.inl rfl), trivial⟩
        show ELe _ (gL (encMsg 1) xs k)
        simp only [gL]
        rw [hj k (by omega)]
        exact ELe.refl _
  exact Eq.mp (by kernel_rfl) key
theorem so6o : Sound Tryz.prog 6 sp6o := by
  refine sound_of_bodyO hmix (tpl := [(0, 7)]) Tryz.func6 rfl (by kernel_rfl) fun args bin ob r bout hDe hob => ?_
  unfold sp6o at hDe
  split at hDe
  · rename_i a0
    cases hDe
    exact ⟨Nat.le_of_ble_eq_true (by kernel_rfl), cx6o ((decL decMsg) a0), Eq.mp (by kernel_rfl) htt, Eq.mp (by kernel_rfl) da6o, Eq.mp (by kernel_rfl) (noM_sound (P := Tryz.prog)), by kernel_rfl, [encL (encMsg 1) 1 (((decL decMsg) a0))], [], args_of_vles (⟨hob.1, trivial⟩), trivial, Eq.mp (by kernel_rfl) (bd6o ((decL decMsg) a0) (hob.2))⟩
  · cases hDe

/-! ### laws.toMsg%o -/
def pr13o (x : Msg) : Prop := x.certs.length ≤ most ∧ x.refs.length ≤ most
noncomputable def ro13o (x : Msg) : Msg := x
noncomputable def rb13o (x : Msg) : List Blk := [(.arr 3 ((ro13o x).certs).length (gL (encCert 1) ((ro13o x).certs)) tagS), (.arr 1 ((ro13o x).refs).length (gL encI ((ro13o x).refs)) tagS)]
noncomputable def rs13o (x : Msg) : V := .agg [.int .i64 ((ro13o x).kind), .int .i64 ((ro13o x).view), .int .i64 ((ro13o x).sender), .int .i64 ((ro13o x).slot), .int .i64 ((ro13o x).value), .osl 0 ((ro13o x).certs).length, .osl 1 ((ro13o x).refs).length]
noncomputable def sp13o : FSpec := fun args bin => match args, bin with
  | [a0], [] => some (VLe a0 (encMsg 1 ((decMsg a0))) ∧ pr13o (decMsg a0), rs13o (decMsg a0), rb13o (decMsg a0))
  | _, _ => none
noncomputable def D13o : Nat → Option (Bool × FSpec) := lk [(23, (false, sp23o)), (24, (false, sp24o))]
theorem da13o : SoundAll Tryz.prog D13o := soundAll_cons so23o (soundAll_cons so24o (soundAll_nil))
noncomputable def cx13o (x : Msg) : Cx := ⟨tt, D13o, Tryz.f13.ntmps, [0, 1, 2, 3], [], [], fun _ => none, [], noM, []⟩
theorem bd13o (x : Msg) (hpre : pr13o x) : bodyO (cx13o x) Tryz.f13 [(5, 3), (6, 1)] [encMsg 1 (x)] [] (fun rr bs => VLe rr (rs13o x) ∧ BinLe bs (rb13o x)) := by
  have key :
      (((VLe (encL (encCert 1) 1 (Msg.certs x))
   (encL (encCert 1) 1 (decL decCert (encL (encCert 1) 1 (Msg.certs x))))) ∧
   (pr23o (decL decCert (encL (encCert 1) 1 (Msg.certs x))))) ∧
   (((VLe (encL encI 1 (Msg.refs x)) (encL encI 1 (decL decI (encL encI 1 (Msg.refs x))))) ∧
   (pr24o (decL decI (encL encI 1 (Msg.refs x))))) ∧
   ((VLe
   (V.agg
   [V.int IntKind.i64 (Msg.kind x), V.int IntKind.i64 (Msg.view x), V.int IntKind.i64 (Msg.sender x),
   V.int IntKind.i64 (Msg.slot x), V.int IntKind.i64 (Msg.value x),
   V.osl 0 (List.length (ro23o (decL decCert (encL (encCert 1) 1 (Msg.certs x))))),
   V.osl 1 (List.length (ro24o (decL decI (encL encI 1 (Msg.refs x)))))])
   (V.agg
   [V.int IntKind.i64 (Msg.kind (ro13o x)), V.int IntKind.i64 (Msg.view (ro13o x)),
   V.int IntKind.i64 (Msg.sender (ro13o x)), V.int IntKind.i64 (Msg.slot (ro13o x)),
   V.int IntKind.i64 (Msg.value (ro13o x)), V.osl 0 (List.length (Msg.certs (ro13o x))),
   V.osl 1 (List.length (Msg.refs (ro13o x)))])) ∧
   ((BLe
   (Blk.arr 3 (List.length (ro23o (decL decCert (encL (encCert 1) 1 (Msg.certs x)))))
   (gL (encCert 1) (ro23o (decL decCert (encL (encCert 1) 1 (Msg.certs x))))) 100)
   (Blk.arr 3 (List.length (Msg.certs (ro13o x))) (gL (encCert 1) (Msg.certs (ro13o x))) 100)) ∧
   ((BLe
   (Blk.arr 1 (List.length (ro24o (decL decI (encL encI 1 (Msg.refs x)))))
   (gL encI (ro24o (decL decI (encL encI 1 (Msg.refs x))))) 100)
   (Blk.arr 1 (List.length (Msg.refs (ro13o x))) (gL encI (Msg.refs (ro13o x))) 100)) ∧
   (True)))))) := by
    obtain ⟨h1, h2⟩ := hpre
    simp only [decL_Cert, decL_ints, ro13o, ro23o, ro24o]
    exact ⟨⟨VLe.refl _, h1, fun _ _ => trivial⟩, ⟨VLe.refl _, h2⟩, VLe.refl _, BLe.refl _, BLe.refl _, trivial⟩
  exact Eq.mp (by kernel_rfl) key
theorem so13o : Sound Tryz.prog 13 sp13o := by
  refine sound_of_bodyO hmix (tpl := [(5, 3), (6, 1)]) Tryz.func13 rfl (by kernel_rfl) fun args bin ob r bout hDe hob => ?_
  unfold sp13o at hDe
  split at hDe
  · rename_i a0
    cases hDe
    exact ⟨Nat.le_of_ble_eq_true (by kernel_rfl), cx13o (decMsg a0), Eq.mp (by kernel_rfl) htt, Eq.mp (by kernel_rfl) da13o, Eq.mp (by kernel_rfl) (noM_sound (P := Tryz.prog)), by kernel_rfl, [encMsg 1 ((decMsg a0))], [], args_of_vles (⟨hob.1, trivial⟩), trivial, Eq.mp (by kernel_rfl) (bd13o (decMsg a0) (hob.2))⟩
  · cases hDe

end Go.Av
