/- Copies whose memory is the caller's own. -/
import Derived.Test.YtnfelcpanphhlaaK1
namespace Go.Av
open Go.Proofs
set_option maxRecDepth 100000
set_option linter.unusedVariables false
set_option linter.unusedSimpArgs false

theorem ble_nil {α : Type} [Inhabited α] (enc : α → V) {sz te te' : Nat} {g : Nat → V} : BLe (.arr sz 0 g te) (.arr sz ([] : List α).length (gL enc []) te') := ble_arr (fun i hi => absurd hi (Nat.not_lt_zero i)) (Or.inr (Or.inr (Or.inr rfl)))


/-! ### laws.toInt64S%o -/
def pr54o (xs : List Int) : Prop := xs.length ≤ most
noncomputable def ro54o (xs : List Int) : List Int := xs
noncomputable def rb54o (xs : List Int) : List Blk := [(.arr 1 (ro54o xs).length (gL encI (ro54o xs)) tagS)]
noncomputable def rs54o (xs : List Int) : V := .osl 0 (ro54o xs).length
noncomputable def sp54o : FSpec := fun args bin => match args, bin with
  | [a0], [] => some (VLe a0 (encL encI 1 (((decL decI) a0))) ∧ pr54o ((decL decI) a0), rs54o ((decL decI) a0), rb54o ((decL decI) a0))
  | _, _ => none
noncomputable def in54o_3 (xs : List Int) : LoopInv :=
  ⟨Nat × List Int, fun p => ⟨[(0, encL encI 1 xs), (3, .osl (canonT 3) xs.length), (4, .int .i64 p.1)], [(canonT 3, .arr 1 xs.length (gL encI p.2) tagS)]⟩,
    fun p => p.1 ≤ xs.length ∧ p.2.length = xs.length ∧ ∀ j, j < p.1 → p.2.getD j default = xs.getD j default, fun p => xs.length - p.1⟩
noncomputable def iv54o (xs : List Int) : Nat → Option LoopInv := fun rg_ => match rg_ with
  | 3 => some (in54o_3 xs)
  | _ => none
noncomputable def D54o : Nat → Option (Bool × FSpec) := lk []
theorem da54o : SoundAll Try.prog D54o := soundAll_nil
noncomputable def cx54o (xs : List Int) : Cx := ⟨tt, D54o, Try.f54.ntmps, [0, 2, 3, 4, 11], [(3, ⟨[(0, none), (3, some 1), (4, none)], []⟩)], [], iv54o xs, [], noM, []⟩
theorem bd54o (xs : List Int) (hpre : pr54o xs) : bodyO (cx54o xs) Try.f54 [(0, 1)] [encL encI 1 (xs)] [] (fun rr bs => VLe rr (rs54o xs) ∧ BinLe bs (rb54o xs)) := by
  have key :
      ((((0 : Int) ≤ (↑(List.length xs) : Int)) ∧
   (((↑(List.length xs) : Int) ≤ (↑(List.length xs) : Int)) ∧
   ((↑(List.length xs) : Int) ≤ (↑1073741824 : Int)))) ∧
   ((∃ x : Nat × List Int, ((SLe
   (AS.mk
   [(0, encL encI 1 xs), (3, V.osl 32000256 (Int.toNat (↑(List.length xs) : Int))),
   (4, V.int IntKind.i64 (0 : Int))]
   [(32000256,
   Blk.arr 1 (Int.toNat (↑(List.length xs) : Int)) (fun (x : Nat) ↦ V.int IntKind.i64 (0 : Int))
   100)])
   (AS.mk
   [(0, encL encI 1 xs), (3, V.osl 32000256 (List.length xs)),
   (4, V.int IntKind.i64 (↑(Prod.fst x) : Int))]
   [(32000256, Blk.arr 1 (List.length xs) (gL encI (Prod.snd x)) 100)])) ∧
   ((Prod.fst x ≤ List.length xs) ∧
   ((List.length (Prod.snd x) = List.length xs) ∧
   (∀ j : Nat,
   ((j < Prod.fst x) →
   (List.getD (Prod.snd x) j default = List.getD xs j default))))))) ∧
   (∀ x : Nat × List Int,
   (((Prod.fst x ≤ List.length xs) ∧
   ((List.length (Prod.snd x) = List.length xs) ∧
   (∀ j : Nat,
   ((j < Prod.fst x) →
   (List.getD (Prod.snd x) j default = List.getD xs j default))))) →
   (((decide ((↑(Prod.fst x) : Int) < (↑(List.length xs) : Int)) = true) →
   ((((0 : Int) ≤ (↑(Prod.fst x) : Int)) ∧
   ((↑(Prod.fst x) : Int) < (↑(List.length xs) : Int))) ∧
   ((((0 : Int) ≤ (↑(Prod.fst x) : Int)) ∧
   ((↑(Prod.fst x) : Int) < (↑(List.length xs) : Int))) ∧
   ((Int.toNat (↑(Prod.fst x) : Int) < List.length xs) ∧
   ((inK IntKind.i64 ((↑(Prod.fst x) : Int) + (1 : Int))) ∧
   (∃ y : Nat × List Int, ((SLe
   (AS.mk
   [(0, encL encI 1 xs), (3, V.osl 32000256 (List.length xs)),
   (4, V.int IntKind.i64 ((↑(Prod.fst x) : Int) + (1 : Int)))]
   [(32000256,
   Blk.arr 1 (List.length xs)
   (setg (gL encI (Prod.snd x)) (Int.toNat (↑(Prod.fst x) : Int))
   (V.int IntKind.i64 (List.getD xs (Int.toNat (↑(Prod.fst x) : Int)) default)))
   100)])
   (AS.mk
   [(0, encL encI 1 xs), (3, V.osl 32000256 (List.length xs)),
   (4, V.int IntKind.i64 (↑(Prod.fst y) : Int))]
   [(32000256, Blk.arr 1 (List.length xs) (gL encI (Prod.snd y)) 100)])) ∧
   (((Prod.fst y ≤ List.length xs) ∧
   ((List.length (Prod.snd y) = List.length xs) ∧
   (∀ j : Nat,
   ((j < Prod.fst y) →
   (List.getD (Prod.snd y) j default = List.getD xs j default))))) ∧
   (List.length xs - Prod.fst y < List.length xs - Prod.fst x))))))))) ∧
   ((decide ((↑(Prod.fst x) : Int) < (↑(List.length xs) : Int)) = false) →
   ((VLe (V.osl 0 (List.length xs)) (V.osl 0 (List.length (ro54o xs)))) ∧
   ((BLe (Blk.arr 1 (List.length xs) (gL encI (Prod.snd x)) 100)
   (Blk.arr 1 (List.length (ro54o xs)) (gL encI (ro54o xs)) 100)) ∧
   (True))))))))) := by
    unfold pr54o most at hpre
    refine ⟨⟨by omega, by omega, by omega⟩, ⟨(0, List.replicate xs.length default), ?_, by simp, by simp, fun j hj => absurd hj (Nat.not_lt_zero j)⟩, ?_⟩
    · refine sle_of ⟨rfl, VLe.refl _, rfl, VLe.refl _, rfl, VLe.refl _, trivial⟩ ⟨rfl, ?_, trivial⟩
      refine ble_arr (fun i hi => ?_) (Or.inl rfl)
      have hi' : i < xs.length := hi
      have e1 : gL encI (List.replicate xs.length default) i = encI default := by simp [gL, hi']
      rw [e1]
      exact zele_I
    · rintro ⟨i, ys⟩ ⟨hi, hl, hj⟩
      simp only at hi hl hj ⊢
      refine ⟨fun h => ?_, fun h => ?_⟩
      · have hlt : i < xs.length := by simpa using h
        refine ⟨⟨by omega, by omega⟩, ⟨by omega, by omega⟩, by simpa using hlt, inK64 (by omega), (i + 1, ys.set i (xs.getD i default)), ?_, ⟨by simp only; omega, by simpa using hl, fun j h2 => ?_⟩, by simp only; omega⟩
        · refine sle_of ⟨rfl, VLe.refl _, rfl, VLe.refl _, rfl, vle_int (by simp), trivial⟩ ⟨rfl, ?_, trivial⟩
          refine ble_arr (fun k hk => ?_) (Or.inl rfl)
          simp only [setg, gL, Int.toNat_natCast]
          by_cases e : k = i
          · subst e
            rw [if_pos rfl, getD_set_eq _ _ _ _ (by omega)]
            exact ELe.refl _
          · rw [if_neg e, getD_set_ne _ _ _ _ e]
            exact ELe.refl _
        · simp only at h2 ⊢
          by_cases e : j = i
          · subst e; rw [getD_set_eq _ _ _ _ (by omega)]
          · rw [getD_set_ne _ _ _ _ e]; exact hj j (by omega)
      · have hge : i = xs.length := by simp at h; omega
        refine ⟨VLe.refl _, ble_arr (fun k hk => ?_) (Or.inl rfl), trivial⟩
        show ELe _ (gL encI xs k)
        simp only [gL]
        rw [hj k (by omega)]
        exact ELe.refl _
  exact Eq.mp (by kernel_rfl) key
theorem so54o : Sound Try.prog 54 sp54o := by
  refine sound_of_bodyO hmix (tpl := [(0, 1)]) Try.func54 rfl (by kernel_rfl) fun args bin ob r bout hDe hob => ?_
  unfold sp54o at hDe
  split at hDe
  · rename_i a0
    cases hDe
    exact ⟨Nat.le_of_ble_eq_true (by kernel_rfl), cx54o ((decL decI) a0), Eq.mp (by kernel_rfl) htt, Eq.mp (by kernel_rfl) da54o, Eq.mp (by kernel_rfl) (noM_sound (P := Try.prog)), by kernel_rfl, [encL encI 1 (((decL decI) a0))], [], args_of_vles (⟨hob.1, trivial⟩), trivial, Eq.mp (by kernel_rfl) (bd54o ((decL decI) a0) (hob.2))⟩
  · cases hDe

/-! ### laws.toCertS%o -/
def pr89o (xs : List Cert) : Prop := xs.length ≤ most ∧ ∀ x ∈ xs, pr58 x
noncomputable def ro89o (xs : List Cert) : List Cert := xs
noncomputable def rb89o (xs : List Cert) : List Blk := [(.arr 3 (ro89o xs).length (gL (encCert 1) (ro89o xs)) tagS)]
noncomputable def rs89o (xs : List Cert) : V := .osl 0 (ro89o xs).length
noncomputable def sp89o : FSpec := fun args bin => match args, bin with
  | [a0], [] => some (VLe a0 (encL (encCert 1) 1 (((decL decCert) a0))) ∧ pr89o ((decL decCert) a0), rs89o ((decL decCert) a0), rb89o ((decL decCert) a0))
  | _, _ => none
noncomputable def in89o_3 (xs : List Cert) : LoopInv :=
  ⟨Nat × List Cert, fun p => ⟨[(0, encL (encCert 1) 1 xs), (3, .osl (canonT 3) xs.length), (4, .int .i64 p.1)], [(canonT 3, .arr 3 xs.length (gL (encCert 1) p.2) tagS)]⟩,
    fun p => p.1 ≤ xs.length ∧ p.2.length = xs.length ∧ ∀ j, j < p.1 → p.2.getD j default = xs.getD j default, fun p => xs.length - p.1⟩
noncomputable def iv89o (xs : List Cert) : Nat → Option LoopInv := fun rg_ => match rg_ with
  | 3 => some (in89o_3 xs)
  | _ => none
noncomputable def D89o : Nat → Option (Bool × FSpec) := lk [(58, (false, sp58))]
theorem da89o : SoundAll Try.prog D89o := soundAll_cons so58 (soundAll_nil)
noncomputable def cx89o (xs : List Cert) : Cx := ⟨tt, D89o, Try.f89.ntmps, [0, 2, 3, 4, 11], [(3, ⟨[(0, none), (3, some 3), (4, none)], []⟩)], [], iv89o xs, [], noM, []⟩
theorem bd89o (xs : List Cert) (hpre : pr89o xs) : bodyO (cx89o xs) Try.f89 [(0, 3)] [encL (encCert 1) 1 (xs)] [] (fun rr bs => VLe rr (rs89o xs) ∧ BinLe bs (rb89o xs)) := by
  have key :
      ((((0 : Int) ≤ (↑(List.length xs) : Int)) ∧
   (((↑(List.length xs) : Int) ≤ (↑(List.length xs) : Int)) ∧
   ((↑(List.length xs) : Int) ≤ (↑1073741824 : Int)))) ∧
   ((∃ x : Nat × List Cert, ((SLe
   (AS.mk
   [(0, encL (encCert 1) 1 xs),
   (3, V.osl 32000256 (Int.toNat (↑(List.length xs) : Int))),
   (4, V.int IntKind.i64 (0 : Int))]
   [(32000256,
   Blk.arr 3 (Int.toNat (↑(List.length xs) : Int))
   (fun (x : Nat) ↦
   V.agg [V.int IntKind.i64 (0 : Int), V.int IntKind.i64 (0 : Int), V.int IntKind.i64 (0 : Int)])
   100)])
   (AS.mk
   [(0, encL (encCert 1) 1 xs), (3, V.osl 32000256 (List.length xs)),
   (4, V.int IntKind.i64 (↑(Prod.fst x) : Int))]
   [(32000256, Blk.arr 3 (List.length xs) (gL (encCert 1) (Prod.snd x)) 100)])) ∧
   ((Prod.fst x ≤ List.length xs) ∧
   ((List.length (Prod.snd x) = List.length xs) ∧
   (∀ j : Nat,
   ((j < Prod.fst x) →
   (List.getD (Prod.snd x) j default = List.getD xs j default))))))) ∧
   (∀ x : Nat × List Cert,
   (((Prod.fst x ≤ List.length xs) ∧
   ((List.length (Prod.snd x) = List.length xs) ∧
   (∀ j : Nat,
   ((j < Prod.fst x) →
   (List.getD (Prod.snd x) j default = List.getD xs j default))))) →
   (((decide ((↑(Prod.fst x) : Int) < (↑(List.length xs) : Int)) = true) →
   ((((0 : Int) ≤ (↑(Prod.fst x) : Int)) ∧
   ((↑(Prod.fst x) : Int) < (↑(List.length xs) : Int))) ∧
   (((VLe (encCert 1 (List.getD xs (Int.toNat (↑(Prod.fst x) : Int)) default))
   (encCert 1 (decCert (encCert 1 (List.getD xs (Int.toNat (↑(Prod.fst x) : Int)) default))))) ∧
   (pr58 (decCert (encCert 1 (List.getD xs (Int.toNat (↑(Prod.fst x) : Int)) default))))) ∧
   ((((0 : Int) ≤ (↑(Prod.fst x) : Int)) ∧
   ((↑(Prod.fst x) : Int) < (↑(List.length xs) : Int))) ∧
   ((Int.toNat (↑(Prod.fst x) : Int) < List.length xs) ∧
   ((inK IntKind.i64 ((↑(Prod.fst x) : Int) + (1 : Int))) ∧
   (∃ y : Nat × List Cert, ((SLe
   (AS.mk
   [(0, encL (encCert 1) 1 xs), (3, V.osl 32000256 (List.length xs)),
   (4, V.int IntKind.i64 ((↑(Prod.fst x) : Int) + (1 : Int)))]
   [(32000256,
   Blk.arr 3 (List.length xs)
   (setg (gL (encCert 1) (Prod.snd x)) (Int.toNat (↑(Prod.fst x) : Int))
   (encCert 1 (decCert (encCert 1 (List.getD xs (Int.toNat (↑(Prod.fst x) : Int)) default)))))
   100)])
   (AS.mk
   [(0, encL (encCert 1) 1 xs), (3, V.osl 32000256 (List.length xs)),
   (4, V.int IntKind.i64 (↑(Prod.fst y) : Int))]
   [(32000256, Blk.arr 3 (List.length xs) (gL (encCert 1) (Prod.snd y)) 100)])) ∧
   (((Prod.fst y ≤ List.length xs) ∧
   ((List.length (Prod.snd y) = List.length xs) ∧
   (∀ j : Nat,
   ((j < Prod.fst y) →
   (List.getD (Prod.snd y) j default = List.getD xs j default))))) ∧
   (List.length xs - Prod.fst y < List.length xs - Prod.fst x)))))))))) ∧
   ((decide ((↑(Prod.fst x) : Int) < (↑(List.length xs) : Int)) = false) →
   ((VLe (V.osl 0 (List.length xs)) (V.osl 0 (List.length (ro89o xs)))) ∧
   ((BLe (Blk.arr 3 (List.length xs) (gL (encCert 1) (Prod.snd x)) 100)
   (Blk.arr 3 (List.length (ro89o xs)) (gL (encCert 1) (ro89o xs)) 100)) ∧
   (True))))))))) := by
    unfold pr89o most at hpre
    obtain ⟨hpre, hel⟩ := hpre
    refine ⟨⟨by omega, by omega, by omega⟩, ⟨(0, List.replicate xs.length default), ?_, by simp, by simp, fun j hj => absurd hj (Nat.not_lt_zero j)⟩, ?_⟩
    · refine sle_of ⟨rfl, VLe.refl _, rfl, VLe.refl _, rfl, VLe.refl _, trivial⟩ ⟨rfl, ?_, trivial⟩
      refine ble_arr (fun i hi => ?_) (Or.inl rfl)
      have hi' : i < xs.length := hi
      have e1 : gL (encCert 1) (List.replicate xs.length default) i = (encCert 1) default := by simp [gL, hi']
      rw [e1]
      exact zele_Cert
    · rintro ⟨i, ys⟩ ⟨hi, hl, hj⟩
      simp only at hi hl hj ⊢
      refine ⟨fun h => ?_, fun h => ?_⟩
      · have hlt : i < xs.length := by simpa using h
        have hin : xs.getD i default ∈ xs := by simp [hlt]
        simp only [dec_encCert, Int.toNat_natCast]
        refine ⟨⟨by omega, by omega⟩, ⟨VLe.refl _, hel _ hin⟩, ⟨by omega, by omega⟩, by simpa using hlt, inK64 (by omega), (i + 1, ys.set i (xs.getD i default)), ?_, ⟨by simp only; omega, by simpa using hl, fun j h2 => ?_⟩, by simp only; omega⟩
        · refine sle_of ⟨rfl, VLe.refl _, rfl, VLe.refl _, rfl, vle_int (by simp), trivial⟩ ⟨rfl, ?_, trivial⟩
          refine ble_arr (fun k hk => ?_) (Or.inl rfl)
          simp only [setg, gL, Int.toNat_natCast]
          by_cases e : k = i
          · subst e
            rw [if_pos rfl, getD_set_eq _ _ _ _ (by omega)]
            exact ele_Cert _ _ _
          · rw [if_neg e, getD_set_ne _ _ _ _ e]
            exact ELe.refl _
        · simp only at h2 ⊢
          by_cases e : j = i
          · subst e; rw [getD_set_eq _ _ _ _ (by omega)]
          · rw [getD_set_ne _ _ _ _ e]; exact hj j (by omega)
      · have hge : i = xs.length := by simp at h; omega
        refine ⟨VLe.refl _, ble_arr (fun k hk => ?_) (Or.inl rfl), trivial⟩
        show ELe _ (gL (encCert 1) xs k)
        simp only [gL]
        rw [hj k (by omega)]
        exact ELe.refl _
  exact Eq.mp (by kernel_rfl) key
theorem so89o : Sound Try.prog 89 sp89o := by
  refine sound_of_bodyO hmix (tpl := [(0, 3)]) Try.func89 rfl (by kernel_rfl) fun args bin ob r bout hDe hob => ?_
  unfold sp89o at hDe
  split at hDe
  · rename_i a0
    cases hDe
    exact ⟨Nat.le_of_ble_eq_true (by kernel_rfl), cx89o ((decL decCert) a0), Eq.mp (by kernel_rfl) htt, Eq.mp (by kernel_rfl) da89o, Eq.mp (by kernel_rfl) (noM_sound (P := Try.prog)), by kernel_rfl, [encL (encCert 1) 1 (((decL decCert) a0))], [], args_of_vles (⟨hob.1, trivial⟩), trivial, Eq.mp (by kernel_rfl) (bd89o ((decL decCert) a0) (hob.2))⟩
  · cases hDe

/-! ### laws.toMsgS%o -/
def pr36o (xs : List Msg) : Prop := xs.length ≤ most ∧ ∀ x ∈ xs, pr29 x
noncomputable def ro36o (xs : List Msg) : List Msg := xs
noncomputable def rb36o (xs : List Msg) : List Blk := [(.arr 7 (ro36o xs).length (gL (encMsg 1) (ro36o xs)) 2)]
noncomputable def rs36o (xs : List Msg) : V := .osl 0 (ro36o xs).length
noncomputable def sp36o : FSpec := fun args bin => match args, bin with
  | [a0], [] => some (VLe a0 (encL (encMsg 1) 1 (((decL decMsg) a0))) ∧ pr36o ((decL decMsg) a0), rs36o ((decL decMsg) a0), rb36o ((decL decMsg) a0))
  | _, _ => none
noncomputable def in36o_3 (xs : List Msg) : LoopInv :=
  ⟨Nat × List Msg, fun p => ⟨[(0, encL (encMsg 1) 1 xs), (3, .osl (canonT 3) xs.length), (4, .int .i64 p.1)], [(canonT 3, .arr 7 xs.length (gL (encMsg 1) p.2) 2)]⟩,
    fun p => p.1 ≤ xs.length ∧ p.2.length = xs.length ∧ ∀ j, j < p.1 → p.2.getD j default = xs.getD j default, fun p => xs.length - p.1⟩
noncomputable def iv36o (xs : List Msg) : Nat → Option LoopInv := fun rg_ => match rg_ with
  | 3 => some (in36o_3 xs)
  | _ => none
noncomputable def D36o : Nat → Option (Bool × FSpec) := lk [(29, (false, sp29))]
theorem da36o : SoundAll Try.prog D36o := soundAll_cons so29 (soundAll_nil)
noncomputable def cx36o (xs : List Msg) : Cx := ⟨tt, D36o, Try.f36.ntmps, [0, 2, 3, 4, 11], [(3, ⟨[(0, none), (3, some 7), (4, none)], []⟩)], [], iv36o xs, [], noM, []⟩
theorem bd36o (xs : List Msg) (hpre : pr36o xs) : bodyO (cx36o xs) Try.f36 [(0, 7)] [encL (encMsg 1) 1 (xs)] [] (fun rr bs => VLe rr (rs36o xs) ∧ BinLe bs (rb36o xs)) := by
  have key :
      ((((0 : Int) ≤ (↑(List.length xs) : Int)) ∧
   (((↑(List.length xs) : Int) ≤ (↑(List.length xs) : Int)) ∧
   ((↑(List.length xs) : Int) ≤ (↑1073741824 : Int)))) ∧
   ((∃ x : Nat × List Msg, ((SLe
   (AS.mk
   [(0, encL (encMsg 1) 1 xs),
   (3, V.osl 32000256 (Int.toNat (↑(List.length xs) : Int))),
   (4, V.int IntKind.i64 (0 : Int))]
   [(32000256,
   Blk.arr 7 (Int.toNat (↑(List.length xs) : Int))
   (fun (x : Nat) ↦
   V.agg
   [V.int IntKind.i64 (0 : Int), V.int IntKind.i64 (0 : Int), V.int IntKind.i64 (0 : Int),
   V.int IntKind.i64 (0 : Int), V.int IntKind.i64 (0 : Int), V.nil, V.nil])
   2)])
   (AS.mk
   [(0, encL (encMsg 1) 1 xs), (3, V.osl 32000256 (List.length xs)),
   (4, V.int IntKind.i64 (↑(Prod.fst x) : Int))]
   [(32000256, Blk.arr 7 (List.length xs) (gL (encMsg 1) (Prod.snd x)) 2)])) ∧
   ((Prod.fst x ≤ List.length xs) ∧
   ((List.length (Prod.snd x) = List.length xs) ∧
   (∀ j : Nat,
   ((j < Prod.fst x) →
   (List.getD (Prod.snd x) j default = List.getD xs j default))))))) ∧
   (∀ x : Nat × List Msg,
   (((Prod.fst x ≤ List.length xs) ∧
   ((List.length (Prod.snd x) = List.length xs) ∧
   (∀ j : Nat,
   ((j < Prod.fst x) →
   (List.getD (Prod.snd x) j default = List.getD xs j default))))) →
   (((decide ((↑(Prod.fst x) : Int) < (↑(List.length xs) : Int)) = true) →
   ((((0 : Int) ≤ (↑(Prod.fst x) : Int)) ∧
   ((↑(Prod.fst x) : Int) < (↑(List.length xs) : Int))) ∧
   (((VLe (encMsg 1 (List.getD xs (Int.toNat (↑(Prod.fst x) : Int)) default))
   (encMsg 1 (decMsg (encMsg 1 (List.getD xs (Int.toNat (↑(Prod.fst x) : Int)) default))))) ∧
   (pr29 (decMsg (encMsg 1 (List.getD xs (Int.toNat (↑(Prod.fst x) : Int)) default))))) ∧
   ((((0 : Int) ≤ (↑(Prod.fst x) : Int)) ∧
   ((↑(Prod.fst x) : Int) < (↑(List.length xs) : Int))) ∧
   ((Int.toNat (↑(Prod.fst x) : Int) < List.length xs) ∧
   ((inK IntKind.i64 ((↑(Prod.fst x) : Int) + (1 : Int))) ∧
   (∃ y : Nat × List Msg, ((SLe
   (AS.mk
   [(0, encL (encMsg 1) 1 xs), (3, V.osl 32000256 (List.length xs)),
   (4, V.int IntKind.i64 ((↑(Prod.fst x) : Int) + (1 : Int)))]
   [(32000256,
   Blk.arr 7 (List.length xs)
   (setg (gL (encMsg 1) (Prod.snd x)) (Int.toNat (↑(Prod.fst x) : Int))
   (encMsg 220 (decMsg (encMsg 1 (List.getD xs (Int.toNat (↑(Prod.fst x) : Int)) default)))))
   2)])
   (AS.mk
   [(0, encL (encMsg 1) 1 xs), (3, V.osl 32000256 (List.length xs)),
   (4, V.int IntKind.i64 (↑(Prod.fst y) : Int))]
   [(32000256, Blk.arr 7 (List.length xs) (gL (encMsg 1) (Prod.snd y)) 2)])) ∧
   (((Prod.fst y ≤ List.length xs) ∧
   ((List.length (Prod.snd y) = List.length xs) ∧
   (∀ j : Nat,
   ((j < Prod.fst y) →
   (List.getD (Prod.snd y) j default = List.getD xs j default))))) ∧
   (List.length xs - Prod.fst y < List.length xs - Prod.fst x)))))))))) ∧
   ((decide ((↑(Prod.fst x) : Int) < (↑(List.length xs) : Int)) = false) →
   ((VLe (V.osl 0 (List.length xs)) (V.osl 0 (List.length (ro36o xs)))) ∧
   ((BLe (Blk.arr 7 (List.length xs) (gL (encMsg 1) (Prod.snd x)) 2)
   (Blk.arr 7 (List.length (ro36o xs)) (gL (encMsg 1) (ro36o xs)) 2)) ∧
   (True))))))))) := by
    unfold pr36o most at hpre
    obtain ⟨hpre, hel⟩ := hpre
    refine ⟨⟨by omega, by omega, by omega⟩, ⟨(0, List.replicate xs.length default), ?_, by simp, by simp, fun j hj => absurd hj (Nat.not_lt_zero j)⟩, ?_⟩
    · refine sle_of ⟨rfl, VLe.refl _, rfl, VLe.refl _, rfl, VLe.refl _, trivial⟩ ⟨rfl, ?_, trivial⟩
      refine ble_arr (fun i hi => ?_) (Or.inl rfl)
      have hi' : i < xs.length := hi
      have e1 : gL (encMsg 1) (List.replicate xs.length default) i = (encMsg 1) default := by simp [gL, hi']
      rw [e1]
      exact zele_Msg
    · rintro ⟨i, ys⟩ ⟨hi, hl, hj⟩
      simp only at hi hl hj ⊢
      refine ⟨fun h => ?_, fun h => ?_⟩
      · have hlt : i < xs.length := by simpa using h
        have hin : xs.getD i default ∈ xs := by simp [hlt]
        simp only [dec_encMsg, Int.toNat_natCast]
        refine ⟨⟨by omega, by omega⟩, ⟨VLe.refl _, hel _ hin⟩, ⟨by omega, by omega⟩, by simpa using hlt, inK64 (by omega), (i + 1, ys.set i (xs.getD i default)), ?_, ⟨by simp only; omega, by simpa using hl, fun j h2 => ?_⟩, by simp only; omega⟩
        · refine sle_of ⟨rfl, VLe.refl _, rfl, VLe.refl _, rfl, vle_int (by simp), trivial⟩ ⟨rfl, ?_, trivial⟩
          refine ble_arr (fun k hk => ?_) (Or.inl rfl)
          simp only [setg, gL, Int.toNat_natCast]
          by_cases e : k = i
          · subst e
            rw [if_pos rfl, getD_set_eq _ _ _ _ (by omega)]
            exact ele_Msg _ _ _
          · rw [if_neg e, getD_set_ne _ _ _ _ e]
            exact ELe.refl _
        · simp only at h2 ⊢
          by_cases e : j = i
          · subst e; rw [getD_set_eq _ _ _ _ (by omega)]
          · rw [getD_set_ne _ _ _ _ e]; exact hj j (by omega)
      · have hge : i = xs.length := by simp at h; omega
        refine ⟨VLe.refl _, ble_arr (fun k hk => ?_) (Or.inl rfl), trivial⟩
        show ELe _ (gL (encMsg 1) xs k)
        simp only [gL]
        rw [hj k (by omega)]
        exact ELe.refl _
  exact Eq.mp (by kernel_rfl) key
theorem so36o : Sound Try.prog 36 sp36o := by
  refine sound_of_bodyO hmix (tpl := [(0, 7)]) Try.func36 rfl (by kernel_rfl) fun args bin ob r bout hDe hob => ?_
  unfold sp36o at hDe
  split at hDe
  · rename_i a0
    cases hDe
    exact ⟨Nat.le_of_ble_eq_true (by kernel_rfl), cx36o ((decL decMsg) a0), Eq.mp (by kernel_rfl) htt, Eq.mp (by kernel_rfl) da36o, Eq.mp (by kernel_rfl) (noM_sound (P := Try.prog)), by kernel_rfl, [encL (encMsg 1) 1 (((decL decMsg) a0))], [], args_of_vles (⟨hob.1, trivial⟩), trivial, Eq.mp (by kernel_rfl) (bd36o ((decL decMsg) a0) (hob.2))⟩
  · cases hDe

/-! ### laws.toMsg%o -/
def pr29o (x : Msg) : Prop := x.certs.length ≤ most ∧ x.refs.length ≤ most
noncomputable def ro29o (x : Msg) : Msg := x
noncomputable def rb29o (x : Msg) : List Blk := [(.arr 3 ((ro29o x).certs).length (gL (encCert 1) ((ro29o x).certs)) tagS), (.arr 1 ((ro29o x).refs).length (gL encI ((ro29o x).refs)) tagS)]
noncomputable def rs29o (x : Msg) : V := .agg [.int .i64 ((ro29o x).kind), .int .i64 ((ro29o x).view), .int .i64 ((ro29o x).sender), .int .i64 ((ro29o x).slot), .int .i64 ((ro29o x).value), .osl 0 ((ro29o x).certs).length, .osl 1 ((ro29o x).refs).length]
noncomputable def sp29o : FSpec := fun args bin => match args, bin with
  | [a0], [] => some (VLe a0 (encMsg 1 ((decMsg a0))) ∧ pr29o (decMsg a0), rs29o (decMsg a0), rb29o (decMsg a0))
  | _, _ => none
noncomputable def D29o : Nat → Option (Bool × FSpec) := lk [(89, (false, sp89o)), (54, (false, sp54o))]
theorem da29o : SoundAll Try.prog D29o := soundAll_cons so89o (soundAll_cons so54o (soundAll_nil))
noncomputable def cx29o (x : Msg) : Cx := ⟨tt, D29o, Try.f29.ntmps, [0, 1, 2, 3], [], [], fun _ => none, [], noM, []⟩
theorem bd29o (x : Msg) (hpre : pr29o x) : bodyO (cx29o x) Try.f29 [(5, 3), (6, 1)] [encMsg 1 (x)] [] (fun rr bs => VLe rr (rs29o x) ∧ BinLe bs (rb29o x)) := by
  have key :
      (((VLe (encL (encCert 1) 1 (Msg.certs x))
   (encL (encCert 1) 1 (decL decCert (encL (encCert 1) 1 (Msg.certs x))))) ∧
   (pr89o (decL decCert (encL (encCert 1) 1 (Msg.certs x))))) ∧
   (((VLe (encL encI 1 (Msg.refs x)) (encL encI 1 (decL decI (encL encI 1 (Msg.refs x))))) ∧
   (pr54o (decL decI (encL encI 1 (Msg.refs x))))) ∧
   ((VLe
   (V.agg
   [V.int IntKind.i64 (Msg.kind x), V.int IntKind.i64 (Msg.view x), V.int IntKind.i64 (Msg.sender x),
   V.int IntKind.i64 (Msg.slot x), V.int IntKind.i64 (Msg.value x),
   V.osl 0 (List.length (ro89o (decL decCert (encL (encCert 1) 1 (Msg.certs x))))),
   V.osl 1 (List.length (ro54o (decL decI (encL encI 1 (Msg.refs x)))))])
   (V.agg
   [V.int IntKind.i64 (Msg.kind (ro29o x)), V.int IntKind.i64 (Msg.view (ro29o x)),
   V.int IntKind.i64 (Msg.sender (ro29o x)), V.int IntKind.i64 (Msg.slot (ro29o x)),
   V.int IntKind.i64 (Msg.value (ro29o x)), V.osl 0 (List.length (Msg.certs (ro29o x))),
   V.osl 1 (List.length (Msg.refs (ro29o x)))])) ∧
   ((BLe
   (Blk.arr 3 (List.length (ro89o (decL decCert (encL (encCert 1) 1 (Msg.certs x)))))
   (gL (encCert 1) (ro89o (decL decCert (encL (encCert 1) 1 (Msg.certs x))))) 100)
   (Blk.arr 3 (List.length (Msg.certs (ro29o x))) (gL (encCert 1) (Msg.certs (ro29o x))) 100)) ∧
   ((BLe
   (Blk.arr 1 (List.length (ro54o (decL decI (encL encI 1 (Msg.refs x)))))
   (gL encI (ro54o (decL decI (encL encI 1 (Msg.refs x))))) 100)
   (Blk.arr 1 (List.length (Msg.refs (ro29o x))) (gL encI (Msg.refs (ro29o x))) 100)) ∧
   (True)))))) := by
    obtain ⟨h1, h2⟩ := hpre
    simp only [decL_Cert, decL_ints, ro29o, ro89o, ro54o]
    exact ⟨⟨VLe.refl _, h1, fun _ _ => trivial⟩, ⟨VLe.refl _, h2⟩, VLe.refl _, BLe.refl _, BLe.refl _, trivial⟩
  exact Eq.mp (by kernel_rfl) key
theorem so29o : Sound Try.prog 29 sp29o := by
  refine sound_of_bodyO hmix (tpl := [(5, 3), (6, 1)]) Try.func29 rfl (by kernel_rfl) fun args bin ob r bout hDe hob => ?_
  unfold sp29o at hDe
  split at hDe
  · rename_i a0
    cases hDe
    exact ⟨Nat.le_of_ble_eq_true (by kernel_rfl), cx29o (decMsg a0), Eq.mp (by kernel_rfl) htt, Eq.mp (by kernel_rfl) da29o, Eq.mp (by kernel_rfl) (noM_sound (P := Try.prog)), by kernel_rfl, [encMsg 1 ((decMsg a0))], [], args_of_vles (⟨hob.1, trivial⟩), trivial, Eq.mp (by kernel_rfl) (bd29o (decMsg a0) (hob.2))⟩
  · cases hDe

end Go.Av
