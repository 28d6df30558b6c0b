/- What is wrong with a ledger: program and reference; the laws' helpers on ledgers. -/
import Derived.Test.YtfbciaffgpbcoaaGreatE2
import Derived.Test.YtfbciaffgpbcoaaGreatE3
namespace Go.Av
open Go.Proofs
set_option maxRecDepth 100000
set_option linter.unusedVariables false
set_option linter.unusedSimpArgs false

@[simp] theorem decPInt_ptr (k : IntKind) (n : Int) (o t : Nat) : decPInt (.ptr [.int k n] o t) = n := rfl
/-- A ledger whose lists are no longer than memory. -/
def bdL (l : List Msg) : Prop := l.length ≤ maxLen ∧ ∀ m ∈ l, m.bd
theorem bdL_get {l : List Msg} (h : bdL l) {i : Nat} (hi : i < l.length) : (l.getD i default).bd := h.2 _ (by simp [hi])
theorem bdL_take {l : List Msg} (h : bdL l) (i : Nat) : bdL (l.take i) := ⟨by have := h.1; simp; omega, fun m hm => h.2 m (List.mem_of_mem_take hm)⟩


/-! ### laws.toMsgS -/
def pr6 (xs : List Msg) : Prop := xs.length ≤ most ∧ ∀ x ∈ xs, pr13 x
noncomputable def rs6 (xs : List Msg) : V := encL (encMsg 1) 2 (xs)
noncomputable def sp6 : FSpec := fun args bin => match args, bin with
  | [a0], [] => some (VLe a0 (encL (encMsg 1) 1 (((decL decMsg) a0))) ∧ pr6 ((decL decMsg) a0), rs6 ((decL decMsg) a0), [])
  | _, _ => none
noncomputable def in6_3 (xs : List Msg) : LoopInv :=
  ⟨Nat × List Msg, fun p => ⟨[(0, encL (encMsg 1) 1 xs), (3, .osl (canonT 3) xs.length), (4, .int .i64 p.1)], [(canonT 3, .arr 7 xs.length (gL (encMsg 1) p.2) 2)]⟩,
    fun p => p.1 ≤ xs.length ∧ p.2.length = xs.length ∧ ∀ j, j < p.1 → p.2.getD j default = xs.getD j default, fun p => xs.length - p.1⟩
noncomputable def iv6 (xs : List Msg) : Nat → Option LoopInv := fun rg_ => match rg_ with
  | 3 => some (in6_3 xs)
  | _ => none
noncomputable def D6 : Nat → Option (Bool × FSpec) := lk [(13, (false, sp13))]
theorem da6 : SoundAll Tryz.prog D6 := soundAll_cons so13 (soundAll_nil)
noncomputable def cx6 (xs : List Msg) : Cx := ⟨tt, D6, Tryz.f6.ntmps, [0, 2, 3, 4, 11], [(3, ⟨[(0, none), (3, some 7), (4, none)], []⟩)], [], iv6 xs, [], noM, []⟩
theorem bd6 (xs : List Msg) (hpre : pr6 xs) : bodyP (cx6 xs) Tryz.f6 1 [encL (encMsg 1) 1 (xs)] (fun rr => VLe rr (rs6 xs)) := by
  have key :
      ((((0 : Int) ≤ (↑(List.length xs) : Int)) ∧
   (((↑(List.length xs) : Int) ≤ (↑(List.length xs) : Int)) ∧
   ((↑(List.length xs) : Int) ≤ (↑1073741824 : Int)))) ∧
   ((∃ x : Nat × List Msg, ((SLe
   (AS.mk
   [(0, encL (encMsg 1) 1 xs),
   (3, V.osl 32000256 (Int.toNat (↑(List.length xs) : Int))),
   (4, V.int IntKind.i64 (0 : Int))]
   [(32000256,
   Blk.arr 7 (Int.toNat (↑(List.length xs) : Int))
   (fun (x : Nat) ↦
   V.agg
   [V.int IntKind.i64 (0 : Int), V.int IntKind.i64 (0 : Int), V.int IntKind.i64 (0 : Int),
   V.int IntKind.i64 (0 : Int), V.int IntKind.i64 (0 : Int), V.nil, V.nil])
   2)])
   (AS.mk
   [(0, encL (encMsg 1) 1 xs), (3, V.osl 32000256 (List.length xs)),
   (4, V.int IntKind.i64 (↑(Prod.fst x) : Int))]
   [(32000256, Blk.arr 7 (List.length xs) (gL (encMsg 1) (Prod.snd x)) 2)])) ∧
   ((Prod.fst x ≤ List.length xs) ∧
   ((List.length (Prod.snd x) = List.length xs) ∧
   (∀ j : Nat,
   ((j < Prod.fst x) →
   (List.getD (Prod.snd x) j default = List.getD xs j default))))))) ∧
   (∀ x : Nat × List Msg,
   (((Prod.fst x ≤ List.length xs) ∧
   ((List.length (Prod.snd x) = List.length xs) ∧
   (∀ j : Nat,
   ((j < Prod.fst x) →
   (List.getD (Prod.snd x) j default = List.getD xs j default))))) →
   (((decide ((↑(Prod.fst x) : Int) < (↑(List.length xs) : Int)) = true) →
   ((((0 : Int) ≤ (↑(Prod.fst x) : Int)) ∧
   ((↑(Prod.fst x) : Int) < (↑(List.length xs) : Int))) ∧
   (((VLe (encMsg 1 (List.getD xs (Int.toNat (↑(Prod.fst x) : Int)) default))
   (encMsg 1 (decMsg (encMsg 1 (List.getD xs (Int.toNat (↑(Prod.fst x) : Int)) default))))) ∧
   (pr13 (decMsg (encMsg 1 (List.getD xs (Int.toNat (↑(Prod.fst x) : Int)) default))))) ∧
   ((((0 : Int) ≤ (↑(Prod.fst x) : Int)) ∧
   ((↑(Prod.fst x) : Int) < (↑(List.length xs) : Int))) ∧
   ((Int.toNat (↑(Prod.fst x) : Int) < List.length xs) ∧
   ((inK IntKind.i64 ((↑(Prod.fst x) : Int) + (1 : Int))) ∧
   (∃ y : Nat × List Msg, ((SLe
   (AS.mk
   [(0, encL (encMsg 1) 1 xs), (3, V.osl 32000256 (List.length xs)),
   (4, V.int IntKind.i64 ((↑(Prod.fst x) : Int) + (1 : Int)))]
   [(32000256,
   Blk.arr 7 (List.length xs)
   (setg (gL (encMsg 1) (Prod.snd x)) (Int.toNat (↑(Prod.fst x) : Int))
   (encMsg 220 (decMsg (encMsg 1 (List.getD xs (Int.toNat (↑(Prod.fst x) : Int)) default)))))
   2)])
   (AS.mk
   [(0, encL (encMsg 1) 1 xs), (3, V.osl 32000256 (List.length xs)),
   (4, V.int IntKind.i64 (↑(Prod.fst y) : Int))]
   [(32000256, Blk.arr 7 (List.length xs) (gL (encMsg 1) (Prod.snd y)) 2)])) ∧
   (((Prod.fst y ≤ List.length xs) ∧
   ((List.length (Prod.snd y) = List.length xs) ∧
   (∀ j : Nat,
   ((j < Prod.fst y) →
   (List.getD (Prod.snd y) j default = List.getD xs j default))))) ∧
   (List.length xs - Prod.fst y < List.length xs - Prod.fst x)))))))))) ∧
   ((decide ((↑(Prod.fst x) : Int) < (↑(List.length xs) : Int)) = false) →
   (VLe (V.sl (List.length xs) (gL (encMsg 1) (Prod.snd x)) 2) (encL (encMsg 1) 2 xs)))))))) := by
    unfold pr6 most at hpre
    obtain ⟨hpre, hel⟩ := hpre
    refine ⟨⟨by omega, by omega, by omega⟩, ⟨(0, List.replicate xs.length default), ?_, by simp, by simp, fun j hj => absurd hj (Nat.not_lt_zero j)⟩, ?_⟩
    · refine sle_of ⟨rfl, VLe.refl _, rfl, VLe.refl _, rfl, VLe.refl _, trivial⟩ ⟨rfl, ?_, trivial⟩
      refine ble_arr (fun i hi => ?_) (Or.inl rfl)
      have hi' : i < xs.length := hi
      have e1 : gL (encMsg 1) (List.replicate xs.length default) i = (encMsg 1) default := by simp [gL, hi']
      rw [e1]
      exact zele_Msg
    · rintro ⟨i, ys⟩ ⟨hi, hl, hj⟩
      simp only at hi hl hj ⊢
      refine ⟨fun h => ?_, fun h => ?_⟩
      · have hlt : i < xs.length := by simpa using h
        have hin : xs.getD i default ∈ xs := by simp [hlt]
        simp only [dec_encMsg, Int.toNat_natCast]
        refine ⟨⟨by omega, by omega⟩, ⟨VLe.refl _, hel _ hin⟩, ⟨by omega, by omega⟩, by simpa using hlt, inK64 (by omega), (i + 1, ys.set i (xs.getD i default)), ?_, ⟨by simp only; omega, by simpa using hl, fun j h2 => ?_⟩, by simp only; omega⟩
        · refine sle_of ⟨rfl, VLe.refl _, rfl, VLe.refl _, rfl, vle_int (by simp), trivial⟩ ⟨rfl, ?_, trivial⟩
          refine ble_arr (fun k hk => ?_) (Or.inl rfl)
          simp only [setg, gL, Int.toNat_natCast]
          by_cases e : k = i
          · subst e
            rw [if_pos rfl, getD_set_eq _ _ _ _ (by omega)]
            exact ele_Msg _ _ _
          · rw [if_neg e, getD_set_ne _ _ _ _ e]
            exact ELe.refl _
        · simp only at h2 ⊢
          by_cases e : j = i
          · subst e; rw [getD_set_eq _ _ _ _ (by omega)]
          · rw [getD_set_ne _ _ _ _ e]; exact hj j (by omega)
      · have hge : i = xs.length := by simp at h; omega
        refine vle_sl (fun k hk => ?_) (Or.inl rfl)
        simp only [gL]
        rw [hj k (by omega)]
        exact ELe.refl _
  exact Eq.mp (by kernel_rfl) key
theorem so6 : Sound Tryz.prog 6 sp6 := by
  refine sound_of_body hmix (pol := 1) Tryz.func6 rfl (by kernel_rfl) fun args bin ob r bout hDe hob => ?_
  unfold sp6 at hDe
  split at hDe
  · rename_i a0
    cases hDe
    exact ⟨rfl, rfl, Nat.le_of_ble_eq_true (by kernel_rfl), cx6 ((decL decMsg) a0), Eq.mp (by kernel_rfl) htt, Eq.mp (by kernel_rfl) da6, Eq.mp (by kernel_rfl) (noM_sound (P := Tryz.prog)), by kernel_rfl, [encL (encMsg 1) 1 (((decL decMsg) a0))], args_of_vles (⟨hob.1, trivial⟩), Eq.mp (by kernel_rfl) (bd6 ((decL decMsg) a0) (hob.2))⟩
  · cases hDe

/-! ### laws.eqMsgS -/
def pr9 (xs : List Msg) (ys : List Msg) : Prop := xs.length ≤ maxLen ∧ ∀ x ∈ xs, ∀ y, pr16 x y
noncomputable def rs9 (xs : List Msg) (ys : List Msg) : V := .bool (decide (xs = ys))
noncomputable def sp9 : FSpec := fun args bin => match args, bin with
  | [a0, a1], [] => some (VLe a0 (encL (encMsg 1) 1 (((decL decMsg) a0))) ∧ VLe a1 (encL (encMsg 1) 1 (((decL decMsg) a1))) ∧ pr9 ((decL decMsg) a0) ((decL decMsg) a1), rs9 ((decL decMsg) a0) ((decL decMsg) a1), [])
  | _, _ => none
noncomputable def in9_4 (xs : List Msg) (ys : List Msg) : LoopInv :=
  ⟨Nat, fun i => ⟨[(0, encL (encMsg 1) 1 xs), (1, encL (encMsg 1) 1 ys), (5, .int .i64 i)], []⟩,
    fun i => i ≤ xs.length ∧ xs.length = ys.length ∧ ∀ j, j < i → xs.getD j default = ys.getD j default, fun i => xs.length - i⟩
noncomputable def iv9 (xs : List Msg) (ys : List Msg) : Nat → Option LoopInv := fun rg_ => match rg_ with
  | 4 => some (in9_4 xs ys)
  | _ => none
noncomputable def D9 : Nat → Option (Bool × FSpec) := lk [(16, (false, sp16))]
theorem da9 : SoundAll Tryz.prog D9 := soundAll_cons so16 (soundAll_nil)
noncomputable def cx9 (xs : List Msg) (ys : List Msg) : Cx := ⟨tt, D9, Tryz.f9.ntmps, [0, 1, 4, 5, 10, 14, 26], [(4, ⟨[(0, none), (1, none), (5, none)], []⟩)], [], iv9 xs ys, [], noM, []⟩
theorem bd9 (xs : List Msg) (ys : List Msg) (hpre : pr9 xs ys) : bodyP (cx9 xs ys) Tryz.f9 0 [encL (encMsg 1) 1 (xs), encL (encMsg 1) 1 (ys)] (fun rr => VLe rr (rs9 xs ys)) := by
  have key :
      (((((↑(List.length xs) : Int) != (↑(List.length ys) : Int)) = true) →
   (VLe (V.bool false) (V.bool (decide (xs = ys))))) ∧
   ((((↑(List.length xs) : Int) != (↑(List.length ys) : Int)) = false) →
   ((∃ x : Nat, ((SLe
   (AS.mk
   [(0, encL (encMsg 1) 1 xs), (1, encL (encMsg 1) 1 ys),
   (5, V.int IntKind.i64 (0 : Int))]
   [])
   (AS.mk
   [(0, encL (encMsg 1) 1 xs), (1, encL (encMsg 1) 1 ys),
   (5, V.int IntKind.i64 (↑x : Int))]
   [])) ∧
   ((x ≤ List.length xs) ∧
   ((List.length xs = List.length ys) ∧
   (∀ j : Nat,
   ((j < x) →
   (List.getD xs j default = List.getD ys j default))))))) ∧
   (∀ x : Nat,
   (((x ≤ List.length xs) ∧
   ((List.length xs = List.length ys) ∧
   (∀ j : Nat,
   ((j < x) →
   (List.getD xs j default = List.getD ys j default))))) →
   (((decide ((↑x : Int) < (↑(List.length xs) : Int)) = true) →
   ((((0 : Int) ≤ (↑x : Int)) ∧
   ((↑x : Int) < (↑(List.length xs) : Int))) ∧
   ((((0 : Int) ≤ (↑x : Int)) ∧
   ((↑x : Int) < (↑(List.length ys) : Int))) ∧
   (((VLe (encMsg 1 (List.getD xs (Int.toNat (↑x : Int)) default))
   (encMsg 1 (decMsg (encMsg 1 (List.getD xs (Int.toNat (↑x : Int)) default))))) ∧
   ((VLe (encMsg 1 (List.getD ys (Int.toNat (↑x : Int)) default))
   (encMsg 1 (decMsg (encMsg 1 (List.getD ys (Int.toNat (↑x : Int)) default))))) ∧
   (pr16 (decMsg (encMsg 1 (List.getD xs (Int.toNat (↑x : Int)) default)))
   (decMsg (encMsg 1 (List.getD ys (Int.toNat (↑x : Int)) default)))))) ∧
   ((((!decide
   (decMsg (encMsg 1 (List.getD xs (Int.toNat (↑x : Int)) default)) =
   decMsg (encMsg 1 (List.getD ys (Int.toNat (↑x : Int)) default)))) =
   true) →
   (VLe (V.bool false) (V.bool (decide (xs = ys))))) ∧
   (((!decide
   (decMsg (encMsg 1 (List.getD xs (Int.toNat (↑x : Int)) default)) =
   decMsg (encMsg 1 (List.getD ys (Int.toNat (↑x : Int)) default)))) =
   false) →
   ((inK IntKind.i64 ((↑x : Int) + (1 : Int))) ∧
   (∃ y : Nat, ((SLe
   (AS.mk
   [(0, encL (encMsg 1) 1 xs), (1, encL (encMsg 1) 1 ys),
   (5, V.int IntKind.i64 ((↑x : Int) + (1 : Int)))]
   [])
   (AS.mk
   [(0, encL (encMsg 1) 1 xs), (1, encL (encMsg 1) 1 ys),
   (5, V.int IntKind.i64 (↑y : Int))]
   [])) ∧
   (((y ≤ List.length xs) ∧
   ((List.length xs = List.length ys) ∧
   (∀ j : Nat,
   ((j < y) →
   (List.getD xs j default = List.getD ys j default))))) ∧
   (List.length xs - y < List.length xs - x))))))))))) ∧
   ((decide ((↑x : Int) < (↑(List.length xs) : Int)) = false) →
   (VLe (V.bool true) (V.bool (decide (xs = ys))))))))))) := by
    unfold pr9 maxLen at hpre
    obtain ⟨hpre, hel⟩ := hpre
    refine ⟨fun h => ?_, fun h => ?_⟩
    · refine vle_bool ?_
      have hne : xs ≠ ys := fun e => by subst e; simp at h
      simp [hne]
    · have hlen : xs.length = ys.length := by simp at h; omega
      refine ⟨⟨0, SLe.refl _, by omega, hlen, fun j hj => absurd hj (Nat.not_lt_zero j)⟩, ?_⟩
      rintro i ⟨hi, _, hj⟩
      refine ⟨fun h => ?_, fun h => ?_⟩
      · have hlt : i < xs.length := by simpa using h
        have hin : xs.getD i default ∈ xs := by simp [hlt]
        simp only [dec_encMsg, Int.toNat_natCast]
        refine ⟨⟨by omega, by omega⟩, ⟨by omega, by omega⟩, ⟨VLe.refl _, VLe.refl _, hel _ hin _⟩, fun h2 => ?_, fun h2 => ⟨inK64 (by omega), i + 1, SLe.refl _, ⟨by omega, hlen, fun j h3 => ?_⟩, by omega⟩⟩
        · refine vle_bool ?_
          have hne : xs ≠ ys := fun e => by subst e; simp at h2
          simp [hne]
        · rcases Nat.lt_or_ge j i with h4 | h4
          · exact hj j h4
          · have : j = i := by omega
            subst this
            simpa using h2
      · refine vle_bool ?_
        have hge : i = xs.length := by simp at h; omega
        have heq : xs = ys := by
          refine List.ext_getElem hlen fun k h1 h2 => ?_
          have := hj k (by omega)
          simpa [h1, h2] using this
        simp [heq]
  exact Eq.mp (by kernel_rfl) key
theorem so9 : Sound Tryz.prog 9 sp9 := by
  refine sound_of_body hmix (pol := 0) Tryz.func9 rfl (by kernel_rfl) fun args bin ob r bout hDe hob => ?_
  unfold sp9 at hDe
  split at hDe
  · rename_i a0 a1
    cases hDe
    exact ⟨rfl, rfl, Nat.le_of_ble_eq_true (by kernel_rfl), cx9 ((decL decMsg) a0) ((decL decMsg) a1), Eq.mp (by kernel_rfl) htt, Eq.mp (by kernel_rfl) da9, Eq.mp (by kernel_rfl) (noM_sound (P := Tryz.prog)), by kernel_rfl, [encL (encMsg 1) 1 (((decL decMsg) a0)), encL (encMsg 1) 1 (((decL decMsg) a1))], args_of_vles (⟨hob.1, hob.2.1, trivial⟩), Eq.mp (by kernel_rfl) (bd9 ((decL decMsg) a0) ((decL decMsg) a1) (hob.2.2))⟩
  · cases hDe

/-! ### impl.refsTo$1 -/
def pr70 (r : Int) (most : Int) : Prop := True
noncomputable def rs70 (r : Int) (most : Int) : V := .bool (decide (most ≤ r))
noncomputable def sp70 : FSpec := fun args bin => match args, bin with
  | [.int .i64 a0, a1], [] => some (VLe a1 (encPInt 1 ((decPInt a1))) ∧ pr70 a0 (decPInt a1), rs70 a0 (decPInt a1), [])
  | _, _ => none
noncomputable def D70 : Nat → Option (Bool × FSpec) := lk []
theorem da70 : SoundAll Tryz.prog D70 := soundAll_nil
noncomputable def cx70 (r : Int) (most : Int) : Cx := ⟨tt, D70, Tryz.f70.ntmps, [0, 1, 3], [], [], fun _ => none, [], noM, []⟩
theorem bd70 (r : Int) (most : Int) (hpre : pr70 r most) : bodyP (cx70 r most) Tryz.f70 0 [.int .i64 (r), encPInt 1 (most)] (fun rr => VLe rr (rs70 r most)) := by
  have key :
      (VLe (V.bool (decide (r ≥ most))) (V.bool (decide (most ≤ r)))) := by
    exact VLe.refl _
  exact Eq.mp (by kernel_rfl) key
theorem so70 : Sound Tryz.prog 70 sp70 := by
  refine sound_of_body hmix (pol := 0) Tryz.func70 rfl (by kernel_rfl) fun args bin ob r bout hDe hob => ?_
  unfold sp70 at hDe
  split at hDe
  · rename_i a0 a1
    cases hDe
    exact ⟨rfl, rfl, Nat.le_of_ble_eq_true (by kernel_rfl), cx70 a0 (decPInt a1), Eq.mp (by kernel_rfl) htt, Eq.mp (by kernel_rfl) da70, Eq.mp (by kernel_rfl) (noM_sound (P := Tryz.prog)), by kernel_rfl, [.int .i64 (a0), encPInt 1 ((decPInt a1))], args_of_vles (⟨VLe.refl _, hob.1, trivial⟩), Eq.mp (by kernel_rfl) (bd70 a0 (decPInt a1) (hob.2))⟩
  · cases hDe

/-! ### slices.IndexFunc(()int64,int64)@impl.refsTo$1 -/
def pr90_70 (xs : List Int) (most : Int) : Prop := xs.length ≤ maxLen ∧ (True)
noncomputable def rs90_70 (xs : List Int) (most : Int) : V := .int .i64 (idxF (fun r => decide (most ≤ r)) xs)
noncomputable def sp90_70 : FSpec := fun args bin => match args, bin with
  | [a0, .fn 70 [a1]], [] => some (VLe a0 (encL encI 1 (((decL decI) a0))) ∧ VLe a1 (encPInt 1 ((decPInt a1))) ∧ pr90_70 ((decL decI) a0) (decPInt a1), rs90_70 ((decL decI) a0) (decPInt a1), [])
  | _, _ => none
noncomputable def in90_70_2 (xs : List Int) (most : Int) : LoopInv :=
  ⟨Nat, fun i => ⟨[(0, encL encI 1 xs), (1, .fn 70 [encPInt 1 (most)]), (7, .int .i64 xs.length), (8, .int .i64 i)], []⟩,
    fun i => i ≤ xs.length ∧ ∀ j, j < i → (fun r => decide (most ≤ r)) (xs.getD j default) = false, fun i => xs.length - i⟩
noncomputable def iv90_70 (xs : List Int) (most : Int) : Nat → Option LoopInv := fun rg_ => match rg_ with
  | 2 => some (in90_70_2 xs most)
  | _ => none
noncomputable def D90_70 : Nat → Option (Bool × FSpec) := lk [(70, (false, sp70))]
theorem da90_70 : SoundAll Tryz.prog D90_70 := soundAll_cons so70 (soundAll_nil)
noncomputable def cx90_70 (xs : List Int) (most : Int) : Cx := ⟨tt, D90_70, Tryz.f90.ntmps, [0, 1, 4, 5, 7, 8, 9, 16], [(2, ⟨[(0, none), (1, none), (7, none), (8, none)], []⟩)], [], iv90_70 xs most, [], noM, []⟩
theorem bd90_70 (xs : List Int) (most : Int) (hpre : pr90_70 xs most) : bodyP (cx90_70 xs most) Tryz.f90 0 [encL encI 1 (xs), .fn 70 [encPInt 1 (most)]] (fun rr => VLe rr (rs90_70 xs most)) := by
  have key :
      ((∃ x : Nat, ((SLe
   (AS.mk
   [(0, encL encI 1 xs), (1, V.fn (70 : FuncId) [encPInt 1 most]),
   (7, V.int IntKind.i64 (↑(List.length xs) : Int)), (8, V.int IntKind.i64 (0 : Int))]
   [])
   (AS.mk
   [(0, encL encI 1 xs), (1, V.fn (70 : FuncId) [encPInt 1 most]),
   (7, V.int IntKind.i64 (↑(List.length xs) : Int)), (8, V.int IntKind.i64 (↑x : Int))]
   [])) ∧
   ((x ≤ List.length xs) ∧
   (∀ j : Nat,
   ((j < x) →
   (decide (most ≤ List.getD xs j default) = false)))))) ∧
   (∀ x : Nat,
   (((x ≤ List.length xs) ∧
   (∀ j : Nat,
   ((j < x) →
   (decide (most ≤ List.getD xs j default) = false)))) →
   (((decide ((↑x : Int) < (↑(List.length xs) : Int)) = true) →
   ((((0 : Int) ≤ (↑x : Int)) ∧
   ((↑x : Int) < (↑(List.length xs) : Int))) ∧
   (((VLe (V.ptr [V.int IntKind.i64 most] 0 1)
   (encPInt 1 (decPInt (V.ptr [V.int IntKind.i64 most] 0 1)))) ∧
   (pr70 (List.getD xs (Int.toNat (↑x : Int)) default) (decPInt (V.ptr [V.int IntKind.i64 most] 0 1)))) ∧
   (((decide (decPInt (V.ptr [V.int IntKind.i64 most] 0 1) ≤ List.getD xs (Int.toNat (↑x : Int)) default) =
   true) →
   (VLe (V.int IntKind.i64 (↑x : Int)) (V.int IntKind.i64 (idxF (fun (r : Int) ↦ decide (most ≤ r)) xs)))) ∧
   ((decide (decPInt (V.ptr [V.int IntKind.i64 most] 0 1) ≤ List.getD xs (Int.toNat (↑x : Int)) default) =
   false) →
   ((inK IntKind.i64 ((↑x : Int) + (1 : Int))) ∧
   (∃ y : Nat, ((SLe
   (AS.mk
   [(0, encL encI 1 xs), (1, V.fn (70 : FuncId) [encPInt 1 most]),
   (7, V.int IntKind.i64 (↑(List.length xs) : Int)), (8, V.int IntKind.i64 ((↑x : Int) + (1 : Int)))]
   [])
   (AS.mk
   [(0, encL encI 1 xs), (1, V.fn (70 : FuncId) [encPInt 1 most]),
   (7, V.int IntKind.i64 (↑(List.length xs) : Int)), (8, V.int IntKind.i64 (↑y : Int))]
   [])) ∧
   (((y ≤ List.length xs) ∧
   (∀ j : Nat,
   ((j < y) →
   (decide (most ≤ List.getD xs j default) = false)))) ∧
   (List.length xs - y < List.length xs - x)))))))))) ∧
   ((decide ((↑x : Int) < (↑(List.length xs) : Int)) = false) →
   (VLe (V.int IntKind.i64 (-1 : Int)) (V.int IntKind.i64 (idxF (fun (r : Int) ↦ decide (most ≤ r)) xs)))))))) := by
    obtain ⟨hlen, hp⟩ := hpre
    unfold maxLen at hlen
    refine ⟨⟨0, SLe.refl _, by omega, fun j hj => absurd hj (Nat.not_lt_zero j)⟩, ?_⟩
    rintro i ⟨hi, hj⟩
    refine ⟨fun h => ?_, fun h => ?_⟩
    · have hlt : i < xs.length := by simpa using h
      have hin : xs.getD i default ∈ xs := by simp [hlt]
      simp only [Int.toNat_natCast, decI_int, dec_encPMsg, dec_encPInt, decL_Msg]
      refine ⟨⟨by omega, by omega⟩, ⟨VLe.refl _, trivial⟩, fun h2 => vle_int (idxF_some hlt hj h2).symm, fun h2 => ⟨inK64 (by omega), i + 1, SLe.refl _, ⟨by omega, fun j h3 => ?_⟩, by omega⟩⟩
      rcases Nat.lt_or_ge j i with h4 | h4
      · exact hj j h4
      · have : j = i := by omega
        subst this
        exact h2
    · have hge : i = xs.length := by simp at h; omega
      exact vle_int (idxF_none fun j h3 => hj j (by omega)).symm
  exact Eq.mp (by kernel_rfl) key
theorem so90_70 : Sound Tryz.prog 90 sp90_70 := by
  refine sound_of_body hmix (pol := 0) Tryz.func90 rfl (by kernel_rfl) fun args bin ob r bout hDe hob => ?_
  unfold sp90_70 at hDe
  split at hDe
  · rename_i a0 a1
    cases hDe
    exact ⟨rfl, rfl, Nat.le_of_ble_eq_true (by kernel_rfl), cx90_70 ((decL decI) a0) (decPInt a1), Eq.mp (by kernel_rfl) htt, Eq.mp (by kernel_rfl) da90_70, Eq.mp (by kernel_rfl) (noM_sound (P := Tryz.prog)), by kernel_rfl, [encL encI 1 (((decL decI) a0)), .fn 70 [encPInt 1 ((decPInt a1))]], args_of_vles (⟨hob.1, vle_fn ⟨hob.2.1, trivial⟩, trivial⟩), Eq.mp (by kernel_rfl) (bd90_70 ((decL decI) a0) (decPInt a1) (hob.2.2))⟩
  · cases hDe

/-! ### slices.ContainsFunc(()int64,int64)@impl.refsTo$1 -/
def pr68_70 (xs : List Int) (most : Int) : Prop := xs.length ≤ maxLen ∧ (True)
noncomputable def rs68_70 (xs : List Int) (most : Int) : V := .bool (xs.any (fun r => decide (most ≤ r)))
noncomputable def sp68_70 : FSpec := fun args bin => match args, bin with
  | [a0, .fn 70 [a1]], [] => some (VLe a0 (encL encI 1 (((decL decI) a0))) ∧ VLe a1 (encPInt 1 ((decPInt a1))) ∧ pr68_70 ((decL decI) a0) (decPInt a1), rs68_70 ((decL decI) a0) (decPInt a1), [])
  | _, _ => none
noncomputable def D68_70 : Nat → Option (Bool × FSpec) := lk [(90, (false, sp90_70))]
theorem da68_70 : SoundAll Tryz.prog D68_70 := soundAll_cons so90_70 (soundAll_nil)
noncomputable def cx68_70 (xs : List Int) (most : Int) : Cx := ⟨tt, D68_70, Tryz.f68.ntmps, [0, 1, 4], [], [], fun _ => none, [], noM, []⟩
theorem bd68_70 (xs : List Int) (most : Int) (hpre : pr68_70 xs most) : bodyP (cx68_70 xs most) Tryz.f68 0 [encL encI 1 (xs), .fn 70 [encPInt 1 (most)]] (fun rr => VLe rr (rs68_70 xs most)) := by
  have key :
      (((VLe (encL encI 1 xs) (encL encI 1 (decL decI (encL encI 1 xs)))) ∧
   ((VLe (V.ptr [V.int IntKind.i64 most] 0 1)
   (encPInt 1 (decPInt (V.ptr [V.int IntKind.i64 most] 0 1)))) ∧
   (pr90_70 (decL decI (encL encI 1 xs)) (decPInt (V.ptr [V.int IntKind.i64 most] 0 1))))) ∧
   (VLe
   (V.bool
   (decide
   (idxF (fun (r : Int) ↦ decide (decPInt (V.ptr [V.int IntKind.i64 most] 0 1) ≤ r))
   (decL decI (encL encI 1 xs)) ≥
   (0 : Int))))
   (V.bool (List.any xs fun (r : Int) ↦ decide (most ≤ r))))) := by
    simp only [decL_ints, decL_Cert, dec_encPMsg, dec_encMsg, dec_encPInt, decL_Msg]
    refine ⟨?_, vle_bool (idxF_nonneg _ _)⟩
    repeat' (first | exact VLe.refl _ | exact hpre | apply And.intro)
  exact Eq.mp (by kernel_rfl) key
theorem so68_70 : Sound Tryz.prog 68 sp68_70 := by
  refine sound_of_body hmix (pol := 0) Tryz.func68 rfl (by kernel_rfl) fun args bin ob r bout hDe hob => ?_
  unfold sp68_70 at hDe
  split at hDe
  · rename_i a0 a1
    cases hDe
    exact ⟨rfl, rfl, Nat.le_of_ble_eq_true (by kernel_rfl), cx68_70 ((decL decI) a0) (decPInt a1), Eq.mp (by kernel_rfl) htt, Eq.mp (by kernel_rfl) da68_70, Eq.mp (by kernel_rfl) (noM_sound (P := Tryz.prog)), by kernel_rfl, [encL encI 1 (((decL decI) a0)), .fn 70 [encPInt 1 ((decPInt a1))]], args_of_vles (⟨hob.1, vle_fn ⟨hob.2.1, trivial⟩, trivial⟩), Eq.mp (by kernel_rfl) (bd68_70 ((decL decI) a0) (decPInt a1) (hob.2.2))⟩
  · cases hDe

/-! ### impl.refsTo -/
def pr44 (m : Msg) (most : Int) : Prop := m.bd
noncomputable def rs44 (m : Msg) (most : Int) : V := .bool (decide (refsBelow m most))
noncomputable def sp44 : FSpec := fun args bin => match args, bin with
  | [a0, .int .i64 a1], [] => some (VLe a0 (encMsg 1 ((decMsg a0))) ∧ pr44 (decMsg a0) a1, rs44 (decMsg a0) a1, [])
  | _, _ => none
noncomputable def D44 : Nat → Option (Bool × FSpec) := lk [(68, (false, sp68_70))]
theorem da44 : SoundAll Tryz.prog D44 := soundAll_cons so68_70 (soundAll_nil)
noncomputable def cx44 (m : Msg) (most : Int) : Cx := ⟨tt, D44, Tryz.f44.ntmps, [0, 1, 2, 3, 4], [], [], fun _ => none, [], noM, []⟩
theorem bd44 (m : Msg) (most : Int) (hpre : pr44 m most) : bodyP (cx44 m most) Tryz.f44 0 [encMsg 1 (m), .int .i64 (most)] (fun rr => VLe rr (rs44 m most)) := by
  have key :
      (((VLe (encL encI 1 (Msg.refs m)) (encL encI 1 (decL decI (encL encI 1 (Msg.refs m))))) ∧
   ((VLe (V.ptr [V.int IntKind.i64 most] 0 1)
   (encPInt 1 (decPInt (V.ptr [V.int IntKind.i64 most] 0 1)))) ∧
   (pr68_70 (decL decI (encL encI 1 (Msg.refs m))) (decPInt (V.ptr [V.int IntKind.i64 most] 0 1))))) ∧
   (VLe
   (V.bool
   !List.any (decL decI (encL encI 1 (Msg.refs m))) fun (r : Int) ↦
   decide (decPInt (V.ptr [V.int IntKind.i64 most] 0 1) ≤ r))
   (V.bool (decide (refsBelow m most))))) := by
    simp only [decL_ints, decPInt_ptr]
    refine ⟨⟨VLe.refl _, VLe.refl _, hpre.2, trivial⟩, vle_bool ?_⟩
    rw [Bool.eq_iff_iff]
    simp only [Bool.not_eq_true', List.any_eq_false, decide_eq_true_eq, Int.not_le]
    constructor
    · intro h r hr
      have := of_decide_eq_false (Bool.eq_false_iff.2 (h r hr))
      omega
    · intro h x hx
      have h1 := h x hx
      exact Bool.eq_false_iff.1 (decide_eq_false (by omega))
  exact Eq.mp (by kernel_rfl) key
theorem so44 : Sound Tryz.prog 44 sp44 := by
  refine sound_of_body hmix (pol := 0) Tryz.func44 rfl (by kernel_rfl) fun args bin ob r bout hDe hob => ?_
  unfold sp44 at hDe
  split at hDe
  · rename_i a0 a1
    cases hDe
    exact ⟨rfl, rfl, Nat.le_of_ble_eq_true (by kernel_rfl), cx44 (decMsg a0) a1, Eq.mp (by kernel_rfl) htt, Eq.mp (by kernel_rfl) da44, Eq.mp (by kernel_rfl) (noM_sound (P := Tryz.prog)), by kernel_rfl, [encMsg 1 ((decMsg a0)), .int .i64 (a1)], args_of_vles (⟨hob.1, VLe.refl _, trivial⟩), Eq.mp (by kernel_rfl) (bd44 (decMsg a0) a1 (hob.2))⟩
  · cases hDe

/-! ### impl.msgAt$1 -/
def pr72 (x : Msg) (m : Msg) : Prop := x.bd
noncomputable def rs72 (x : Msg) (m : Msg) : V := .bool (decide (x = m))
noncomputable def sp72 : FSpec := fun args bin => match args, bin with
  | [a0, a1], [] => some (VLe a0 (encMsg 1 ((decMsg a0))) ∧ VLe a1 (encPMsg 1 ((decPMsg a1))) ∧ pr72 (decMsg a0) (decPMsg a1), rs72 (decMsg a0) (decPMsg a1), [])
  | _, _ => none
noncomputable def D72 : Nat → Option (Bool × FSpec) := lk [(73, (false, sp73))]
theorem da72 : SoundAll Tryz.prog D72 := soundAll_cons so73 (soundAll_nil)
noncomputable def cx72 (x : Msg) (m : Msg) : Cx := ⟨tt, D72, Tryz.f72.ntmps, [0, 1, 2, 3], [], [], fun _ => none, [], noM, []⟩
theorem bd72 (x : Msg) (m : Msg) (hpre : pr72 x m) : bodyP (cx72 x m) Tryz.f72 0 [encMsg 1 (x), encPMsg 1 (m)] (fun rr => VLe rr (rs72 x m)) := by
  have key :
      (((VLe (encMsg 1 x) (encMsg 1 (decMsg (encMsg 1 x)))) ∧
   ((VLe (encMsg 1 m) (encMsg 1 (decMsg (encMsg 1 m)))) ∧
   (pr73 (decMsg (encMsg 1 x)) (decMsg (encMsg 1 m))))) ∧
   (VLe (V.bool (decide (decMsg (encMsg 1 x) = decMsg (encMsg 1 m)))) (V.bool (decide (x = m))))) := by
    simp only [dec_encMsg]
    exact ⟨⟨VLe.refl _, VLe.refl _, hpre⟩, VLe.refl _⟩
  exact Eq.mp (by kernel_rfl) key
theorem so72 : Sound Tryz.prog 72 sp72 := by
  refine sound_of_body hmix (pol := 0) Tryz.func72 rfl (by kernel_rfl) fun args bin ob r bout hDe hob => ?_
  unfold sp72 at hDe
  split at hDe
  · rename_i a0 a1
    cases hDe
    exact ⟨rfl, rfl, Nat.le_of_ble_eq_true (by kernel_rfl), cx72 (decMsg a0) (decPMsg a1), Eq.mp (by kernel_rfl) htt, Eq.mp (by kernel_rfl) da72, Eq.mp (by kernel_rfl) (noM_sound (P := Tryz.prog)), by kernel_rfl, [encMsg 1 ((decMsg a0)), encPMsg 1 ((decPMsg a1))], args_of_vles (⟨hob.1, hob.2.1, trivial⟩), Eq.mp (by kernel_rfl) (bd72 (decMsg a0) (decPMsg a1) (hob.2.2))⟩
  · cases hDe

/-! ### slices.IndexFunc(()loop.example/g00369/impl.Msg,loop.example/g00369/impl.Msg)@impl.msgAt$1 -/
def pr71_72 (xs : List Msg) (m : Msg) : Prop := xs.length ≤ maxLen ∧ (∀ x ∈ xs, x.bd)
noncomputable def rs71_72 (xs : List Msg) (m : Msg) : V := .int .i64 (idxF (fun x => decide (x = m)) xs)
noncomputable def sp71_72 : FSpec := fun args bin => match args, bin with
  | [a0, .fn 72 [a1]], [] => some (VLe a0 (encL (encMsg 1) 1 (((decL decMsg) a0))) ∧ VLe a1 (encPMsg 1 ((decPMsg a1))) ∧ pr71_72 ((decL decMsg) a0) (decPMsg a1), rs71_72 ((decL decMsg) a0) (decPMsg a1), [])
  | _, _ => none
noncomputable def in71_72_2 (xs : List Msg) (m : Msg) : LoopInv :=
  ⟨Nat, fun i => ⟨[(0, encL (encMsg 1) 1 xs), (1, .fn 72 [encPMsg 1 (m)]), (7, .int .i64 xs.length), (8, .int .i64 i)], []⟩,
    fun i => i ≤ xs.length ∧ ∀ j, j < i → (fun x => decide (x = m)) (xs.getD j default) = false, fun i => xs.length - i⟩
noncomputable def iv71_72 (xs : List Msg) (m : Msg) : Nat → Option LoopInv := fun rg_ => match rg_ with
  | 2 => some (in71_72_2 xs m)
  | _ => none
noncomputable def D71_72 : Nat → Option (Bool × FSpec) := lk [(72, (false, sp72))]
theorem da71_72 : SoundAll Tryz.prog D71_72 := soundAll_cons so72 (soundAll_nil)
noncomputable def cx71_72 (xs : List Msg) (m : Msg) : Cx := ⟨tt, D71_72, Tryz.f71.ntmps, [0, 1, 4, 5, 7, 8, 9, 16], [(2, ⟨[(0, none), (1, none), (7, none), (8, none)], []⟩)], [], iv71_72 xs m, [], noM, []⟩
theorem bd71_72 (xs : List Msg) (m : Msg) (hpre : pr71_72 xs m) : bodyP (cx71_72 xs m) Tryz.f71 0 [encL (encMsg 1) 1 (xs), .fn 72 [encPMsg 1 (m)]] (fun rr => VLe rr (rs71_72 xs m)) := by
  have key :
      ((∃ x : Nat, ((SLe
   (AS.mk
   [(0, encL (encMsg 1) 1 xs), (1, V.fn (72 : FuncId) [encPMsg 1 m]),
   (7, V.int IntKind.i64 (↑(List.length xs) : Int)), (8, V.int IntKind.i64 (0 : Int))]
   [])
   (AS.mk
   [(0, encL (encMsg 1) 1 xs), (1, V.fn (72 : FuncId) [encPMsg 1 m]),
   (7, V.int IntKind.i64 (↑(List.length xs) : Int)), (8, V.int IntKind.i64 (↑x : Int))]
   [])) ∧
   ((x ≤ List.length xs) ∧
   (∀ j : Nat,
   ((j < x) →
   (decide (List.getD xs j default = m) = false)))))) ∧
   (∀ x : Nat,
   (((x ≤ List.length xs) ∧
   (∀ j : Nat,
   ((j < x) →
   (decide (List.getD xs j default = m) = false)))) →
   (((decide ((↑x : Int) < (↑(List.length xs) : Int)) = true) →
   ((((0 : Int) ≤ (↑x : Int)) ∧
   ((↑x : Int) < (↑(List.length xs) : Int))) ∧
   (((VLe (encMsg 1 (List.getD xs (Int.toNat (↑x : Int)) default))
   (encMsg 1 (decMsg (encMsg 1 (List.getD xs (Int.toNat (↑x : Int)) default))))) ∧
   ((VLe (encPMsg 1 m) (encPMsg 1 (decPMsg (encPMsg 1 m)))) ∧
   (pr72 (decMsg (encMsg 1 (List.getD xs (Int.toNat (↑x : Int)) default))) (decPMsg (encPMsg 1 m))))) ∧
   (((decide (decMsg (encMsg 1 (List.getD xs (Int.toNat (↑x : Int)) default)) = decPMsg (encPMsg 1 m)) = true) →
   (VLe (V.int IntKind.i64 (↑x : Int)) (V.int IntKind.i64 (idxF (fun (x : Msg) ↦ decide (x = m)) xs)))) ∧
   ((decide (decMsg (encMsg 1 (List.getD xs (Int.toNat (↑x : Int)) default)) = decPMsg (encPMsg 1 m)) = false) →
   ((inK IntKind.i64 ((↑x : Int) + (1 : Int))) ∧
   (∃ y : Nat, ((SLe
   (AS.mk
   [(0, encL (encMsg 1) 1 xs), (1, V.fn (72 : FuncId) [encPMsg 1 m]),
   (7, V.int IntKind.i64 (↑(List.length xs) : Int)), (8, V.int IntKind.i64 ((↑x : Int) + (1 : Int)))]
   [])
   (AS.mk
   [(0, encL (encMsg 1) 1 xs), (1, V.fn (72 : FuncId) [encPMsg 1 m]),
   (7, V.int IntKind.i64 (↑(List.length xs) : Int)), (8, V.int IntKind.i64 (↑y : Int))]
   [])) ∧
   (((y ≤ List.length xs) ∧
   (∀ j : Nat,
   ((j < y) →
   (decide (List.getD xs j default = m) = false)))) ∧
   (List.length xs - y < List.length xs - x)))))))))) ∧
   ((decide ((↑x : Int) < (↑(List.length xs) : Int)) = false) →
   (VLe (V.int IntKind.i64 (-1 : Int)) (V.int IntKind.i64 (idxF (fun (x : Msg) ↦ decide (x = m)) xs)))))))) := by
    obtain ⟨hlen, hp⟩ := hpre
    unfold maxLen at hlen
    refine ⟨⟨0, SLe.refl _, by omega, fun j hj => absurd hj (Nat.not_lt_zero j)⟩, ?_⟩
    rintro i ⟨hi, hj⟩
    refine ⟨fun h => ?_, fun h => ?_⟩
    · have hlt : i < xs.length := by simpa using h
      have hin : xs.getD i default ∈ xs := by simp [hlt]
      simp only [Int.toNat_natCast, dec_encMsg, dec_encPMsg, dec_encPInt, decL_Msg]
      refine ⟨⟨by omega, by omega⟩, ⟨VLe.refl _, VLe.refl _, hp _ hin⟩, fun h2 => vle_int (idxF_some hlt hj h2).symm, fun h2 => ⟨inK64 (by omega), i + 1, SLe.refl _, ⟨by omega, fun j h3 => ?_⟩, by omega⟩⟩
      rcases Nat.lt_or_ge j i with h4 | h4
      · exact hj j h4
      · have : j = i := by omega
        subst this
        exact h2
    · have hge : i = xs.length := by simp at h; omega
      exact vle_int (idxF_none fun j h3 => hj j (by omega)).symm
  exact Eq.mp (by kernel_rfl) key
theorem so71_72 : Sound Tryz.prog 71 sp71_72 := by
  refine sound_of_body hmix (pol := 0) Tryz.func71 rfl (by kernel_rfl) fun args bin ob r bout hDe hob => ?_
  unfold sp71_72 at hDe
  split at hDe
  · rename_i a0 a1
    cases hDe
    exact ⟨rfl, rfl, Nat.le_of_ble_eq_true (by kernel_rfl), cx71_72 ((decL decMsg) a0) (decPMsg a1), Eq.mp (by kernel_rfl) htt, Eq.mp (by kernel_rfl) da71_72, Eq.mp (by kernel_rfl) (noM_sound (P := Tryz.prog)), by kernel_rfl, [encL (encMsg 1) 1 (((decL decMsg) a0)), .fn 72 [encPMsg 1 ((decPMsg a1))]], args_of_vles (⟨hob.1, vle_fn ⟨hob.2.1, trivial⟩, trivial⟩), Eq.mp (by kernel_rfl) (bd71_72 ((decL decMsg) a0) (decPMsg a1) (hob.2.2))⟩
  · cases hDe

/-! ### impl.msgAt -/
def pr45 (l : List Msg) (m : Msg) : Prop := bdL l
noncomputable def rs45 (l : List Msg) (m : Msg) : V := .int .i64 (msgAt l m)
noncomputable def sp45 : FSpec := fun args bin => match args, bin with
  | [a0, a1], [] => some (VLe a0 (encL (encMsg 1) 1 (((decL decMsg) a0))) ∧ VLe a1 (encMsg 1 ((decMsg a1))) ∧ pr45 ((decL decMsg) a0) (decMsg a1), rs45 ((decL decMsg) a0) (decMsg a1), [])
  | _, _ => none
noncomputable def D45 : Nat → Option (Bool × FSpec) := lk [(71, (false, sp71_72))]
theorem da45 : SoundAll Tryz.prog D45 := soundAll_cons so71_72 (soundAll_nil)
noncomputable def cx45 (l : List Msg) (m : Msg) : Cx := ⟨tt, D45, Tryz.f45.ntmps, [0, 1, 3, 4], [], [], fun _ => none, [], noM, []⟩
theorem bd45 (l : List Msg) (m : Msg) (hpre : pr45 l m) : bodyP (cx45 l m) Tryz.f45 0 [encL (encMsg 1) 1 (l), encMsg 1 (m)] (fun rr => VLe rr (rs45 l m)) := by
  have key :
      (((VLe (encL (encMsg 1) 1 l)
   (encL (encMsg 1) 1 (decL decMsg (encL (encMsg 1) 1 l)))) ∧
   ((VLe (encPMsg 1 m) (encPMsg 1 (decPMsg (encPMsg 1 m)))) ∧
   (pr71_72 (decL decMsg (encL (encMsg 1) 1 l)) (decPMsg (encPMsg 1 m))))) ∧
   (VLe
   (V.int IntKind.i64
   (idxF (fun (x : Msg) ↦ decide (x = decPMsg (encPMsg 1 m)))
   (decL decMsg (encL (encMsg 1) 1 l))))
   (V.int IntKind.i64 (msgAt l m)))) := by
    simp only [decL_Msg, dec_encPMsg]
    exact ⟨⟨VLe.refl _, VLe.refl _, hpre⟩, VLe.refl _⟩
  exact Eq.mp (by kernel_rfl) key
theorem so45 : Sound Tryz.prog 45 sp45 := by
  refine sound_of_body hmix (pol := 0) Tryz.func45 rfl (by kernel_rfl) fun args bin ob r bout hDe hob => ?_
  unfold sp45 at hDe
  split at hDe
  · rename_i a0 a1
    cases hDe
    exact ⟨rfl, rfl, Nat.le_of_ble_eq_true (by kernel_rfl), cx45 ((decL decMsg) a0) (decMsg a1), Eq.mp (by kernel_rfl) htt, Eq.mp (by kernel_rfl) da45, Eq.mp (by kernel_rfl) (noM_sound (P := Tryz.prog)), by kernel_rfl, [encL (encMsg 1) 1 (((decL decMsg) a0)), encMsg 1 ((decMsg a1))], args_of_vles (⟨hob.1, hob.2.1, trivial⟩), Eq.mp (by kernel_rfl) (bd45 ((decL decMsg) a0) (decMsg a1) (hob.2.2))⟩
  · cases hDe

/-! ### spec.l8At -/
def pr58 (l : List Msg) (m : Msg) : Prop := bdL l
noncomputable def rs58 (l : List Msg) (m : Msg) : V := .int .i64 (msgAt l m)
noncomputable def sp58 : FSpec := fun args bin => match args, bin with
  | [a0, a1], [] => some (VLe a0 (encL (encMsg 1) 1 (((decL decMsg) a0))) ∧ VLe a1 (encPMsg 1 ((decPMsg a1))) ∧ pr58 ((decL decMsg) a0) (decPMsg a1), rs58 ((decL decMsg) a0) (decPMsg a1), [])
  | _, _ => none
noncomputable def in58_2 (l : List Msg) (m : Msg) : LoopInv :=
  ⟨Nat, fun i => ⟨[(0, encL (encMsg 1) 1 l), (1, encPMsg 1 m), (5, .int .i64 i)], []⟩, fun i => i ≤ l.length ∧ ∀ j, j < i → (fun x => decide (x = m)) (l.getD j default) = false, fun i => l.length - i⟩
noncomputable def iv58 (l : List Msg) (m : Msg) : Nat → Option LoopInv := fun rg_ => match rg_ with
  | 2 => some (in58_2 l m)
  | _ => none
noncomputable def D58 : Nat → Option (Bool × FSpec) := lk [(83, (false, sp83))]
theorem da58 : SoundAll Tryz.prog D58 := soundAll_cons so83 (soundAll_nil)
noncomputable def cx58 (l : List Msg) (m : Msg) : Cx := ⟨tt, D58, Tryz.f58.ntmps, [0, 1, 4, 5, 9, 16], [(2, ⟨[(0, none), (1, none), (5, none)], []⟩)], [], iv58 l m, [], noM, []⟩
theorem bd58 (l : List Msg) (m : Msg) (hpre : pr58 l m) : bodyP (cx58 l m) Tryz.f58 0 [encL (encMsg 1) 1 (l), encPMsg 1 (m)] (fun rr => VLe rr (rs58 l m)) := by
  have key :
      ((∃ x : Nat, ((SLe
   (AS.mk
   [(0, encL (encMsg 1) 1 l), (1, encPMsg 1 m),
   (5, V.int IntKind.i64 (0 : Int))]
   [])
   (AS.mk
   [(0, encL (encMsg 1) 1 l), (1, encPMsg 1 m),
   (5, V.int IntKind.i64 (↑x : Int))]
   [])) ∧
   ((x ≤ List.length l) ∧
   (∀ j : Nat,
   ((j < x) →
   (decide (List.getD l j default = m) = false)))))) ∧
   (∀ x : Nat,
   (((x ≤ List.length l) ∧
   (∀ j : Nat,
   ((j < x) →
   (decide (List.getD l j default = m) = false)))) →
   (((decide ((↑x : Int) < (↑(List.length l) : Int)) = true) →
   ((((0 : Int) ≤ (↑x : Int)) ∧
   ((↑x : Int) < (↑(List.length l) : Int))) ∧
   (((VLe (encPMsg 1 (List.getD l (Int.toNat (↑x : Int)) default))
   (encPMsg 1 (decPMsg (encPMsg 1 (List.getD l (Int.toNat (↑x : Int)) default))))) ∧
   ((VLe (encPMsg 1 m) (encPMsg 1 (decPMsg (encPMsg 1 m)))) ∧
   (pr83 (decPMsg (encPMsg 1 (List.getD l (Int.toNat (↑x : Int)) default))) (decPMsg (encPMsg 1 m))))) ∧
   (((decide (decPMsg (encPMsg 1 (List.getD l (Int.toNat (↑x : Int)) default)) = decPMsg (encPMsg 1 m)) = true) →
   (VLe (V.int IntKind.i64 (↑x : Int)) (V.int IntKind.i64 (msgAt l m)))) ∧
   ((decide (decPMsg (encPMsg 1 (List.getD l (Int.toNat (↑x : Int)) default)) = decPMsg (encPMsg 1 m)) =
   false) →
   ((inK IntKind.i64 ((↑x : Int) + (1 : Int))) ∧
   (∃ y : Nat, ((SLe
   (AS.mk
   [(0, encL (encMsg 1) 1 l), (1, encPMsg 1 m),
   (5, V.int IntKind.i64 ((↑x : Int) + (1 : Int)))]
   [])
   (AS.mk
   [(0, encL (encMsg 1) 1 l), (1, encPMsg 1 m),
   (5, V.int IntKind.i64 (↑y : Int))]
   [])) ∧
   (((y ≤ List.length l) ∧
   (∀ j : Nat,
   ((j < y) →
   (decide (List.getD l j default = m) = false)))) ∧
   (List.length l - y < List.length l - x)))))))))) ∧
   ((decide ((↑x : Int) < (↑(List.length l) : Int)) = false) →
   (VLe (V.int IntKind.i64 (-1 : Int)) (V.int IntKind.i64 (msgAt l m)))))))) := by
    have hlen := hpre.1
    unfold maxLen at hlen
    refine ⟨⟨0, SLe.refl _, by omega, fun j hj => absurd hj (Nat.not_lt_zero j)⟩, ?_⟩
    rintro i ⟨hi, hj⟩
    refine ⟨fun h => ?_, fun h => ?_⟩
    · have hlt : i < l.length := by simpa using h
      simp only [Int.toNat_natCast, dec_encPMsg]
      refine ⟨⟨by omega, by omega⟩, ⟨VLe.refl _, VLe.refl _, bdL_get hpre hlt⟩, fun h2 => vle_int (idxF_some hlt hj h2).symm, fun h2 => ⟨inK64 (by omega), i + 1, SLe.refl _, ⟨by omega, fun j h3 => ?_⟩, by omega⟩⟩
      rcases Nat.lt_or_ge j i with h4 | h4
      · exact hj j h4
      · have : j = i := by omega
        subst this
        exact h2
    · have hge : i = l.length := by simp at h; omega
      exact vle_int (idxF_none fun j h3 => hj j (by omega)).symm
  exact Eq.mp (by kernel_rfl) key
theorem so58 : Sound Tryz.prog 58 sp58 := by
  refine sound_of_body hmix (pol := 0) Tryz.func58 rfl (by kernel_rfl) fun args bin ob r bout hDe hob => ?_
  unfold sp58 at hDe
  split at hDe
  · rename_i a0 a1
    cases hDe
    exact ⟨rfl, rfl, Nat.le_of_ble_eq_true (by kernel_rfl), cx58 ((decL decMsg) a0) (decPMsg a1), Eq.mp (by kernel_rfl) htt, Eq.mp (by kernel_rfl) da58, Eq.mp (by kernel_rfl) (noM_sound (P := Tryz.prog)), by kernel_rfl, [encL (encMsg 1) 1 (((decL decMsg) a0)), encPMsg 1 ((decPMsg a1))], args_of_vles (⟨hob.1, hob.2.1, trivial⟩), Eq.mp (by kernel_rfl) (bd58 ((decL decMsg) a0) (decPMsg a1) (hob.2.2))⟩
  · cases hDe

/-! ### spec.l8Refs -/
def pr57 (m : Msg) (n : Int) : Prop := m.bd
noncomputable def rs57 (m : Msg) (n : Int) : V := .bool (decide (refsBelow m n))
noncomputable def sp57 : FSpec := fun args bin => match args, bin with
  | [a0, .int .i64 a1], [] => some (VLe a0 (encPMsg 1 ((decPMsg a0))) ∧ pr57 (decPMsg a0) a1, rs57 (decPMsg a0) a1, [])
  | _, _ => none
noncomputable def in57_2 (m : Msg) (n : Int) : LoopInv :=
  ⟨Nat, fun i => ⟨[(0, encPMsg 1 m), (1, .int .i64 n), (5, .int .i64 i)], []⟩, fun i => i ≤ m.refs.length ∧ ∀ j, j < i → m.refs.getD j default < n, fun i => m.refs.length - i⟩
noncomputable def iv57 (m : Msg) (n : Int) : Nat → Option LoopInv := fun rg_ => match rg_ with
  | 2 => some (in57_2 m n)
  | _ => none
noncomputable def D57 : Nat → Option (Bool × FSpec) := lk []
theorem da57 : SoundAll Tryz.prog D57 := soundAll_nil
noncomputable def cx57 (m : Msg) (n : Int) : Cx := ⟨tt, D57, Tryz.f57.ntmps, [0, 1, 4, 5, 12, 23], [(2, ⟨[(0, none), (1, none), (5, none)], []⟩)], [], iv57 m n, [], noM, []⟩
theorem bd57 (m : Msg) (n : Int) (hpre : pr57 m n) : bodyP (cx57 m n) Tryz.f57 0 [encPMsg 1 (m), .int .i64 (n)] (fun rr => VLe rr (rs57 m n)) := by
  have key :
      ((∃ x : Nat, ((SLe
   (AS.mk [(0, encPMsg 1 m), (1, V.int IntKind.i64 n), (5, V.int IntKind.i64 (0 : Int))]
   [])
   (AS.mk [(0, encPMsg 1 m), (1, V.int IntKind.i64 n), (5, V.int IntKind.i64 (↑x : Int))]
   [])) ∧
   ((x ≤ List.length (Msg.refs m)) ∧
   (∀ j : Nat,
   ((j < x) →
   (List.getD (Msg.refs m) j default < n)))))) ∧
   (∀ x : Nat,
   (((x ≤ List.length (Msg.refs m)) ∧
   (∀ j : Nat,
   ((j < x) →
   (List.getD (Msg.refs m) j default < n)))) →
   (((decide ((↑x : Int) < (↑(List.length (Msg.refs m)) : Int)) = true) →
   ((((0 : Int) ≤ (↑x : Int)) ∧
   ((↑x : Int) < (↑(List.length (Msg.refs m)) : Int))) ∧
   (((decide (List.getD (Msg.refs m) (Int.toNat (↑x : Int)) default ≥ n) = true) →
   (VLe (V.bool false) (V.bool (decide (refsBelow m n))))) ∧
   ((decide (List.getD (Msg.refs m) (Int.toNat (↑x : Int)) default ≥ n) = false) →
   ((inK IntKind.i64 ((↑x : Int) + (1 : Int))) ∧
   (∃ y : Nat, ((SLe
   (AS.mk
   [(0, encPMsg 1 m), (1, V.int IntKind.i64 n),
   (5, V.int IntKind.i64 ((↑x : Int) + (1 : Int)))]
   [])
   (AS.mk [(0, encPMsg 1 m), (1, V.int IntKind.i64 n), (5, V.int IntKind.i64 (↑y : Int))]
   [])) ∧
   (((y ≤ List.length (Msg.refs m)) ∧
   (∀ j : Nat,
   ((j < y) →
   (List.getD (Msg.refs m) j default < n)))) ∧
   (List.length (Msg.refs m) - y < List.length (Msg.refs m) - x))))))))) ∧
   ((decide ((↑x : Int) < (↑(List.length (Msg.refs m)) : Int)) = false) →
   (VLe (V.bool true) (V.bool (decide (refsBelow m n))))))))) := by
    have hlen := hpre.2
    unfold maxLen at hlen
    refine ⟨⟨0, SLe.refl _, by omega, fun j hj => absurd hj (Nat.not_lt_zero j)⟩, ?_⟩
    rintro i ⟨hi, hj⟩
    refine ⟨fun h => ?_, fun h => ?_⟩
    · have hlt : i < m.refs.length := by simpa using h
      have hin : m.refs.getD i default ∈ m.refs := by simp [hlt]
      simp only [Int.toNat_natCast]
      refine ⟨⟨by omega, by omega⟩, fun h2 => ?_, fun h2 => ⟨inK64 (by omega), i + 1, SLe.refl _, ⟨by omega, fun j h3 => ?_⟩, by omega⟩⟩
      · have h3 := of_decide_eq_true h2
        have : ¬ refsBelow m n := fun hh => by
          have := hh _ hin
          omega
        exact vle_bool (by simp [this])
      · rcases Nat.lt_or_ge j i with h4 | h4
        · exact hj j h4
        · have : j = i := by omega
          subst this
          have h3 := of_decide_eq_false h2
          omega
    · have hge : i = m.refs.length := by simp at h; omega
      have : refsBelow m n := fun r hr => by
        obtain ⟨k, hk, rfl⟩ := List.getElem_of_mem hr
        have := hj k (by omega)
        simpa [hk] using this
      exact vle_bool (by simp [this])
  exact Eq.mp (by kernel_rfl) key
theorem so57 : Sound Tryz.prog 57 sp57 := by
  refine sound_of_body hmix (pol := 0) Tryz.func57 rfl (by kernel_rfl) fun args bin ob r bout hDe hob => ?_
  unfold sp57 at hDe
  split at hDe
  · rename_i a0 a1
    cases hDe
    exact ⟨rfl, rfl, Nat.le_of_ble_eq_true (by kernel_rfl), cx57 (decPMsg a0) a1, Eq.mp (by kernel_rfl) htt, Eq.mp (by kernel_rfl) da57, Eq.mp (by kernel_rfl) (noM_sound (P := Tryz.prog)), by kernel_rfl, [encPMsg 1 ((decPMsg a0)), .int .i64 (a1)], args_of_vles (⟨hob.1, VLe.refl _, trivial⟩), Eq.mp (by kernel_rfl) (bd57 (decPMsg a0) a1 (hob.2))⟩
  · cases hDe

theorem firstFault_step {e : Nat → Int} {i n : Nat} (h : e i = 0) : firstFault e i (n + 1) = firstFault e (i + 1) n := by simp [firstFault, h]
theorem firstFault_stop {e : Nat → Int} {i n : Nat} (h : e i ≠ 0) : firstFault e i (n + 1) = e i := by simp [firstFault, h]
theorem firstFault_from {e : Nat → Int} {i n : Nat} (hi : i < n) : firstFault e i (n - i) = if e i = 0 then firstFault e (i + 1) (n - (i + 1)) else e i := by
  have : n - i = (n - (i + 1)) + 1 := by omega
  rw [this]
  by_cases h : e i = 0
  · rw [firstFault_step h, if_pos h]
  · rw [firstFault_stop h, if_neg h]
theorem entry_code {f : Int} {l : List Msg} {i : Nat} (h : msgFault f (l.getD i default) ≠ 0) : entryFault f l i = msgFault f (l.getD i default) := by
  unfold entryFault; rw [if_pos h]
theorem entry_refs {f : Int} {l : List Msg} {i : Nat} (h : msgFault f (l.getD i default) = 0) (h2 : ¬ refsBelow (l.getD i default) i) : entryFault f l i = 4 := by
  unfold entryFault; rw [if_neg (not_not_intro h), if_pos h2]
theorem entry_taken {f : Int} {l : List Msg} {i : Nat} (h : msgFault f (l.getD i default) = 0) (h2 : refsBelow (l.getD i default) i) (h3 : l.getD i default ∈ l.take i) : entryFault f l i = 6 := by
  unfold entryFault; rw [if_neg (not_not_intro h), if_neg (not_not_intro h2), if_pos h3]
theorem entry_ok {f : Int} {l : List Msg} {i : Nat} (h : msgFault f (l.getD i default) = 0) (h2 : refsBelow (l.getD i default) i) (h3 : l.getD i default ∉ l.take i) : entryFault f l i = 0 := by
  unfold entryFault; rw [if_neg (not_not_intro h), if_neg (not_not_intro h2), if_neg h3]
/-- The first place of a message is its own, or it stands before. -/
theorem msgAt_own {l : List Msg} {i : Nat} (hi : i < l.length) : msgAt l (l.getD i default) = i ↔ l.getD i default ∉ l.take i := by
  constructor
  · intro h hm
    obtain ⟨k, hk, he⟩ := List.getElem_of_mem hm
    have hki : k < i := by simp at hk; omega
    have hkl : k < l.length := by omega
    unfold msgAt idxF at h
    cases hf : l.findIdx? (fun x => decide (x = l.getD i default)) with
    | none => rw [hf] at h; simp at h
    | some q =>
      rw [hf] at h
      have hq : q = i := by simp at h; omega
      subst hq
      obtain ⟨_, _, hno⟩ := List.findIdx?_eq_some_iff_getElem.1 hf
      have := hno k hki
      simp at he
      simp [he] at this
  · intro h
    unfold msgAt
    refine idxF_some hi (fun j hj => ?_) (by simp)
    have hjl : j < l.length := by omega
    have : l.getD j default ≠ l.getD i default := fun e => h (by
      rw [← e]
      have : l.getD j default = (l.take i)[j]'(by simp; omega) := by simp [hjl]
      rw [this]
      exact List.getElem_mem _)
    simpa using this

/-! ### spec.l8Ledger -/
def pr33 (f : Int) (l : List Msg) : Prop := okF f ∧ bdL l
noncomputable def rs33 (f : Int) (l : List Msg) : V := .int .i64 (ledgerFault f l)
noncomputable def sp33 : FSpec := fun args bin => match args, bin with
  | [.int .i64 a0, a1], [] => some (VLe a1 (encL (encMsg 1) 1 (((decL decMsg) a1))) ∧ pr33 a0 ((decL decMsg) a1), rs33 a0 ((decL decMsg) a1), [])
  | _, _ => none
noncomputable def in33_4 (f : Int) (l : List Msg) : LoopInv :=
  ⟨Nat, fun i => ⟨[(0, .int .i64 f), (1, encL (encMsg 1) 1 l), (5, .int .i64 i)], []⟩, fun i => i ≤ l.length ∧ firstFault (entryFault f l) 0 l.length = firstFault (entryFault f l) i (l.length - i), fun i => l.length - i⟩
noncomputable def iv33 (f : Int) (l : List Msg) : Nat → Option LoopInv := fun rg_ => match rg_ with
  | 4 => some (in33_4 f l)
  | _ => none
noncomputable def D33 : Nat → Option (Bool × FSpec) := lk [(56, (false, sp56)), (57, (false, sp57)), (58, (false, sp58))]
theorem da33 : SoundAll Tryz.prog D33 := soundAll_cons so56 (soundAll_cons so57 (soundAll_cons so58 (soundAll_nil)))
noncomputable def cx33 (f : Int) (l : List Msg) : Cx := ⟨tt, D33, Tryz.f33.ntmps, [0, 1, 4, 5, 6, 9, 13, 22, 29, 36], [(4, ⟨[(0, none), (1, none), (5, none)], []⟩)], [], iv33 f l, [], noM, []⟩
theorem bd33 (f : Int) (l : List Msg) (hpre : pr33 f l) : bodyP (cx33 f l) Tryz.f33 0 [.int .i64 (f), encL (encMsg 1) 1 (l)] (fun rr => VLe rr (rs33 f l)) := by
  have key :
      (((decide ((↑(List.length l) : Int) > (240 : Int)) = true) →
   (VLe (V.int IntKind.i64 (2 : Int)) (V.int IntKind.i64 (ledgerFault f l)))) ∧
   ((decide ((↑(List.length l) : Int) > (240 : Int)) = false) →
   ((∃ x : Nat, ((SLe
   (AS.mk
   [(0, V.int IntKind.i64 f), (1, encL (encMsg 1) 1 l),
   (5, V.int IntKind.i64 (0 : Int))]
   [])
   (AS.mk
   [(0, V.int IntKind.i64 f), (1, encL (encMsg 1) 1 l),
   (5, V.int IntKind.i64 (↑x : Int))]
   [])) ∧
   ((x ≤ List.length l) ∧
   (firstFault (entryFault f l) 0 (List.length l) = firstFault (entryFault f l) x (List.length l - x))))) ∧
   (∀ x : Nat,
   (((x ≤ List.length l) ∧
   (firstFault (entryFault f l) 0 (List.length l) = firstFault (entryFault f l) x (List.length l - x))) →
   (((decide ((↑x : Int) < (↑(List.length l) : Int)) = true) →
   ((((0 : Int) ≤ (↑x : Int)) ∧
   ((↑x : Int) < (↑(List.length l) : Int))) ∧
   (((VLe (encPMsg 1 (List.getD l (Int.toNat (↑x : Int)) default))
   (encPMsg 1 (decPMsg (encPMsg 1 (List.getD l (Int.toNat (↑x : Int)) default))))) ∧
   (pr56 f (decPMsg (encPMsg 1 (List.getD l (Int.toNat (↑x : Int)) default))))) ∧
   ((((msgFault f (decPMsg (encPMsg 1 (List.getD l (Int.toNat (↑x : Int)) default))) != (0 : Int)) = true) →
   (VLe (V.int IntKind.i64 (msgFault f (decPMsg (encPMsg 1 (List.getD l (Int.toNat (↑x : Int)) default)))))
   (V.int IntKind.i64 (ledgerFault f l)))) ∧
   (((msgFault f (decPMsg (encPMsg 1 (List.getD l (Int.toNat (↑x : Int)) default))) != (0 : Int)) = false) →
   ((((0 : Int) ≤ (↑x : Int)) ∧
   ((↑x : Int) < (↑(List.length l) : Int))) ∧
   (((VLe (encPMsg 1 (List.getD l (Int.toNat (↑x : Int)) default))
   (encPMsg 1 (decPMsg (encPMsg 1 (List.getD l (Int.toNat (↑x : Int)) default))))) ∧
   (pr57 (decPMsg (encPMsg 1 (List.getD l (Int.toNat (↑x : Int)) default))) (↑x : Int))) ∧
   ((((!decide (refsBelow (decPMsg (encPMsg 1 (List.getD l (Int.toNat (↑x : Int)) default))) (↑x : Int))) = true) →
   (VLe (V.int IntKind.i64 (4 : Int)) (V.int IntKind.i64 (ledgerFault f l)))) ∧
   (((!decide (refsBelow (decPMsg (encPMsg 1 (List.getD l (Int.toNat (↑x : Int)) default))) (↑x : Int))) = false) →
   ((((0 : Int) ≤ (↑x : Int)) ∧
   ((↑x : Int) < (↑(List.length l) : Int))) ∧
   (((VLe (encL (encMsg 1) 1 l)
   (encL (encMsg 1) 1 (decL decMsg (encL (encMsg 1) 1 l)))) ∧
   ((VLe (encPMsg 1 (List.getD l (Int.toNat (↑x : Int)) default))
   (encPMsg 1 (decPMsg (encPMsg 1 (List.getD l (Int.toNat (↑x : Int)) default))))) ∧
   (pr58 (decL decMsg (encL (encMsg 1) 1 l))
   (decPMsg (encPMsg 1 (List.getD l (Int.toNat (↑x : Int)) default)))))) ∧
   ((((msgAt (decL decMsg (encL (encMsg 1) 1 l))
   (decPMsg (encPMsg 1 (List.getD l (Int.toNat (↑x : Int)) default))) !=
   (↑x : Int)) =
   true) →
   (VLe (V.int IntKind.i64 (6 : Int)) (V.int IntKind.i64 (ledgerFault f l)))) ∧
   (((msgAt (decL decMsg (encL (encMsg 1) 1 l))
   (decPMsg (encPMsg 1 (List.getD l (Int.toNat (↑x : Int)) default))) !=
   (↑x : Int)) =
   false) →
   ((inK IntKind.i64 ((↑x : Int) + (1 : Int))) ∧
   (∃ y : Nat, ((SLe
   (AS.mk
   [(0, V.int IntKind.i64 f), (1, encL (encMsg 1) 1 l),
   (5, V.int IntKind.i64 ((↑x : Int) + (1 : Int)))]
   [])
   (AS.mk
   [(0, V.int IntKind.i64 f), (1, encL (encMsg 1) 1 l),
   (5, V.int IntKind.i64 (↑y : Int))]
   [])) ∧
   (((y ≤ List.length l) ∧
   (firstFault (entryFault f l) 0 (List.length l) = firstFault (entryFault f l) y (List.length l - y))) ∧
   (List.length l - y < List.length l - x)))))))))))))))))) ∧
   ((decide ((↑x : Int) < (↑(List.length l) : Int)) = false) →
   (VLe (V.int IntKind.i64 (0 : Int)) (V.int IntKind.i64 (ledgerFault f l)))))))))) := by
    obtain ⟨hf, hl⟩ := hpre
    have hlen := hl.1
    unfold maxLen at hlen
    refine ⟨fun h => ?_, fun h => ?_⟩
    · have h240 : 240 < l.length := by simp at h; omega
      refine vle_int ?_
      unfold ledgerFault
      rw [if_neg (not_not_intro hf), if_pos h240]
    · have h240 : ¬ 240 < l.length := by simp at h; omega
      have e : ledgerFault f l = firstFault (entryFault f l) 0 l.length := by
        unfold ledgerFault
        rw [if_neg (not_not_intro hf), if_neg h240]
      refine ⟨⟨0, SLe.refl _, by omega, rfl⟩, ?_⟩
      rintro i ⟨hi, hj⟩
      refine ⟨fun h => ?_, fun h => ?_⟩
      · have hlt : i < l.length := by simpa using h
        have hb := bdL_get hl hlt
        have hs := firstFault_from (e := entryFault f l) hlt
        simp only [Int.toNat_natCast, dec_encPMsg, decL_Msg]
        refine ⟨⟨by omega, by omega⟩, ⟨VLe.refl _, hf, hb⟩, fun h2 => ?_, fun h2 => ⟨⟨by omega, by omega⟩, ⟨VLe.refl _, hb⟩, fun h3 => ?_, fun h3 => ⟨⟨by omega, by omega⟩, ⟨VLe.refl _, VLe.refl _, hl⟩, fun h4 => ?_, fun h4 => ⟨inK64 (by omega), i + 1, SLe.refl _, ⟨by omega, ?_⟩, by omega⟩⟩⟩⟩
        · have hc : msgFault f (l.getD i default) ≠ 0 := by simpa using h2
          refine vle_int ?_
          rw [e, hj, hs, entry_code hc, if_neg hc]
        · have hc : msgFault f (l.getD i default) = 0 := by simpa using h2
          have hr : ¬ refsBelow (l.getD i default) i := by simpa using h3
          refine vle_int ?_
          rw [e, hj, hs, entry_refs hc hr, if_neg (by decide)]
        · have hc : msgFault f (l.getD i default) = 0 := by simpa using h2
          have hr : refsBelow (l.getD i default) i := by simpa using h3
          have ht : l.getD i default ∈ l.take i := Classical.not_not.1 fun hn => by
            have := (msgAt_own hlt).2 hn
            rw [this] at h4
            simp at h4
          refine vle_int ?_
          rw [e, hj, hs, entry_taken hc hr ht, if_neg (by decide)]
        · have hc : msgFault f (l.getD i default) = 0 := by simpa using h2
          have hr : refsBelow (l.getD i default) i := by simpa using h3
          have ht : l.getD i default ∉ l.take i := (msgAt_own hlt).1 (by simpa using h4)
          rw [hj, hs, entry_ok hc hr ht, if_pos rfl]
      · have hge : i = l.length := by simp at h; omega
        refine vle_int ?_
        rw [e, hj, hge, Nat.sub_self]
        rfl
  exact Eq.mp (by kernel_rfl) key
theorem so33 : Sound Tryz.prog 33 sp33 := by
  refine sound_of_body hmix (pol := 0) Tryz.func33 rfl (by kernel_rfl) fun args bin ob r bout hDe hob => ?_
  unfold sp33 at hDe
  split at hDe
  · rename_i a0 a1
    cases hDe
    exact ⟨rfl, rfl, Nat.le_of_ble_eq_true (by kernel_rfl), cx33 a0 ((decL decMsg) a1), Eq.mp (by kernel_rfl) htt, Eq.mp (by kernel_rfl) da33, Eq.mp (by kernel_rfl) (noM_sound (P := Tryz.prog)), by kernel_rfl, [.int .i64 (a0), encL (encMsg 1) 1 (((decL decMsg) a1))], args_of_vles (⟨VLe.refl _, hob.1, trivial⟩), Eq.mp (by kernel_rfl) (bd33 a0 ((decL decMsg) a1) (hob.2))⟩
  · cases hDe

/-! ### spec.l8Asked -/
def pr19 (f : Int) (l : List Msg) : Prop := bdL l
noncomputable def rs19 (f : Int) (l : List Msg) : V := .int .i64 (ledgerFault f l)
noncomputable def sp19 : FSpec := fun args bin => match args, bin with
  | [.int .i64 a0, a1], [] => some (VLe a1 (encL (encMsg 1) 1 (((decL decMsg) a1))) ∧ pr19 a0 ((decL decMsg) a1), rs19 a0 ((decL decMsg) a1), [])
  | _, _ => none
noncomputable def D19 : Nat → Option (Bool × FSpec) := lk [(32, (false, sp32)), (33, (false, sp33))]
theorem da19 : SoundAll Tryz.prog D19 := soundAll_cons so32 (soundAll_cons so33 (soundAll_nil))
noncomputable def cx19 (f : Int) (l : List Msg) : Cx := ⟨tt, D19, Tryz.f19.ntmps, [0, 1, 4, 7], [], [], fun _ => none, [], noM, []⟩
theorem bd19 (f : Int) (l : List Msg) (hpre : pr19 f l) : bodyP (cx19 f l) Tryz.f19 0 [.int .i64 (f), encL (encMsg 1) 1 (l)] (fun rr => VLe rr (rs19 f l)) := by
  have key :
      ((pr32 f) ∧
   ((((!decide (okF f)) = true) →
   (VLe (V.int IntKind.i64 (3 : Int)) (V.int IntKind.i64 (ledgerFault f l)))) ∧
   (((!decide (okF f)) = false) →
   (((VLe (encL (encMsg 1) 1 l)
   (encL (encMsg 1) 1 (decL decMsg (encL (encMsg 1) 1 l)))) ∧
   (pr33 f (decL decMsg (encL (encMsg 1) 1 l)))) ∧
   (VLe (V.int IntKind.i64 (ledgerFault f (decL decMsg (encL (encMsg 1) 1 l))))
   (V.int IntKind.i64 (ledgerFault f l))))))) := by
    simp only [decL_Msg]
    refine ⟨trivial, fun h => ?_, fun h => ?_⟩
    · have hf : ¬ okF f := by simpa using h
      refine vle_int ?_
      unfold ledgerFault
      rw [if_pos hf]
    · have hf : okF f := by simpa using h
      exact ⟨⟨VLe.refl _, hf, hpre⟩, VLe.refl _⟩
  exact Eq.mp (by kernel_rfl) key
theorem so19 : Sound Tryz.prog 19 sp19 := by
  refine sound_of_body hmix (pol := 0) Tryz.func19 rfl (by kernel_rfl) fun args bin ob r bout hDe hob => ?_
  unfold sp19 at hDe
  split at hDe
  · rename_i a0 a1
    cases hDe
    exact ⟨rfl, rfl, Nat.le_of_ble_eq_true (by kernel_rfl), cx19 a0 ((decL decMsg) a1), Eq.mp (by kernel_rfl) htt, Eq.mp (by kernel_rfl) da19, Eq.mp (by kernel_rfl) (noM_sound (P := Tryz.prog)), by kernel_rfl, [.int .i64 (a0), encL (encMsg 1) 1 (((decL decMsg) a1))], args_of_vles (⟨VLe.refl _, hob.1, trivial⟩), Eq.mp (by kernel_rfl) (bd19 a0 ((decL decMsg) a1) (hob.2))⟩
  · cases hDe

/-! ### impl.LedgerFault -/
def pr25 (f : Int) (l : List Msg) : Prop := bdL l
noncomputable def rs25 (f : Int) (l : List Msg) : V := .int .i64 (ledgerFault f l)
noncomputable def sp25 : FSpec := fun args bin => match args, bin with
  | [.int .i64 a0, a1], [] => some (VLe a1 (encL (encMsg 1) 1 (((decL decMsg) a1))) ∧ pr25 a0 ((decL decMsg) a1), rs25 a0 ((decL decMsg) a1), [])
  | _, _ => none
noncomputable def in25_6 (f : Int) (l : List Msg) : LoopInv :=
  ⟨Nat, fun i => ⟨[(0, .int .i64 f), (1, encL (encMsg 1) 1 l), (16, encL (encMsg 1) 1 l), (17, .int .i64 l.length), (18, .int .i64 i)], []⟩, fun i => i ≤ l.length ∧ firstFault (entryFault f l) 0 l.length = firstFault (entryFault f l) i (l.length - i), fun i => l.length - i⟩
noncomputable def iv25 (f : Int) (l : List Msg) : Nat → Option LoopInv := fun rg_ => match rg_ with
  | 6 => some (in25_6 f l)
  | _ => none
noncomputable def D25 : Nat → Option (Bool × FSpec) := lk [(42, (false, sp42)), (43, (false, sp43)), (44, (false, sp44)), (45, (false, sp45))]
theorem da25 : SoundAll Tryz.prog D25 := soundAll_cons so42 (soundAll_cons so43 (soundAll_cons so44 (soundAll_cons so45 (soundAll_nil))))
noncomputable def cx25 (f : Int) (l : List Msg) : Cx := ⟨tt, D25, Tryz.f25.ntmps, [0, 1, 4, 5, 6, 7, 8, 12, 16, 17, 18, 19, 27, 29, 34], [(6, ⟨[(0, none), (1, none), (16, none), (17, none), (18, none)], []⟩)], [], iv25 f l, [], noM, []⟩
theorem bd25 (f : Int) (l : List Msg) (hpre : pr25 f l) : bodyP (cx25 f l) Tryz.f25 0 [.int .i64 (f), encL (encMsg 1) 1 (l)] (fun rr => VLe rr (rs25 f l)) := by
  have key :
      ((pr42 f) ∧
   ((((!decide (okF f)) = true) →
   (VLe (V.int IntKind.i64 (3 : Int)) (V.int IntKind.i64 (ledgerFault f l)))) ∧
   (((!decide (okF f)) = false) →
   (((decide ((↑(List.length l) : Int) > (240 : Int)) = true) →
   (VLe (V.int IntKind.i64 (2 : Int)) (V.int IntKind.i64 (ledgerFault f l)))) ∧
   ((decide ((↑(List.length l) : Int) > (240 : Int)) = false) →
   ((∃ x : Nat, ((SLe
   (AS.mk
   [(0, V.int IntKind.i64 f), (1, encL (encMsg 1) 1 l),
   (16, encL (encMsg 1) 1 l), (17, V.int IntKind.i64 (↑(List.length l) : Int)),
   (18, V.int IntKind.i64 (0 : Int))]
   [])
   (AS.mk
   [(0, V.int IntKind.i64 f), (1, encL (encMsg 1) 1 l),
   (16, encL (encMsg 1) 1 l), (17, V.int IntKind.i64 (↑(List.length l) : Int)),
   (18, V.int IntKind.i64 (↑x : Int))]
   [])) ∧
   ((x ≤ List.length l) ∧
   (firstFault (entryFault f l) 0 (List.length l) = firstFault (entryFault f l) x (List.length l - x))))) ∧
   (∀ x : Nat,
   (((x ≤ List.length l) ∧
   (firstFault (entryFault f l) 0 (List.length l) = firstFault (entryFault f l) x (List.length l - x))) →
   (((decide ((↑x : Int) < (↑(List.length l) : Int)) = true) →
   ((((0 : Int) ≤ (↑x : Int)) ∧
   ((↑x : Int) < (↑(List.length l) : Int))) ∧
   (((VLe (encMsg 1 (List.getD l (Int.toNat (↑x : Int)) default))
   (encMsg 1 (decMsg (encMsg 1 (List.getD l (Int.toNat (↑x : Int)) default))))) ∧
   (pr43 f (decMsg (encMsg 1 (List.getD l (Int.toNat (↑x : Int)) default))))) ∧
   ((((msgFault f (decMsg (encMsg 1 (List.getD l (Int.toNat (↑x : Int)) default))) != (0 : Int)) = true) →
   (VLe (V.int IntKind.i64 (msgFault f (decMsg (encMsg 1 (List.getD l (Int.toNat (↑x : Int)) default)))))
   (V.int IntKind.i64 (ledgerFault f l)))) ∧
   (((msgFault f (decMsg (encMsg 1 (List.getD l (Int.toNat (↑x : Int)) default))) != (0 : Int)) = false) →
   (((VLe (encMsg 1 (List.getD l (Int.toNat (↑x : Int)) default))
   (encMsg 1 (decMsg (encMsg 1 (List.getD l (Int.toNat (↑x : Int)) default))))) ∧
   (pr44 (decMsg (encMsg 1 (List.getD l (Int.toNat (↑x : Int)) default))) (↑x : Int))) ∧
   ((((!decide (refsBelow (decMsg (encMsg 1 (List.getD l (Int.toNat (↑x : Int)) default))) (↑x : Int))) = true) →
   (VLe (V.int IntKind.i64 (4 : Int)) (V.int IntKind.i64 (ledgerFault f l)))) ∧
   (((!decide (refsBelow (decMsg (encMsg 1 (List.getD l (Int.toNat (↑x : Int)) default))) (↑x : Int))) = false) →
   ((((0 : Int) ≤ Option.getD none (0 : Int)) ∧
   ((Option.getD none (0 : Int) ≤ Option.getD (some (↑x : Int)) (↑(List.length l) : Int)) ∧
   (Option.getD (some (↑x : Int)) (↑(List.length l) : Int) ≤ (↑(List.length l) : Int)))) ∧
   ((sizedL 7 (List.length l) (gL (encMsg 1) l)) ∧
   (((VLe
   (V.sl (Int.toNat (Option.getD (some (↑x : Int)) (↑(List.length l) : Int)) - 0)
   (match (motive := Option Int → Nat → V) none with
   | none => gL (encMsg 1) l
   | some val => dropg (gL (encMsg 1) l) 0)
   1)
   (encL (encMsg 1) 1
   (decL decMsg
   (V.sl (Int.toNat (Option.getD (some (↑x : Int)) (↑(List.length l) : Int)) - 0)
   (match (motive := Option Int → Nat → V) none with
   | none => gL (encMsg 1) l
   | some val => dropg (gL (encMsg 1) l) 0)
   1)))) ∧
   ((VLe (encMsg 1 (List.getD l (Int.toNat (↑x : Int)) default))
   (encMsg 1 (decMsg (encMsg 1 (List.getD l (Int.toNat (↑x : Int)) default))))) ∧
   (pr45
   (decL decMsg
   (V.sl (Int.toNat (Option.getD (some (↑x : Int)) (↑(List.length l) : Int)) - 0)
   (match (motive := Option Int → Nat → V) none with
   | none => gL (encMsg 1) l
   | some val => dropg (gL (encMsg 1) l) 0)
   1))
   (decMsg (encMsg 1 (List.getD l (Int.toNat (↑x : Int)) default)))))) ∧
   (((decide
   (msgAt
   (decL decMsg
   (V.sl (Int.toNat (Option.getD (some (↑x : Int)) (↑(List.length l) : Int)) - 0)
   (match (motive := Option Int → Nat → V) none with
   | none => gL (encMsg 1) l
   | some val => dropg (gL (encMsg 1) l) 0)
   1))
   (decMsg (encMsg 1 (List.getD l (Int.toNat (↑x : Int)) default))) ≥
   (0 : Int)) =
   true) →
   (VLe (V.int IntKind.i64 (6 : Int)) (V.int IntKind.i64 (ledgerFault f l)))) ∧
   ((decide
   (msgAt
   (decL decMsg
   (V.sl (Int.toNat (Option.getD (some (↑x : Int)) (↑(List.length l) : Int)) - 0)
   (match (motive := Option Int → Nat → V) none with
   | none => gL (encMsg 1) l
   | some val => dropg (gL (encMsg 1) l) 0)
   1))
   (decMsg (encMsg 1 (List.getD l (Int.toNat (↑x : Int)) default))) ≥
   (0 : Int)) =
   false) →
   ((inK IntKind.i64 ((↑x : Int) + (1 : Int))) ∧
   (∃ y : Nat, ((SLe
   (AS.mk
   [(0, V.int IntKind.i64 f), (1, encL (encMsg 1) 1 l),
   (16, encL (encMsg 1) 1 l), (17, V.int IntKind.i64 (↑(List.length l) : Int)),
   (18, V.int IntKind.i64 ((↑x : Int) + (1 : Int)))]
   [])
   (AS.mk
   [(0, V.int IntKind.i64 f), (1, encL (encMsg 1) 1 l),
   (16, encL (encMsg 1) 1 l), (17, V.int IntKind.i64 (↑(List.length l) : Int)),
   (18, V.int IntKind.i64 (↑y : Int))]
   [])) ∧
   (((y ≤ List.length l) ∧
   (firstFault (entryFault f l) 0 (List.length l) = firstFault (entryFault f l) y (List.length l - y))) ∧
   (List.length l - y < List.length l - x)))))))))))))))))) ∧
   ((decide ((↑x : Int) < (↑(List.length l) : Int)) = false) →
   (VLe (V.int IntKind.i64 (0 : Int)) (V.int IntKind.i64 (ledgerFault f l))))))))))))) := by
    have hl := hpre
    have hlen := hl.1
    unfold maxLen at hlen
    refine ⟨trivial, fun h => ?_, fun h => ?_⟩
    · have hf : ¬ okF f := by simpa using h
      refine vle_int ?_
      unfold ledgerFault
      rw [if_pos hf]
    · have hf : okF f := by simpa using h
      clear h
      refine ⟨fun h => ?_, fun h => ?_⟩
      · have h240 : 240 < l.length := by simp at h; omega
        refine vle_int ?_
        unfold ledgerFault
        rw [if_neg (not_not_intro hf), if_pos h240]
      · have h240 : ¬ 240 < l.length := by simp at h; omega
        have e : ledgerFault f l = firstFault (entryFault f l) 0 l.length := by
          unfold ledgerFault
          rw [if_neg (not_not_intro hf), if_neg h240]
        refine ⟨⟨0, SLe.refl _, by omega, rfl⟩, ?_⟩
        rintro i ⟨hi, hj⟩
        refine ⟨fun h => ?_, fun h => ?_⟩
        · have hlt : i < l.length := by simpa using h
          have hb := bdL_get hl hlt
          have hs := firstFault_from (e := entryFault f l) hlt
          have ed : decL decMsg (.sl i (gL (encMsg 1) l) 1) = l.take i := decL_take (dec_encMsg 1) 1 l i (by omega)
          have ev : VLe (.sl i (gL (encMsg 1) l) 1) (encL (encMsg 1) 1 (l.take i)) := vle_encL_eq (by simp; omega) (fun k hk => by
            have hk' : k < i := by simp at hk; omega
            have hkl : k < l.length := by omega
            rw [gL_lt _ _ _ hkl]
            simp) (Or.inl rfl)
          simp only [Int.toNat_natCast, dec_encMsg, Option.getD_none, Option.getD_some, Int.toNat_zero, Nat.sub_zero, ed]
          refine ⟨⟨by omega, by omega⟩, ⟨VLe.refl _, hf, hb⟩, fun h2 => ?_, fun h2 => ⟨⟨VLe.refl _, hb⟩, fun h3 => ?_, fun h3 => ⟨⟨by omega, by omega, by omega⟩, fun k hk => ⟨rfl, rfl⟩, ⟨ev, VLe.refl _, bdL_take hl i⟩, fun h4 => ?_, fun h4 => ⟨inK64 (by omega), i + 1, SLe.refl _, ⟨by omega, ?_⟩, by omega⟩⟩⟩⟩
          · have hc : msgFault f (l.getD i default) ≠ 0 := by simpa using h2
            refine vle_int ?_
            rw [e, hj, hs, entry_code hc, if_neg hc]
          · have hc : msgFault f (l.getD i default) = 0 := by simpa using h2
            have hr : ¬ refsBelow (l.getD i default) i := by simpa using h3
            refine vle_int ?_
            rw [e, hj, hs, entry_refs hc hr, if_neg (by decide)]
          · have hc : msgFault f (l.getD i default) = 0 := by simpa using h2
            have hr : refsBelow (l.getD i default) i := by simpa using h3
            have ht : l.getD i default ∈ l.take i := msgAt_nonneg.1 (of_decide_eq_true h4)
            refine vle_int ?_
            rw [e, hj, hs, entry_taken hc hr ht, if_neg (by decide)]
          · have hc : msgFault f (l.getD i default) = 0 := by simpa using h2
            have hr : refsBelow (l.getD i default) i := by simpa using h3
            have ht : l.getD i default ∉ l.take i := fun hm => (of_decide_eq_false h4) (msgAt_nonneg.2 hm)
            rw [hj, hs, entry_ok hc hr ht, if_pos rfl]
        · have hge : i = l.length := by simp at h; omega
          refine vle_int ?_
          rw [e, hj, hge, Nat.sub_self]
          rfl
  exact Eq.mp (by kernel_rfl) key
theorem so25 : Sound Tryz.prog 25 sp25 := by
  refine sound_of_body hmix (pol := 0) Tryz.func25 rfl (by kernel_rfl) fun args bin ob r bout hDe hob => ?_
  unfold sp25 at hDe
  split at hDe
  · rename_i a0 a1
    cases hDe
    exact ⟨rfl, rfl, Nat.le_of_ble_eq_true (by kernel_rfl), cx25 a0 ((decL decMsg) a1), Eq.mp (by kernel_rfl) htt, Eq.mp (by kernel_rfl) da25, Eq.mp (by kernel_rfl) (noM_sound (P := Tryz.prog)), by kernel_rfl, [.int .i64 (a0), encL (encMsg 1) 1 (((decL decMsg) a1))], args_of_vles (⟨VLe.refl _, hob.1, trivial⟩), Eq.mp (by kernel_rfl) (bd25 a0 ((decL decMsg) a1) (hob.2))⟩
  · cases hDe

/-- The size of a ledger that is taken off what is left. -/
def szSum : List Msg → Int → Int
  | [], left => left
  | m :: r, left => if szMsgF m left < 0 then -1 else szSum r (szMsgF m left)
def szMsgSF (l : List Msg) (left : Int) : Int := if left - l.length < 0 then -1 else szSum l (left - l.length)
theorem szSum_le : ∀ {l : List Msg} {left : Int}, -1 ≤ left → szSum l left ≤ left
  | [], left, h => Int.le_refl _
  | m :: r, left, h => by
    unfold szSum
    split
    · exact h
    · have := @szMsgF_le m left h
      have := @szSum_le r (szMsgF m left) (by omega)
      omega
theorem szSum_bd : ∀ {l : List Msg} {left : Int}, 0 ≤ szSum l left → ∀ m ∈ l, m.certs.length ≤ left ∧ m.refs.length ≤ left
  | [], left, h, m, hm => by simp at hm
  | x :: r, left, h, m, hm => by
    unfold szSum at h
    split at h
    · omega
    · rename_i h1
      rcases List.mem_cons.1 hm with rfl | hm
      · exact szMsgF_bd (by omega)
      · have h2 := szSum_bd h m hm
        have h3 := szMsgF_eq h1
        omega
theorem szMsgSF_bd {l : List Msg} {left : Int} (h : 0 ≤ szMsgSF l left) : l.length ≤ left ∧ ∀ m ∈ l, m.certs.length ≤ left ∧ m.refs.length ≤ left := by
  unfold szMsgSF at h
  split at h
  · omega
  · rename_i h1
    refine ⟨by omega, fun m hm => ?_⟩
    have := szSum_bd h m hm
    omega
theorem szMsgSF_le {l : List Msg} {left : Int} (h : -1 ≤ left) : szMsgSF l left ≤ left := by
  unfold szMsgSF
  split
  · exact h
  · have := @szSum_le l (left - l.length) (by omega)
    omega

/-! ### laws.szMsgS -/
def pr4 (l : List Msg) (left : Int) : Prop := 0 ≤ left ∧ left ≤ most ∧ bdL l
noncomputable def rs4 (l : List Msg) (left : Int) : V := .int .i64 (szMsgSF l left)
noncomputable def sp4 : FSpec := fun args bin => match args, bin with
  | [a0, .int .i64 a1], [] => some (VLe a0 (encL (encMsg 1) 1 (((decL decMsg) a0))) ∧ pr4 ((decL decMsg) a0) a1, rs4 ((decL decMsg) a0) a1, [])
  | _, _ => none
noncomputable def in4_5 (l : List Msg) (left : Int) : LoopInv :=
  ⟨Nat × Int, fun p => ⟨[(0, encL (encMsg 1) 1 l), (1, .int .i64 p.2), (5, .int .i64 p.1)], []⟩, fun p => p.1 ≤ l.length ∧ 0 ≤ p.2 ∧ p.2 ≤ most ∧ szMsgSF l left = szSum (l.drop p.1) p.2, fun p => l.length - p.1⟩
noncomputable def iv4 (l : List Msg) (left : Int) : Nat → Option LoopInv := fun rg_ => match rg_ with
  | 5 => some (in4_5 l left)
  | _ => none
noncomputable def D4 : Nat → Option (Bool × FSpec) := lk [(10, (false, sp10))]
theorem da4 : SoundAll Tryz.prog D4 := soundAll_cons so10 (soundAll_nil)
noncomputable def cx4 (l : List Msg) (left : Int) : Cx := ⟨tt, D4, Tryz.f4.ntmps, [0, 1, 4, 5, 11, 15, 25], [(5, ⟨[(0, none), (1, none), (5, none)], []⟩)], [], iv4 l left, [], noM, []⟩
theorem bd4 (l : List Msg) (left : Int) (hpre : pr4 l left) : bodyP (cx4 l left) Tryz.f4 0 [encL (encMsg 1) 1 (l), .int .i64 (left)] (fun rr => VLe rr (rs4 l left)) := by
  have key :
      ((inK IntKind.i64 (left - (↑(List.length l) : Int))) ∧
   (((decide (left - (↑(List.length l) : Int) < (0 : Int)) = true) →
   (VLe (V.int IntKind.i64 (-1 : Int)) (V.int IntKind.i64 (szMsgSF l left)))) ∧
   ((decide (left - (↑(List.length l) : Int) < (0 : Int)) = false) →
   ((∃ x : Nat × Int, ((SLe
   (AS.mk
   [(0, encL (encMsg 1) 1 l), (1, V.int IntKind.i64 (left - (↑(List.length l) : Int))),
   (5, V.int IntKind.i64 (0 : Int))]
   [])
   (AS.mk
   [(0, encL (encMsg 1) 1 l), (1, V.int IntKind.i64 (Prod.snd x)),
   (5, V.int IntKind.i64 (↑(Prod.fst x) : Int))]
   [])) ∧
   ((Prod.fst x ≤ List.length l) ∧
   (((0 : Int) ≤ Prod.snd x) ∧
   ((Prod.snd x ≤ (↑1073741824 : Int)) ∧
   (szMsgSF l left = szSum (List.drop (Prod.fst x) l) (Prod.snd x))))))) ∧
   (∀ x : Nat × Int,
   (((Prod.fst x ≤ List.length l) ∧
   (((0 : Int) ≤ Prod.snd x) ∧
   ((Prod.snd x ≤ (↑1073741824 : Int)) ∧
   (szMsgSF l left = szSum (List.drop (Prod.fst x) l) (Prod.snd x))))) →
   (((decide ((↑(Prod.fst x) : Int) < (↑(List.length l) : Int)) = true) →
   ((((0 : Int) ≤ (↑(Prod.fst x) : Int)) ∧
   ((↑(Prod.fst x) : Int) < (↑(List.length l) : Int))) ∧
   (((VLe (encMsg 1 (List.getD l (Int.toNat (↑(Prod.fst x) : Int)) default))
   (encMsg 1 (decMsg (encMsg 1 (List.getD l (Int.toNat (↑(Prod.fst x) : Int)) default))))) ∧
   (pr10 (decMsg (encMsg 1 (List.getD l (Int.toNat (↑(Prod.fst x) : Int)) default))) (Prod.snd x))) ∧
   (((decide
   (szMsgF (decMsg (encMsg 1 (List.getD l (Int.toNat (↑(Prod.fst x) : Int)) default))) (Prod.snd x) <
   (0 : Int)) =
   true) →
   (VLe (V.int IntKind.i64 (-1 : Int)) (V.int IntKind.i64 (szMsgSF l left)))) ∧
   ((decide
   (szMsgF (decMsg (encMsg 1 (List.getD l (Int.toNat (↑(Prod.fst x) : Int)) default))) (Prod.snd x) <
   (0 : Int)) =
   false) →
   ((inK IntKind.i64 ((↑(Prod.fst x) : Int) + (1 : Int))) ∧
   (∃ y : Nat × Int, ((SLe
   (AS.mk
   [(0, encL (encMsg 1) 1 l),
   (1,
   V.int IntKind.i64
   (szMsgF (decMsg (encMsg 1 (List.getD l (Int.toNat (↑(Prod.fst x) : Int)) default))) (Prod.snd x))),
   (5, V.int IntKind.i64 ((↑(Prod.fst x) : Int) + (1 : Int)))]
   [])
   (AS.mk
   [(0, encL (encMsg 1) 1 l), (1, V.int IntKind.i64 (Prod.snd y)),
   (5, V.int IntKind.i64 (↑(Prod.fst y) : Int))]
   [])) ∧
   (((Prod.fst y ≤ List.length l) ∧
   (((0 : Int) ≤ Prod.snd y) ∧
   ((Prod.snd y ≤ (↑1073741824 : Int)) ∧
   (szMsgSF l left = szSum (List.drop (Prod.fst y) l) (Prod.snd y))))) ∧
   (List.length l - Prod.fst y < List.length l - Prod.fst x)))))))))) ∧
   ((decide ((↑(Prod.fst x) : Int) < (↑(List.length l) : Int)) = false) →
   (VLe (V.int IntKind.i64 (Prod.snd x)) (V.int IntKind.i64 (szMsgSF l left))))))))))) := by
    obtain ⟨h0, h1, hl⟩ := hpre
    have hlen := hl.1
    unfold maxLen at hlen
    have h1' : left ≤ 1073741824 := h1
    refine ⟨inK64 (by omega), fun h => ?_, fun h => ?_⟩
    · refine vle_int ?_
      have := of_decide_eq_true h
      unfold szMsgSF
      rw [if_pos this]
    · have hn := of_decide_eq_false h
      refine ⟨⟨(0, left - l.length), SLe.refl _, by simp only; omega, by simp only; omega, by show left - l.length ≤ ((2 ^ 30 : Nat) : Int); omega, ?_⟩, ?_⟩
      · simp only [List.drop_zero]
        unfold szMsgSF
        rw [if_neg hn]
      · rintro ⟨i, cur⟩ ⟨hi, hc0, hc1, hj⟩
        simp only at hi hc0 hc1 hj ⊢
        have hc1' : cur ≤ 1073741824 := hc1
        refine ⟨fun h => ?_, fun h => ?_⟩
        · have hlt : i < l.length := by simpa using h
          have hd : l.drop i = l.getD i default :: l.drop (i + 1) := by
            rw [List.drop_eq_getElem_cons hlt]
            simp [hlt]
          have hle := @szMsgF_le (l.getD i default) cur (by omega)
          rw [hd] at hj
          unfold szSum at hj
          simp only [Int.toNat_natCast, dec_encMsg]
          refine ⟨⟨by omega, by omega⟩, ⟨VLe.refl _, hc0, hc1, bdL_get hl hlt⟩, fun h2 => ?_, fun h2 => ⟨inK64 (by omega), (i + 1, szMsgF (l.getD i default) cur), SLe.refl _, ⟨by simp only; omega, ?_, ?_, ?_⟩, by simp only; omega⟩⟩
          · have := of_decide_eq_true h2
            rw [if_pos this] at hj
            exact vle_int hj.symm
          · have := of_decide_eq_false h2
            simp only; omega
          · show szMsgF (l.getD i default) cur ≤ ((2 ^ 30 : Nat) : Int)
            omega
          · have := of_decide_eq_false h2
            rw [if_neg this] at hj
            exact hj
        · have hge : i = l.length := by simp at h; omega
          refine vle_int ?_
          rw [hj, hge, List.drop_length]
          rfl
  exact Eq.mp (by kernel_rfl) key
theorem so4 : Sound Tryz.prog 4 sp4 := by
  refine sound_of_body hmix (pol := 0) Tryz.func4 rfl (by kernel_rfl) fun args bin ob r bout hDe hob => ?_
  unfold sp4 at hDe
  split at hDe
  · rename_i a0 a1
    cases hDe
    exact ⟨rfl, rfl, Nat.le_of_ble_eq_true (by kernel_rfl), cx4 ((decL decMsg) a0) a1, Eq.mp (by kernel_rfl) htt, Eq.mp (by kernel_rfl) da4, Eq.mp (by kernel_rfl) (noM_sound (P := Tryz.prog)), by kernel_rfl, [encL (encMsg 1) 1 (((decL decMsg) a0)), .int .i64 (a1)], args_of_vles (⟨hob.1, VLe.refl _, trivial⟩), Eq.mp (by kernel_rfl) (bd4 ((decL decMsg) a0) a1 (hob.2))⟩
  · cases hDe

end Go.Av
