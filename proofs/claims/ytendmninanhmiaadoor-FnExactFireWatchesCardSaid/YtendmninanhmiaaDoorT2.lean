/- What turned at a path. -/
import Derived.Test.YtendmninanhmiaaDoorT1
namespace Go.Av
open Go.Proofs
set_option maxRecDepth 100000
set_option maxHeartbeats 2000000
set_option linter.unusedVariables false
set_option linter.unusedSimpArgs false

theorem zele_Znode : ELe (.agg [.str ⟨#[]⟩, .int .i64 0, .int .i64 0, .int .i64 0, .int .i64 0]) (encZnode 1 default) := ELe.refl _
def szZnode (x : Znode) (left : Int) : Int := szLen x.path.size left
theorem szZnode_le (x : Znode) (left : Int) : szZnode x left ≤ left ∨ szZnode x left < 0 := szLen_le _ _

/-! ### laws.szZnode -/
def pr66 (x : Znode) (left : Int) : Prop := 0 ≤ left ∧ left ≤ most ∧ x.bd
noncomputable def rs66 (x : Znode) (left : Int) : V := .int .i64 (szZnode x left)
noncomputable def sp66 : FSpec := fun args bin => match args, bin with
  | [a0, .int .i64 a1], [] => some (VLe a0 (encZnode 1 ((decZnode a0))) ∧ pr66 (decZnode a0) a1, rs66 (decZnode a0) a1, [])
  | _, _ => none
noncomputable def D66 : Nat → Option (Bool × FSpec) := lk []
theorem da66 : SoundAll Tryd.prog D66 := soundAll_nil
noncomputable def cx66 (x : Znode) (left : Int) : Cx := ⟨tt, D66, Tryd.f66.ntmps, [0, 1, 2, 4, 11], [], [], fun _ => none, [], noM, []⟩
theorem bd66 (x : Znode) (left : Int) (hpre : pr66 x left) : bodyP (cx66 x left) Tryd.f66 0 [encZnode 1 (x), .int .i64 (left)] (fun rr => VLe rr (rs66 x left)) := by
  have key :
      ((inK IntKind.i64 (left - (↑(ByteArray.size (Znode.path x)) : Int))) ∧
   (((decide (left - (↑(ByteArray.size (Znode.path x)) : Int) < (0 : Int)) = true) →
   (VLe (V.int IntKind.i64 (-1 : Int)) (V.int IntKind.i64 (szZnode x left)))) ∧
   ((decide (left - (↑(ByteArray.size (Znode.path x)) : Int) < (0 : Int)) = false) →
   (VLe (V.int IntKind.i64 (left - (↑(ByteArray.size (Znode.path x)) : Int))) (V.int IntKind.i64 (szZnode x left)))))) := by
    obtain ⟨h0, hm, hb⟩ := hpre
    unfold most at hm
    unfold Znode.bd maxLen at hb
    refine ⟨inK64 (by omega), fun h => ?_, fun h => ?_⟩
    · exact vle_int (by unfold szZnode szLen; rw [if_pos (of_decide_eq_true h)])
    · exact vle_int (by unfold szZnode szLen; rw [if_neg (of_decide_eq_false h)])
  exact Eq.mp (by kernel_rfl) key
theorem so66 : Sound Tryd.prog 66 sp66 := by
  refine sound_of_body hmix (pol := 0) Tryd.func66 rfl (by kernel_rfl) fun args bin ob r bout hDe hob => ?_
  unfold sp66 at hDe
  split at hDe
  · rename_i a0 a1
    cases hDe
    exact ⟨rfl, rfl, Nat.le_of_ble_eq_true (by kernel_rfl), cx66 (decZnode a0) a1, Eq.mp (by kernel_rfl) htt, Eq.mp (by kernel_rfl) da66, Eq.mp (by kernel_rfl) (noM_sound (P := Tryd.prog)), by kernel_rfl, [encZnode 1 ((decZnode a0)), .int .i64 (a1)], args_of_vles (⟨hob.1, VLe.refl _, trivial⟩), Eq.mp (by kernel_rfl) (bd66 (decZnode a0) a1 (hob.2))⟩
  · cases hDe

/-! ### laws.szZnodeS -/
def pr29 (xs : List Znode) (left : Int) : Prop := 0 ≤ left ∧ left ≤ most ∧ xs.length ≤ maxLen ∧ ∀ x ∈ xs, x.bd
noncomputable def rs29 (xs : List Znode) (left : Int) : V := .int .i64 (szS szZnode xs left)
noncomputable def sp29 : FSpec := fun args bin => match args, bin with
  | [a0, .int .i64 a1], [] => some (VLe a0 (encL (encZnode 1) 1 (((decL decZnode) a0))) ∧ pr29 ((decL decZnode) a0) a1, rs29 ((decL decZnode) a0) a1, [])
  | _, _ => none
noncomputable def in29_5 (xs : List Znode) (left : Int) : LoopInv :=
  ⟨Nat × Int, fun p => ⟨[(0, encL (encZnode 1) 1 xs), (1, .int .i64 p.2), (5, .int .i64 p.1)], []⟩,
    fun p => p.1 ≤ xs.length ∧ 0 ≤ p.2 ∧ p.2 ≤ left ∧ szS szZnode xs left = szA szZnode (xs.drop p.1) p.2, fun p => xs.length - p.1⟩
noncomputable def iv29 (xs : List Znode) (left : Int) : Nat → Option LoopInv := fun rg_ => match rg_ with
  | 5 => some (in29_5 xs left)
  | _ => none
noncomputable def D29 : Nat → Option (Bool × FSpec) := lk [(66, (false, sp66))]
theorem da29 : SoundAll Tryd.prog D29 := soundAll_cons so66 (soundAll_nil)
noncomputable def cx29 (xs : List Znode) (left : Int) : Cx := ⟨tt, D29, Tryd.f29.ntmps, [0, 1, 4, 5, 11, 15, 25], [(5, ⟨[(0, none), (1, none), (5, none)], []⟩)], [], iv29 xs left, [], noM, []⟩
theorem bd29 (xs : List Znode) (left : Int) (hpre : pr29 xs left) : bodyP (cx29 xs left) Tryd.f29 0 [encL (encZnode 1) 1 (xs), .int .i64 (left)] (fun rr => VLe rr (rs29 xs left)) := by
  have key :
      ((inK IntKind.i64 (left - (↑(List.length xs) : Int))) ∧
   (((decide (left - (↑(List.length xs) : Int) < (0 : Int)) = true) →
   (VLe (V.int IntKind.i64 (-1 : Int)) (V.int IntKind.i64 (szS szZnode xs left)))) ∧
   ((decide (left - (↑(List.length xs) : Int) < (0 : Int)) = false) →
   ((∃ x : Nat × Int, ((SLe
   (AS.mk
   [(0, encL (encZnode 1) 1 xs),
   (1, V.int IntKind.i64 (left - (↑(List.length xs) : Int))), (5, V.int IntKind.i64 (0 : Int))]
   [])
   (AS.mk
   [(0, encL (encZnode 1) 1 xs), (1, V.int IntKind.i64 (Prod.snd x)),
   (5, V.int IntKind.i64 (↑(Prod.fst x) : Int))]
   [])) ∧
   ((Prod.fst x ≤ List.length xs) ∧
   (((0 : Int) ≤ Prod.snd x) ∧
   ((Prod.snd x ≤ left) ∧
   (szS szZnode xs left = szA szZnode (List.drop (Prod.fst x) xs) (Prod.snd x))))))) ∧
   (∀ x : Nat × Int,
   (((Prod.fst x ≤ List.length xs) ∧
   (((0 : Int) ≤ Prod.snd x) ∧
   ((Prod.snd x ≤ left) ∧
   (szS szZnode xs left = szA szZnode (List.drop (Prod.fst x) xs) (Prod.snd x))))) →
   (((decide ((↑(Prod.fst x) : Int) < (↑(List.length xs) : Int)) = true) →
   ((((0 : Int) ≤ (↑(Prod.fst x) : Int)) ∧
   ((↑(Prod.fst x) : Int) < (↑(List.length xs) : Int))) ∧
   (((VLe (encZnode 1 (List.getD xs (Int.toNat (↑(Prod.fst x) : Int)) default))
   (encZnode 1 (decZnode (encZnode 1 (List.getD xs (Int.toNat (↑(Prod.fst x) : Int)) default))))) ∧
   (pr66 (decZnode (encZnode 1 (List.getD xs (Int.toNat (↑(Prod.fst x) : Int)) default))) (Prod.snd x))) ∧
   (((decide
   (szZnode (decZnode (encZnode 1 (List.getD xs (Int.toNat (↑(Prod.fst x) : Int)) default))) (Prod.snd x) <
   (0 : Int)) =
   true) →
   (VLe (V.int IntKind.i64 (-1 : Int)) (V.int IntKind.i64 (szS szZnode xs left)))) ∧
   ((decide
   (szZnode (decZnode (encZnode 1 (List.getD xs (Int.toNat (↑(Prod.fst x) : Int)) default))) (Prod.snd x) <
   (0 : Int)) =
   false) →
   ((inK IntKind.i64 ((↑(Prod.fst x) : Int) + (1 : Int))) ∧
   (∃ y : Nat × Int, ((SLe
   (AS.mk
   [(0, encL (encZnode 1) 1 xs),
   (1,
   V.int IntKind.i64
   (szZnode (decZnode (encZnode 1 (List.getD xs (Int.toNat (↑(Prod.fst x) : Int)) default)))
   (Prod.snd x))),
   (5, V.int IntKind.i64 ((↑(Prod.fst x) : Int) + (1 : Int)))]
   [])
   (AS.mk
   [(0, encL (encZnode 1) 1 xs), (1, V.int IntKind.i64 (Prod.snd y)),
   (5, V.int IntKind.i64 (↑(Prod.fst y) : Int))]
   [])) ∧
   (((Prod.fst y ≤ List.length xs) ∧
   (((0 : Int) ≤ Prod.snd y) ∧
   ((Prod.snd y ≤ left) ∧
   (szS szZnode xs left = szA szZnode (List.drop (Prod.fst y) xs) (Prod.snd y))))) ∧
   (List.length xs - Prod.fst y < List.length xs - Prod.fst x)))))))))) ∧
   ((decide ((↑(Prod.fst x) : Int) < (↑(List.length xs) : Int)) = false) →
   (VLe (V.int IntKind.i64 (Prod.snd x)) (V.int IntKind.i64 (szS szZnode xs left))))))))))) := by
    obtain ⟨h0, hm, hl, hb⟩ := hpre
    unfold most at hm
    unfold maxLen at hl
    refine ⟨inK64 (by omega), fun h => vle_int (szS_neg (of_decide_eq_true h)).symm, fun h => ?_⟩
    have h' := of_decide_eq_false h
    refine ⟨⟨(0, left - xs.length), SLe.refl _, Nat.zero_le _, by simp only; omega, by simp only; omega, szS_pos h'⟩, ?_⟩
    rintro ⟨i, v⟩ ⟨h1, h2, h3, h4⟩
    simp only at h1 h2 h3 h4 ⊢
    refine ⟨fun h => ?_, fun h => ?_⟩
    · have hlt : i < xs.length := by simpa using h
      have hin : xs.getD i default ∈ xs := by simp [hlt]
      have e := szA_drop szZnode hlt v
      have hle := szZnode_le (xs.getD i default) v
      simp only [dec_encZnode, Int.toNat_natCast]
      refine ⟨⟨by omega, by omega⟩, ⟨VLe.refl _, by omega, by unfold most; omega, hb _ hin⟩, fun h5 => ?_, fun h5 => ?_⟩
      · have h6 := of_decide_eq_true h5
        exact vle_int (by rw [h4, e, if_pos h6])
      · have h6 := of_decide_eq_false h5
        exact ⟨inK64 (by omega), (i + 1, szZnode (xs.getD i default) v), SLe.refl _, ⟨by simp only; omega, by simp only; omega, by simp only; omega, by rw [h4, e, if_neg h6]⟩, by simp only; omega⟩
    · have hge : i = xs.length := by simp at h; omega
      refine vle_int ?_
      rw [h4, hge, List.drop_length]
      rfl
  exact Eq.mp (by kernel_rfl) key
theorem so29 : Sound Tryd.prog 29 sp29 := by
  refine sound_of_body hmix (pol := 0) Tryd.func29 rfl (by kernel_rfl) fun args bin ob r bout hDe hob => ?_
  unfold sp29 at hDe
  split at hDe
  · rename_i a0 a1
    cases hDe
    exact ⟨rfl, rfl, Nat.le_of_ble_eq_true (by kernel_rfl), cx29 ((decL decZnode) a0) a1, Eq.mp (by kernel_rfl) htt, Eq.mp (by kernel_rfl) da29, Eq.mp (by kernel_rfl) (noM_sound (P := Tryd.prog)), by kernel_rfl, [encL (encZnode 1) 1 (((decL decZnode) a0)), .int .i64 (a1)], args_of_vles (⟨hob.1, VLe.refl _, trivial⟩), Eq.mp (by kernel_rfl) (bd29 ((decL decZnode) a0) a1 (hob.2))⟩
  · cases hDe

/-! ### laws.toZnode -/
def pr70 (x : Znode) : Prop := True
noncomputable def rs70 (x : Znode) : V := encZnode 2 (x)
noncomputable def sp70 : FSpec := fun args bin => match args, bin with
  | [a0], [] => some (VLe a0 (encZnode 1 ((decZnode a0))) ∧ pr70 (decZnode a0), rs70 (decZnode a0), [])
  | _, _ => none
noncomputable def D70 : Nat → Option (Bool × FSpec) := lk []
theorem da70 : SoundAll Tryd.prog D70 := soundAll_nil
noncomputable def cx70 (x : Znode) : Cx := ⟨tt, D70, Tryd.f70.ntmps, [0, 1, 2, 3], [], [], fun _ => none, [], noM, []⟩
theorem bd70 (x : Znode) (hpre : pr70 x) : bodyP (cx70 x) Tryd.f70 1 [encZnode 1 (x)] (fun rr => VLe rr (rs70 x)) := by
  have key :
      (VLe (encZnode 1 x) (encZnode 1 x)) := by
    exact vle_agg ⟨VLe.refl _, VLe.refl _, VLe.refl _, VLe.refl _, VLe.refl _, trivial⟩
  exact Eq.mp (by kernel_rfl) key
theorem so70 : Sound Tryd.prog 70 sp70 := by
  refine sound_of_body hmix (pol := 1) Tryd.func70 rfl (by kernel_rfl) fun args bin ob r bout hDe hob => ?_
  unfold sp70 at hDe
  split at hDe
  · rename_i a0
    cases hDe
    exact ⟨rfl, rfl, Nat.le_of_ble_eq_true (by kernel_rfl), cx70 (decZnode a0), Eq.mp (by kernel_rfl) htt, Eq.mp (by kernel_rfl) da70, Eq.mp (by kernel_rfl) (noM_sound (P := Tryd.prog)), by kernel_rfl, [encZnode 1 ((decZnode a0))], args_of_vles (⟨hob.1, trivial⟩), Eq.mp (by kernel_rfl) (bd70 (decZnode a0) (hob.2))⟩
  · cases hDe

/-! ### laws.toZnodeS -/
def pr31 (xs : List Znode) : Prop := xs.length ≤ most ∧ ∀ x ∈ xs, pr70 x
noncomputable def rs31 (xs : List Znode) : V := encL (encZnode 1) 2 (xs)
noncomputable def sp31 : FSpec := fun args bin => match args, bin with
  | [a0], [] => some (VLe a0 (encL (encZnode 1) 1 (((decL decZnode) a0))) ∧ pr31 ((decL decZnode) a0), rs31 ((decL decZnode) a0), [])
  | _, _ => none
noncomputable def in31_3 (xs : List Znode) : LoopInv :=
  ⟨Nat × List Znode, fun p => ⟨[(0, encL (encZnode 1) 1 xs), (3, .osl (canonT 3) xs.length), (4, .int .i64 p.1)], [(canonT 3, .arr 5 xs.length (gL (encZnode 1) p.2) tagS)]⟩,
    fun p => p.1 ≤ xs.length ∧ p.2.length = xs.length ∧ ∀ j, j < p.1 → p.2.getD j default = xs.getD j default, fun p => xs.length - p.1⟩
noncomputable def iv31 (xs : List Znode) : Nat → Option LoopInv := fun rg_ => match rg_ with
  | 3 => some (in31_3 xs)
  | _ => none
noncomputable def D31 : Nat → Option (Bool × FSpec) := lk [(70, (false, sp70))]
theorem da31 : SoundAll Tryd.prog D31 := soundAll_cons so70 (soundAll_nil)
noncomputable def cx31 (xs : List Znode) : Cx := ⟨tt, D31, Tryd.f31.ntmps, [0, 2, 3, 4, 11], [(3, ⟨[(0, none), (3, some 5), (4, none)], []⟩)], [], iv31 xs, [], noM, []⟩
theorem bd31 (xs : List Znode) (hpre : pr31 xs) : bodyP (cx31 xs) Tryd.f31 1 [encL (encZnode 1) 1 (xs)] (fun rr => VLe rr (rs31 xs)) := by
  have key :
      ((((0 : Int) ≤ (↑(List.length xs) : Int)) ∧
   (((↑(List.length xs) : Int) ≤ (↑(List.length xs) : Int)) ∧
   ((↑(List.length xs) : Int) ≤ (↑1073741824 : Int)))) ∧
   ((∃ x : Nat × List Znode, ((SLe
   (AS.mk
   [(0, encL (encZnode 1) 1 xs),
   (3, V.osl 32000256 (Int.toNat (↑(List.length xs) : Int))),
   (4, V.int IntKind.i64 (0 : Int))]
   [(32000256,
   Blk.arr 5 (Int.toNat (↑(List.length xs) : Int))
   (fun (x : Nat) ↦
   V.agg
   [V.str (ByteArray.mk #[]), V.int IntKind.i64 (0 : Int), V.int IntKind.i64 (0 : Int),
   V.int IntKind.i64 (0 : Int), V.int IntKind.i64 (0 : Int)])
   100)])
   (AS.mk
   [(0, encL (encZnode 1) 1 xs), (3, V.osl 32000256 (List.length xs)),
   (4, V.int IntKind.i64 (↑(Prod.fst x) : Int))]
   [(32000256, Blk.arr 5 (List.length xs) (gL (encZnode 1) (Prod.snd x)) 100)])) ∧
   ((Prod.fst x ≤ List.length xs) ∧
   ((List.length (Prod.snd x) = List.length xs) ∧
   (∀ j : Nat,
   ((j < Prod.fst x) →
   (List.getD (Prod.snd x) j default = List.getD xs j default))))))) ∧
   (∀ x : Nat × List Znode,
   (((Prod.fst x ≤ List.length xs) ∧
   ((List.length (Prod.snd x) = List.length xs) ∧
   (∀ j : Nat,
   ((j < Prod.fst x) →
   (List.getD (Prod.snd x) j default = List.getD xs j default))))) →
   (((decide ((↑(Prod.fst x) : Int) < (↑(List.length xs) : Int)) = true) →
   ((((0 : Int) ≤ (↑(Prod.fst x) : Int)) ∧
   ((↑(Prod.fst x) : Int) < (↑(List.length xs) : Int))) ∧
   (((VLe (encZnode 1 (List.getD xs (Int.toNat (↑(Prod.fst x) : Int)) default))
   (encZnode 1 (decZnode (encZnode 1 (List.getD xs (Int.toNat (↑(Prod.fst x) : Int)) default))))) ∧
   (pr70 (decZnode (encZnode 1 (List.getD xs (Int.toNat (↑(Prod.fst x) : Int)) default))))) ∧
   ((((0 : Int) ≤ (↑(Prod.fst x) : Int)) ∧
   ((↑(Prod.fst x) : Int) < (↑(List.length xs) : Int))) ∧
   ((Int.toNat (↑(Prod.fst x) : Int) < List.length xs) ∧
   ((inK IntKind.i64 ((↑(Prod.fst x) : Int) + (1 : Int))) ∧
   (∃ y : Nat × List Znode, ((SLe
   (AS.mk
   [(0, encL (encZnode 1) 1 xs), (3, V.osl 32000256 (List.length xs)),
   (4, V.int IntKind.i64 ((↑(Prod.fst x) : Int) + (1 : Int)))]
   [(32000256,
   Blk.arr 5 (List.length xs)
   (setg (gL (encZnode 1) (Prod.snd x)) (Int.toNat (↑(Prod.fst x) : Int))
   (encZnode 1
   (decZnode (encZnode 1 (List.getD xs (Int.toNat (↑(Prod.fst x) : Int)) default)))))
   100)])
   (AS.mk
   [(0, encL (encZnode 1) 1 xs), (3, V.osl 32000256 (List.length xs)),
   (4, V.int IntKind.i64 (↑(Prod.fst y) : Int))]
   [(32000256, Blk.arr 5 (List.length xs) (gL (encZnode 1) (Prod.snd y)) 100)])) ∧
   (((Prod.fst y ≤ List.length xs) ∧
   ((List.length (Prod.snd y) = List.length xs) ∧
   (∀ j : Nat,
   ((j < Prod.fst y) →
   (List.getD (Prod.snd y) j default = List.getD xs j default))))) ∧
   (List.length xs - Prod.fst y < List.length xs - Prod.fst x)))))))))) ∧
   ((decide ((↑(Prod.fst x) : Int) < (↑(List.length xs) : Int)) = false) →
   (VLe (V.sl (List.length xs) (gL (encZnode 1) (Prod.snd x)) 2) (encL (encZnode 1) 2 xs)))))))) := by
    unfold pr31 most at hpre
    obtain ⟨hpre, hel⟩ := hpre
    refine ⟨⟨by omega, by omega, by omega⟩, ⟨(0, List.replicate xs.length default), ?_, by simp, by simp, fun j hj => absurd hj (Nat.not_lt_zero j)⟩, ?_⟩
    · refine sle_of ⟨rfl, VLe.refl _, rfl, VLe.refl _, rfl, VLe.refl _, trivial⟩ ⟨rfl, ?_, trivial⟩
      refine ble_arr (fun i hi => ?_) (Or.inl rfl)
      have hi' : i < xs.length := hi
      have e1 : gL (encZnode 1) (List.replicate xs.length default) i = (encZnode 1) default := by simp [gL, hi']
      rw [e1]
      exact zele_Znode
    · rintro ⟨i, ys⟩ ⟨hi, hl, hj⟩
      simp only at hi hl hj ⊢
      refine ⟨fun h => ?_, fun h => ?_⟩
      · have hlt : i < xs.length := by simpa using h
        have hin : xs.getD i default ∈ xs := by simp [hlt]
        simp only [dec_encZnode, Int.toNat_natCast]
        refine ⟨⟨by omega, by omega⟩, ⟨VLe.refl _, hel _ hin⟩, ⟨by omega, by omega⟩, by simpa using hlt, inK64 (by omega), (i + 1, ys.set i (xs.getD i default)), ?_, ⟨by simp only; omega, by simpa using hl, fun j h2 => ?_⟩, by simp only; omega⟩
        · refine sle_of ⟨rfl, VLe.refl _, rfl, VLe.refl _, rfl, vle_int (by simp), trivial⟩ ⟨rfl, ?_, trivial⟩
          refine ble_arr (fun k hk => ?_) (Or.inl rfl)
          simp only [setg, gL, Int.toNat_natCast]
          by_cases e : k = i
          · subst e
            rw [if_pos rfl, getD_set_eq _ _ _ _ (by omega)]
            exact ele_Znode _ _ _
          · rw [if_neg e, getD_set_ne _ _ _ _ e]
            exact ELe.refl _
        · simp only at h2 ⊢
          by_cases e : j = i
          · subst e; rw [getD_set_eq _ _ _ _ (by omega)]
          · rw [getD_set_ne _ _ _ _ e]; exact hj j (by omega)
      · have hge : i = xs.length := by simp at h; omega
        refine vle_sl (fun k hk => ?_) (Or.inl rfl)
        simp only [gL]
        rw [hj k (by omega)]
        exact ELe.refl _
  exact Eq.mp (by kernel_rfl) key
theorem so31 : Sound Tryd.prog 31 sp31 := by
  refine sound_of_body hmix (pol := 1) Tryd.func31 rfl (by kernel_rfl) fun args bin ob r bout hDe hob => ?_
  unfold sp31 at hDe
  split at hDe
  · rename_i a0
    cases hDe
    exact ⟨rfl, rfl, Nat.le_of_ble_eq_true (by kernel_rfl), cx31 ((decL decZnode) a0), Eq.mp (by kernel_rfl) htt, Eq.mp (by kernel_rfl) da31, Eq.mp (by kernel_rfl) (noM_sound (P := Tryd.prog)), by kernel_rfl, [encL (encZnode 1) 1 (((decL decZnode) a0))], args_of_vles (⟨hob.1, trivial⟩), Eq.mp (by kernel_rfl) (bd31 ((decL decZnode) a0) (hob.2))⟩
  · cases hDe

/-! ### laws.eqZnode -/
def pr74 (x : Znode) (y : Znode) : Prop := True
noncomputable def rs74 (x : Znode) (y : Znode) : V := .bool (decide (x = y))
noncomputable def sp74 : FSpec := fun args bin => match args, bin with
  | [a0, a1], [] => some (VLe a0 (encZnode 1 ((decZnode a0))) ∧ VLe a1 (encZnode 1 ((decZnode a1))) ∧ pr74 (decZnode a0) (decZnode a1), rs74 (decZnode a0) (decZnode a1), [])
  | _, _ => none
noncomputable def D74 : Nat → Option (Bool × FSpec) := lk []
theorem da74 : SoundAll Tryd.prog D74 := soundAll_nil
noncomputable def cx74 (x : Znode) (y : Znode) : Cx := ⟨tt, D74, Tryd.f74.ntmps, [0, 1, 2, 3, 4, 9, 14, 19, 24, 29], [], [], fun _ => none, [], noM, []⟩
theorem bd74 (x : Znode) (y : Znode) (hpre : pr74 x y) : bodyP (cx74 x y) Tryd.f74 0 [encZnode 1 (x), encZnode 1 (y)] (fun rr => VLe rr (rs74 x y)) := by
  have key :
      ((((!strEq (Znode.path x) (Znode.path y)) = true) →
   (VLe (V.bool false) (V.bool (decide (x = y))))) ∧
   (((!strEq (Znode.path x) (Znode.path y)) = false) →
   ((((Znode.data x != Znode.data y) = true) →
   (VLe (V.bool false) (V.bool (decide (x = y))))) ∧
   (((Znode.data x != Znode.data y) = false) →
   ((((Znode.version x != Znode.version y) = true) →
   (VLe (V.bool false) (V.bool (decide (x = y))))) ∧
   (((Znode.version x != Znode.version y) = false) →
   ((((Znode.owner x != Znode.owner y) = true) →
   (VLe (V.bool false) (V.bool (decide (x = y))))) ∧
   (((Znode.owner x != Znode.owner y) = false) →
   ((((Znode.next x != Znode.next y) = true) →
   (VLe (V.bool false) (V.bool (decide (x = y))))) ∧
   (((Znode.next x != Znode.next y) = false) →
   (VLe (V.bool true) (V.bool (decide (x = y)))))))))))))) := by
    simp [eq_Znode, strEq_dec]
    grind
  exact Eq.mp (by kernel_rfl) key
theorem so74 : Sound Tryd.prog 74 sp74 := by
  refine sound_of_body hmix (pol := 0) Tryd.func74 rfl (by kernel_rfl) fun args bin ob r bout hDe hob => ?_
  unfold sp74 at hDe
  split at hDe
  · rename_i a0 a1
    cases hDe
    exact ⟨rfl, rfl, Nat.le_of_ble_eq_true (by kernel_rfl), cx74 (decZnode a0) (decZnode a1), Eq.mp (by kernel_rfl) htt, Eq.mp (by kernel_rfl) da74, Eq.mp (by kernel_rfl) (noM_sound (P := Tryd.prog)), by kernel_rfl, [encZnode 1 ((decZnode a0)), encZnode 1 ((decZnode a1))], args_of_vles (⟨hob.1, hob.2.1, trivial⟩), Eq.mp (by kernel_rfl) (bd74 (decZnode a0) (decZnode a1) (hob.2.2))⟩
  · cases hDe

/-! ### laws.eqZnodeS -/
def pr34 (xs : List Znode) (ys : List Znode) : Prop := xs.length ≤ maxLen ∧ ∀ x ∈ xs, ∀ y, pr74 x y
noncomputable def rs34 (xs : List Znode) (ys : List Znode) : V := .bool (decide (xs = ys))
noncomputable def sp34 : FSpec := fun args bin => match args, bin with
  | [a0, a1], [] => some (VLe a0 (encL (encZnode 1) 1 (((decL decZnode) a0))) ∧ VLe a1 (encL (encZnode 1) 1 (((decL decZnode) a1))) ∧ pr34 ((decL decZnode) a0) ((decL decZnode) a1), rs34 ((decL decZnode) a0) ((decL decZnode) a1), [])
  | _, _ => none
noncomputable def in34_4 (xs : List Znode) (ys : List Znode) : LoopInv :=
  ⟨Nat, fun i => ⟨[(0, encL (encZnode 1) 1 xs), (1, encL (encZnode 1) 1 ys), (5, .int .i64 i)], []⟩,
    fun i => i ≤ xs.length ∧ xs.length = ys.length ∧ ∀ j, j < i → xs.getD j default = ys.getD j default, fun i => xs.length - i⟩
noncomputable def iv34 (xs : List Znode) (ys : List Znode) : Nat → Option LoopInv := fun rg_ => match rg_ with
  | 4 => some (in34_4 xs ys)
  | _ => none
noncomputable def D34 : Nat → Option (Bool × FSpec) := lk [(74, (false, sp74))]
theorem da34 : SoundAll Tryd.prog D34 := soundAll_cons so74 (soundAll_nil)
noncomputable def cx34 (xs : List Znode) (ys : List Znode) : Cx := ⟨tt, D34, Tryd.f34.ntmps, [0, 1, 4, 5, 10, 14, 26], [(4, ⟨[(0, none), (1, none), (5, none)], []⟩)], [], iv34 xs ys, [], noM, []⟩
theorem bd34 (xs : List Znode) (ys : List Znode) (hpre : pr34 xs ys) : bodyP (cx34 xs ys) Tryd.f34 0 [encL (encZnode 1) 1 (xs), encL (encZnode 1) 1 (ys)] (fun rr => VLe rr (rs34 xs ys)) := by
  have key :
      (((((↑(List.length xs) : Int) != (↑(List.length ys) : Int)) = true) →
   (VLe (V.bool false) (V.bool (decide (xs = ys))))) ∧
   ((((↑(List.length xs) : Int) != (↑(List.length ys) : Int)) = false) →
   ((∃ x : Nat, ((SLe
   (AS.mk
   [(0, encL (encZnode 1) 1 xs), (1, encL (encZnode 1) 1 ys),
   (5, V.int IntKind.i64 (0 : Int))]
   [])
   (AS.mk
   [(0, encL (encZnode 1) 1 xs), (1, encL (encZnode 1) 1 ys),
   (5, V.int IntKind.i64 (↑x : Int))]
   [])) ∧
   ((x ≤ List.length xs) ∧
   ((List.length xs = List.length ys) ∧
   (∀ j : Nat,
   ((j < x) →
   (List.getD xs j default = List.getD ys j default))))))) ∧
   (∀ x : Nat,
   (((x ≤ List.length xs) ∧
   ((List.length xs = List.length ys) ∧
   (∀ j : Nat,
   ((j < x) →
   (List.getD xs j default = List.getD ys j default))))) →
   (((decide ((↑x : Int) < (↑(List.length xs) : Int)) = true) →
   ((((0 : Int) ≤ (↑x : Int)) ∧
   ((↑x : Int) < (↑(List.length xs) : Int))) ∧
   ((((0 : Int) ≤ (↑x : Int)) ∧
   ((↑x : Int) < (↑(List.length ys) : Int))) ∧
   (((VLe (encZnode 1 (List.getD xs (Int.toNat (↑x : Int)) default))
   (encZnode 1 (decZnode (encZnode 1 (List.getD xs (Int.toNat (↑x : Int)) default))))) ∧
   ((VLe (encZnode 1 (List.getD ys (Int.toNat (↑x : Int)) default))
   (encZnode 1 (decZnode (encZnode 1 (List.getD ys (Int.toNat (↑x : Int)) default))))) ∧
   (pr74 (decZnode (encZnode 1 (List.getD xs (Int.toNat (↑x : Int)) default)))
   (decZnode (encZnode 1 (List.getD ys (Int.toNat (↑x : Int)) default)))))) ∧
   ((((!decide
   (decZnode (encZnode 1 (List.getD xs (Int.toNat (↑x : Int)) default)) =
   decZnode (encZnode 1 (List.getD ys (Int.toNat (↑x : Int)) default)))) =
   true) →
   (VLe (V.bool false) (V.bool (decide (xs = ys))))) ∧
   (((!decide
   (decZnode (encZnode 1 (List.getD xs (Int.toNat (↑x : Int)) default)) =
   decZnode (encZnode 1 (List.getD ys (Int.toNat (↑x : Int)) default)))) =
   false) →
   ((inK IntKind.i64 ((↑x : Int) + (1 : Int))) ∧
   (∃ y : Nat, ((SLe
   (AS.mk
   [(0, encL (encZnode 1) 1 xs), (1, encL (encZnode 1) 1 ys),
   (5, V.int IntKind.i64 ((↑x : Int) + (1 : Int)))]
   [])
   (AS.mk
   [(0, encL (encZnode 1) 1 xs), (1, encL (encZnode 1) 1 ys),
   (5, V.int IntKind.i64 (↑y : Int))]
   [])) ∧
   (((y ≤ List.length xs) ∧
   ((List.length xs = List.length ys) ∧
   (∀ j : Nat,
   ((j < y) →
   (List.getD xs j default = List.getD ys j default))))) ∧
   (List.length xs - y < List.length xs - x))))))))))) ∧
   ((decide ((↑x : Int) < (↑(List.length xs) : Int)) = false) →
   (VLe (V.bool true) (V.bool (decide (xs = ys))))))))))) := by
    unfold pr34 maxLen at hpre
    obtain ⟨hpre, hel⟩ := hpre
    refine ⟨fun h => ?_, fun h => ?_⟩
    · refine vle_bool ?_
      have hne : xs ≠ ys := fun e => by subst e; simp at h
      simp [hne]
    · have hlen : xs.length = ys.length := by simp at h; omega
      refine ⟨⟨0, SLe.refl _, by omega, hlen, fun j hj => absurd hj (Nat.not_lt_zero j)⟩, ?_⟩
      rintro i ⟨hi, _, hj⟩
      refine ⟨fun h => ?_, fun h => ?_⟩
      · have hlt : i < xs.length := by simpa using h
        have hin : xs.getD i default ∈ xs := by simp [hlt]
        simp only [dec_encZnode, Int.toNat_natCast]
        refine ⟨⟨by omega, by omega⟩, ⟨by omega, by omega⟩, ⟨VLe.refl _, VLe.refl _, hel _ hin _⟩, fun h2 => ?_, fun h2 => ⟨inK64 (by omega), i + 1, SLe.refl _, ⟨by omega, hlen, fun j h3 => ?_⟩, by omega⟩⟩
        · refine vle_bool ?_
          have hne : xs ≠ ys := fun e => by subst e; simp at h2
          simp [hne]
        · rcases Nat.lt_or_ge j i with h4 | h4
          · exact hj j h4
          · have : j = i := by omega
            subst this
            simpa using h2
      · refine vle_bool ?_
        have hge : i = xs.length := by simp at h; omega
        have heq : xs = ys := by
          refine List.ext_getElem hlen fun k h1 h2 => ?_
          have := hj k (by omega)
          simpa [h1, h2] using this
        simp [heq]
  exact Eq.mp (by kernel_rfl) key
theorem so34 : Sound Tryd.prog 34 sp34 := by
  refine sound_of_body hmix (pol := 0) Tryd.func34 rfl (by kernel_rfl) fun args bin ob r bout hDe hob => ?_
  unfold sp34 at hDe
  split at hDe
  · rename_i a0 a1
    cases hDe
    exact ⟨rfl, rfl, Nat.le_of_ble_eq_true (by kernel_rfl), cx34 ((decL decZnode) a0) ((decL decZnode) a1), Eq.mp (by kernel_rfl) htt, Eq.mp (by kernel_rfl) da34, Eq.mp (by kernel_rfl) (noM_sound (P := Tryd.prog)), by kernel_rfl, [encL (encZnode 1) 1 (((decL decZnode) a0)), encL (encZnode 1) 1 (((decL decZnode) a1))], args_of_vles (⟨hob.1, hob.2.1, trivial⟩), Eq.mp (by kernel_rfl) (bd34 ((decL decZnode) a0) ((decL decZnode) a1) (hob.2.2))⟩
  · cases hDe

/-! ### laws.eqIntResult -/
def pr33 (x : IntResult) (y : IntResult) : Prop := True
noncomputable def rs33 (x : IntResult) (y : IntResult) : V := .bool (decide (x = y))
noncomputable def sp33 : FSpec := fun args bin => match args, bin with
  | [a0, a1], [] => some (VLe a0 (encIntResult 1 ((decIntResult a0))) ∧ VLe a1 (encIntResult 1 ((decIntResult a1))) ∧ pr33 (decIntResult a0) (decIntResult a1), rs33 (decIntResult a0) (decIntResult a1), [])
  | _, _ => none
noncomputable def D33 : Nat → Option (Bool × FSpec) := lk []
theorem da33 : SoundAll Tryd.prog D33 := soundAll_nil
noncomputable def cx33 (x : IntResult) (y : IntResult) : Cx := ⟨tt, D33, Tryd.f33.ntmps, [0, 1, 2, 3, 4, 9, 14], [], [], fun _ => none, [], noM, []⟩
theorem bd33 (x : IntResult) (y : IntResult) (hpre : pr33 x y) : bodyP (cx33 x y) Tryd.f33 0 [encIntResult 1 (x), encIntResult 1 (y)] (fun rr => VLe rr (rs33 x y)) := by
  have key :
      ((((IntResult.code x != IntResult.code y) = true) →
   (VLe (V.bool false) (V.bool (decide (x = y))))) ∧
   (((IntResult.code x != IntResult.code y) = false) →
   ((((IntResult.value x != IntResult.value y) = true) →
   (VLe (V.bool false) (V.bool (decide (x = y))))) ∧
   (((IntResult.value x != IntResult.value y) = false) →
   (VLe (V.bool true) (V.bool (decide (x = y)))))))) := by
    simp [eq_IntResult]
    grind
  exact Eq.mp (by kernel_rfl) key
theorem so33 : Sound Tryd.prog 33 sp33 := by
  refine sound_of_body hmix (pol := 0) Tryd.func33 rfl (by kernel_rfl) fun args bin ob r bout hDe hob => ?_
  unfold sp33 at hDe
  split at hDe
  · rename_i a0 a1
    cases hDe
    exact ⟨rfl, rfl, Nat.le_of_ble_eq_true (by kernel_rfl), cx33 (decIntResult a0) (decIntResult a1), Eq.mp (by kernel_rfl) htt, Eq.mp (by kernel_rfl) da33, Eq.mp (by kernel_rfl) (noM_sound (P := Tryd.prog)), by kernel_rfl, [encIntResult 1 ((decIntResult a0)), encIntResult 1 ((decIntResult a1))], args_of_vles (⟨hob.1, hob.2.1, trivial⟩), Eq.mp (by kernel_rfl) (bd33 (decIntResult a0) (decIntResult a1) (hob.2.2))⟩
  · cases hDe

noncomputable def changeF (b a : List Znode) (t : ByteArray) : Int :=
  if atN b t < 0 ∧ 0 ≤ atN a t then 1 else if 0 ≤ atN b t ∧ atN a t < 0 then 2
  else if 0 ≤ atN b t ∧ ((atZ b (atN b t).toNat).version ≠ (atZ a (atN a t).toNat).version ∨ (atZ b (atN b t).toNat).data ≠ (atZ a (atN a t).toNat).data) then 3 else 0
noncomputable def changeOfF (b a : List Znode) (t : ByteArray) : IntResult :=
  if treeF b ≠ 0 then ⟨treeF b, 0⟩ else if treeF a ≠ 0 then ⟨treeF a, 0⟩ else if pathF t ≠ 0 then ⟨pathF t, 0⟩ else ⟨0, changeF b a t⟩
theorem agI {c v : Int} {x : IntResult} (h : x = ⟨c, v⟩) : VLe (.agg [.int .i64 c, .int .i64 v]) (encIntResult 1 x) := by
  subst h
  exact VLe.refl _
theorem ne_of_bne {x y : Int} (h : (x != y) = true) : x ≠ y := by simpa using h
theorem not_ne_of_bne {x y : Int} (h : (x != y) = false) : ¬ x ≠ y := by simpa using h
theorem and1 {x y : Bool} (h : (x && y) = true) : x = true := by cases x <;> simp_all
theorem szA_top {α : Type} {f : α → Int → Int} (hf : ∀ x v, f x v ≤ v ∨ f x v < 0) : ∀ (xs : List α) (v : Int), szA f xs v ≤ v ∨ szA f xs v < 0
  | [], v => Or.inl (Int.le_refl _)
  | x :: r, v => by
    unfold szA
    split
    · exact Or.inr (by decide)
    · have := szA_top hf r (f x v)
      have := hf x v
      omega
theorem szS_top {α : Type} {f : α → Int → Int} (hf : ∀ x v, f x v ≤ v ∨ f x v < 0) (xs : List α) (v : Int) : szS f xs v ≤ v ∨ szS f xs v < 0 := by
  unfold szS
  split
  · exact Or.inr (by decide)
  · have := szA_top hf xs (v - xs.length)
    omega
theorem changeF_def (b a : List Znode) (t : ByteArray) : changeF b a t = if atN b t < 0 ∧ 0 ≤ atN a t then 1 else if 0 ≤ atN b t ∧ atN a t < 0 then 2
    else if 0 ≤ atN b t ∧ ((atZ b (atN b t).toNat).version ≠ (atZ a (atN a t).toNat).version ∨ (atZ b (atN b t).toNat).data ≠ (atZ a (atN a t).toNat).data) then 3 else 0 := rfl
theorem changeF_is {b a : List Znode} {t : ByteArray} (hb : rising b) (ha : rising a) : changeF b a t =
    if (isZ a t && !isZ b t) = true then 1 else if (isZ b t && !isZ a t) = true then 2
    else if (isZ a t && ((atZ b (posZ b t)).version != (atZ a (posZ a t)).version || (atZ b (posZ b t)).data != (atZ a (posZ a t)).data)) = true then 3 else 0 := by
  unfold changeF
  rw [atN_is hb, atN_is ha]
  cases isZ b t <;> cases isZ a t
  · simp
  · simp
  · simp
  · have h1 : ¬ ((if true = true then (posZ b t : Int) else -1) < 0 ∧ 0 ≤ (if true = true then (posZ a t : Int) else -1)) := by simp
    have h2 : ¬ (0 ≤ (if true = true then (posZ b t : Int) else -1) ∧ (if true = true then (posZ a t : Int) else -1) < 0) := by simp
    rw [if_neg h1, if_neg h2]
    simp

/-! ### impl.change -/
def pr73 (b : List Znode) (a : List Znode) (t : ByteArray) : Prop := rising b ∧ rising a ∧ b.length ≤ 1000 ∧ a.length ≤ 1000
noncomputable def rs73 (b : List Znode) (a : List Znode) (t : ByteArray) : V := .int .i64 (changeF b a t)
noncomputable def sp73 : FSpec := fun args bin => match args, bin with
  | [a0, a1, .str a2], [] => some (VLe a0 (encL (encZnode 1) 1 (((decL decZnode) a0))) ∧ VLe a1 (encL (encZnode 1) 1 (((decL decZnode) a1))) ∧ pr73 ((decL decZnode) a0) ((decL decZnode) a1) a2, rs73 ((decL decZnode) a0) ((decL decZnode) a1) a2, [])
  | _, _ => none
noncomputable def D73 : Nat → Option (Bool × FSpec) := lk [(106, (false, sp106))]
theorem da73 : SoundAll Tryd.prog D73 := soundAll_cons so106 (soundAll_nil)
noncomputable def cx73 (b : List Znode) (a : List Znode) (t : ByteArray) : Cx := ⟨tt, D73, Tryd.f73.ntmps, [0, 1, 2, 6, 7, 8, 9, 10, 23, 29, 35], [], [], fun _ => none, [], noM, []⟩
theorem bd73 (b : List Znode) (a : List Znode) (t : ByteArray) (hpre : pr73 b a t) : bodyP (cx73 b a t) Tryd.f73 0 [encL (encZnode 1) 1 (b), encL (encZnode 1) 1 (a), .str (t)] (fun rr => VLe rr (rs73 b a t)) := by
  have key :
      (((VLe (encL (encZnode 1) 1 b)
   (encL (encZnode 1) 1 (decL decZnode (encL (encZnode 1) 1 b)))) ∧
   (pr106 (decL decZnode (encL (encZnode 1) 1 b)) t)) ∧
   (((VLe (encL (encZnode 1) 1 a)
   (encL (encZnode 1) 1 (decL decZnode (encL (encZnode 1) 1 a)))) ∧
   (pr106 (decL decZnode (encL (encZnode 1) 1 a)) t)) ∧
   ((tq (isZ (decL decZnode (encL (encZnode 1) 1 a)) t)) ∧
   (((true = true) →
   ((isZ (decL decZnode (encL (encZnode 1) 1 a)) t = true) →
   (isZ (decL decZnode (encL (encZnode 1) 1 a)) t = true))) ∧
   (∀ b_1 : Bool,
   ((b_1 =
   bif isZ (decL decZnode (encL (encZnode 1) 1 a)) t then
   !isZ (decL decZnode (encL (encZnode 1) 1 b)) t
   else false) →
   (((b_1 = true) →
   (VLe (V.int IntKind.i64 (1 : Int)) (V.int IntKind.i64 (changeF b a t)))) ∧
   ((b_1 = false) →
   ((tq (isZ (decL decZnode (encL (encZnode 1) 1 b)) t)) ∧
   (((true = true) →
   ((isZ (decL decZnode (encL (encZnode 1) 1 b)) t = true) →
   (isZ (decL decZnode (encL (encZnode 1) 1 b)) t = true))) ∧
   (∀ b_2 : Bool,
   ((b_2 =
   bif isZ (decL decZnode (encL (encZnode 1) 1 b)) t then
   !isZ (decL decZnode (encL (encZnode 1) 1 a)) t
   else false) →
   (((b_2 = true) →
   (VLe (V.int IntKind.i64 (2 : Int)) (V.int IntKind.i64 (changeF b a t)))) ∧
   ((b_2 = false) →
   ((tq (isZ (decL decZnode (encL (encZnode 1) 1 a)) t)) ∧
   ((tq (isZ (decL decZnode (encL (encZnode 1) 1 a)) t)) ∧
   (((isZ (decL decZnode (encL (encZnode 1) 1 a)) t = true) →
   (((0 : Int) ≤ (↑(posZ (decL decZnode (encL (encZnode 1) 1 b)) t) : Int)) ∧
   ((↑(posZ (decL decZnode (encL (encZnode 1) 1 b)) t) : Int) < (↑(List.length b) : Int)))) ∧
   ((tq (isZ (decL decZnode (encL (encZnode 1) 1 a)) t)) ∧
   ((tq (isZ (decL decZnode (encL (encZnode 1) 1 a)) t)) ∧
   ((tq (isZ (decL decZnode (encL (encZnode 1) 1 a)) t)) ∧
   ((tq (isZ (decL decZnode (encL (encZnode 1) 1 a)) t)) ∧
   (((isZ (decL decZnode (encL (encZnode 1) 1 a)) t = true) →
   (((0 : Int) ≤ (↑(posZ (decL decZnode (encL (encZnode 1) 1 a)) t) : Int)) ∧
   ((↑(posZ (decL decZnode (encL (encZnode 1) 1 a)) t) : Int) < (↑(List.length a) : Int)))) ∧
   ((tq (isZ (decL decZnode (encL (encZnode 1) 1 a)) t)) ∧
   ((tq (isZ (decL decZnode (encL (encZnode 1) 1 a)) t)) ∧
   ((tq (isZ (decL decZnode (encL (encZnode 1) 1 a)) t)) ∧
   ((tq (isZ (decL decZnode (encL (encZnode 1) 1 a)) t)) ∧
   ((tq (isZ (decL decZnode (encL (encZnode 1) 1 a)) t)) ∧
   ((tq (isZ (decL decZnode (encL (encZnode 1) 1 a)) t &&
   !Znode.version
   (List.getD b (Int.toNat (↑(posZ (decL decZnode (encL (encZnode 1) 1 b)) t) : Int)) default) !=
   Znode.version
   (List.getD a (Int.toNat (↑(posZ (decL decZnode (encL (encZnode 1) 1 a)) t) : Int)) default))) ∧
   ((tq (isZ (decL decZnode (encL (encZnode 1) 1 a)) t &&
   !Znode.version
   (List.getD b (Int.toNat (↑(posZ (decL decZnode (encL (encZnode 1) 1 b)) t) : Int)) default) !=
   Znode.version
   (List.getD a (Int.toNat (↑(posZ (decL decZnode (encL (encZnode 1) 1 a)) t) : Int)) default))) ∧
   ((((isZ (decL decZnode (encL (encZnode 1) 1 a)) t &&
   !Znode.version
   (List.getD b (Int.toNat (↑(posZ (decL decZnode (encL (encZnode 1) 1 b)) t) : Int)) default) !=
   Znode.version
   (List.getD a (Int.toNat (↑(posZ (decL decZnode (encL (encZnode 1) 1 a)) t) : Int)) default)) =
   true) →
   (((0 : Int) ≤ (↑(posZ (decL decZnode (encL (encZnode 1) 1 b)) t) : Int)) ∧
   ((↑(posZ (decL decZnode (encL (encZnode 1) 1 b)) t) : Int) < (↑(List.length b) : Int)))) ∧
   ((tq (isZ (decL decZnode (encL (encZnode 1) 1 a)) t &&
   !Znode.version
   (List.getD b (Int.toNat (↑(posZ (decL decZnode (encL (encZnode 1) 1 b)) t) : Int)) default) !=
   Znode.version
   (List.getD a (Int.toNat (↑(posZ (decL decZnode (encL (encZnode 1) 1 a)) t) : Int)) default))) ∧
   ((tq (isZ (decL decZnode (encL (encZnode 1) 1 a)) t &&
   !Znode.version
   (List.getD b (Int.toNat (↑(posZ (decL decZnode (encL (encZnode 1) 1 b)) t) : Int)) default) !=
   Znode.version
   (List.getD a (Int.toNat (↑(posZ (decL decZnode (encL (encZnode 1) 1 a)) t) : Int)) default))) ∧
   ((tq (isZ (decL decZnode (encL (encZnode 1) 1 a)) t &&
   !Znode.version
   (List.getD b (Int.toNat (↑(posZ (decL decZnode (encL (encZnode 1) 1 b)) t) : Int)) default) !=
   Znode.version
   (List.getD a (Int.toNat (↑(posZ (decL decZnode (encL (encZnode 1) 1 a)) t) : Int)) default))) ∧
   ((tq (isZ (decL decZnode (encL (encZnode 1) 1 a)) t &&
   !Znode.version
   (List.getD b (Int.toNat (↑(posZ (decL decZnode (encL (encZnode 1) 1 b)) t) : Int)) default) !=
   Znode.version
   (List.getD a (Int.toNat (↑(posZ (decL decZnode (encL (encZnode 1) 1 a)) t) : Int)) default))) ∧
   ((((isZ (decL decZnode (encL (encZnode 1) 1 a)) t &&
   !Znode.version
   (List.getD b (Int.toNat (↑(posZ (decL decZnode (encL (encZnode 1) 1 b)) t) : Int)) default) !=
   Znode.version
   (List.getD a (Int.toNat (↑(posZ (decL decZnode (encL (encZnode 1) 1 a)) t) : Int)) default)) =
   true) →
   (((0 : Int) ≤ (↑(posZ (decL decZnode (encL (encZnode 1) 1 a)) t) : Int)) ∧
   ((↑(posZ (decL decZnode (encL (encZnode 1) 1 a)) t) : Int) < (↑(List.length a) : Int)))) ∧
   ((tq (isZ (decL decZnode (encL (encZnode 1) 1 a)) t &&
   !Znode.version
   (List.getD b (Int.toNat (↑(posZ (decL decZnode (encL (encZnode 1) 1 b)) t) : Int)) default) !=
   Znode.version
   (List.getD a (Int.toNat (↑(posZ (decL decZnode (encL (encZnode 1) 1 a)) t) : Int)) default))) ∧
   ((tq (isZ (decL decZnode (encL (encZnode 1) 1 a)) t &&
   !Znode.version
   (List.getD b (Int.toNat (↑(posZ (decL decZnode (encL (encZnode 1) 1 b)) t) : Int)) default) !=
   Znode.version
   (List.getD a (Int.toNat (↑(posZ (decL decZnode (encL (encZnode 1) 1 a)) t) : Int)) default))) ∧
   ((tq (isZ (decL decZnode (encL (encZnode 1) 1 a)) t &&
   !Znode.version
   (List.getD b (Int.toNat (↑(posZ (decL decZnode (encL (encZnode 1) 1 b)) t) : Int)) default) !=
   Znode.version
   (List.getD a (Int.toNat (↑(posZ (decL decZnode (encL (encZnode 1) 1 a)) t) : Int)) default))) ∧
   ((tq (isZ (decL decZnode (encL (encZnode 1) 1 a)) t &&
   !Znode.version
   (List.getD b (Int.toNat (↑(posZ (decL decZnode (encL (encZnode 1) 1 b)) t) : Int)) default) !=
   Znode.version
   (List.getD a (Int.toNat (↑(posZ (decL decZnode (encL (encZnode 1) 1 a)) t) : Int)) default))) ∧
   ((tq (isZ (decL decZnode (encL (encZnode 1) 1 a)) t)) ∧
   (((isZ (decL decZnode (encL (encZnode 1) 1 a)) t = true) →
   ((isZ (decL decZnode (encL (encZnode 1) 1 a)) t = true) →
   (((Znode.version
   (List.getD b (Int.toNat (↑(posZ (decL decZnode (encL (encZnode 1) 1 b)) t) : Int)) default) !=
   Znode.version
   (List.getD a (Int.toNat (↑(posZ (decL decZnode (encL (encZnode 1) 1 a)) t) : Int)) default)) =
   false) →
   ((isZ (decL decZnode (encL (encZnode 1) 1 a)) t &&
   !Znode.version
   (List.getD b (Int.toNat (↑(posZ (decL decZnode (encL (encZnode 1) 1 b)) t) : Int)) default) !=
   Znode.version
   (List.getD a (Int.toNat (↑(posZ (decL decZnode (encL (encZnode 1) 1 a)) t) : Int)) default)) =
   true)))) ∧
   (∀ b_3 : Bool,
   ((b_3 =
   bif
   Znode.version
   (List.getD b (Int.toNat (↑(posZ (decL decZnode (encL (encZnode 1) 1 b)) t) : Int)) default) !=
   Znode.version
   (List.getD a (Int.toNat (↑(posZ (decL decZnode (encL (encZnode 1) 1 a)) t) : Int))
   default) then
   true
   else
   Znode.data
   (List.getD b (Int.toNat (↑(posZ (decL decZnode (encL (encZnode 1) 1 b)) t) : Int)) default) !=
   Znode.data
   (List.getD a (Int.toNat (↑(posZ (decL decZnode (encL (encZnode 1) 1 a)) t) : Int)) default)) →
   (((true = true) →
   ((isZ (decL decZnode (encL (encZnode 1) 1 a)) t = true) →
   (isZ (decL decZnode (encL (encZnode 1) 1 a)) t = true))) ∧
   (∀ b_4 : Bool,
   ((b_4 = bif isZ (decL decZnode (encL (encZnode 1) 1 a)) t then b_3 else false) →
   (((b_4 = true) →
   (VLe (V.int IntKind.i64 (3 : Int)) (V.int IntKind.i64 (changeF b a t)))) ∧
   ((b_4 = false) →
   (VLe (V.int IntKind.i64 (0 : Int)) (V.int IntKind.i64 (changeF b a t))))))))))))))))))))))))))))))))))))))))))))))))))) := by
    obtain ⟨hrb, hra, hlb, hla⟩ := hpre
    simp only [decL_Znode, Int.toNat_natCast]
    have ib : isZ b t = true → 0 ≤ (posZ b t : Int) ∧ (posZ b t : Int) < b.length := fun h => ⟨by omega, by have := (atN_pos hrb h).2.1; omega⟩
    have ia : isZ a t = true → 0 ≤ (posZ a t : Int) ∧ (posZ a t : Int) < a.length := fun h => ⟨by omega, by have := (atN_pos hra h).2.1; omega⟩
    generalize hv : ((b.getD (posZ b t) default).version != (a.getD (posZ a t) default).version) = v at *
    generalize hd : ((b.getD (posZ b t) default).data != (a.getD (posZ a t) default).data) = d at *
    refine ⟨⟨VLe.refl _, hrb, hlb⟩, ⟨VLe.refl _, hra, hla⟩, ?_⟩
    repeat (first | (refine And.intro (fun h _ => h) ?_) | (refine And.intro (fun _ h => h) ?_) | (refine And.intro ?aa ?_; case aa => (exact (tqI _))) | (refine And.intro ?aa ?_; case aa => (intros; simp_all [pr106]; done)) | (refine And.intro ?aa ?_; case aa => (intros; exact inK64 (by omega))) | (refine And.intro ?aa ?_; case aa => (intros; simp only [decide_eq_true_eq] at *; omega)) | (intro q hq))
    have e1 : q = (isZ a t && !isZ b t) := by rw [hq]; cases isZ a t <;> rfl
    clear hq
    rw [e1]
    refine ⟨fun h => vle_int (by rw [changeF_is hrb hra, if_pos h]), fun h => ?_⟩
    have hab : isZ a t = true → isZ b t = true := fun g => by
      rw [g] at h
      cases hb : isZ b t with
      | true => rfl
      | false => rw [hb] at h; cases h
    clear e1
    repeat (first | (refine And.intro (fun h _ => h) ?_) | (refine And.intro (fun _ h => h) ?_) | (refine And.intro ?aa ?_; case aa => (exact (tqI _))) | (refine And.intro ?aa ?_; case aa => (intros; simp_all [pr106]; done)) | (refine And.intro ?aa ?_; case aa => (intros; exact inK64 (by omega))) | (refine And.intro ?aa ?_; case aa => (intros; simp only [decide_eq_true_eq] at *; omega)) | (intro q hq))
    have e2 : q = (isZ b t && !isZ a t) := by rw [hq]; cases isZ b t <;> rfl
    clear hq
    rw [e2]
    refine ⟨fun h2 => vle_int (by rw [changeF_is hrb hra, if_neg (by rw [h]; decide), if_pos h2]), fun h2 => ?_⟩
    clear e2
    repeat (first | (refine And.intro (fun h _ => h) ?_) | (refine And.intro (fun _ h => h) ?_) | (refine And.intro ?aa ?_; case aa => (exact (tqI _))) | (refine And.intro ?aa ?_; case aa => (exact (fun g => ib (hab g)))) | (refine And.intro ?aa ?_; case aa => (exact (fun g => ia g))) | (refine And.intro ?aa ?_; case aa => (exact (fun g => ib (hab (and1 g))))) | (refine And.intro ?aa ?_; case aa => (exact (fun g => ia (and1 g)))) | (refine And.intro ?aa ?_; case aa => (intros; simp_all [pr106]; done)) | (refine And.intro ?aa ?_; case aa => (intros; exact inK64 (by omega))) | (refine And.intro ?aa ?_; case aa => (intros; simp only [decide_eq_true_eq] at *; omega)) | (intro q hq))
    rename_i q1 hq1
    have e3 : q = (isZ a t && (v || d)) := by
      rw [hq, hq1]
      cases isZ a t <;> cases v <;> rfl
    rw [e3]
    have ec2 : changeF b a t = if (isZ a t && (v || d)) = true then 3 else 0 := by
      rw [changeF_is hrb hra, if_neg (by rw [h]; decide), if_neg (by rw [h2]; decide), ← hv, ← hd]
    refine ⟨fun h3 => vle_int (by rw [ec2, if_pos h3]), fun h3 => vle_int (by rw [ec2, if_neg (by rw [h3]; decide)])⟩
  exact Eq.mp (by kernel_rfl) key
theorem so73 : Sound Tryd.prog 73 sp73 := by
  refine sound_of_body hmix (pol := 0) Tryd.func73 rfl (by kernel_rfl) fun args bin ob r bout hDe hob => ?_
  unfold sp73 at hDe
  split at hDe
  · rename_i a0 a1 a2
    cases hDe
    exact ⟨rfl, rfl, Nat.le_of_ble_eq_true (by kernel_rfl), cx73 ((decL decZnode) a0) ((decL decZnode) a1) a2, Eq.mp (by kernel_rfl) htt, Eq.mp (by kernel_rfl) da73, Eq.mp (by kernel_rfl) (noM_sound (P := Tryd.prog)), by kernel_rfl, [encL (encZnode 1) 1 (((decL decZnode) a0)), encL (encZnode 1) 1 (((decL decZnode) a1)), .str (a2)], args_of_vles (⟨hob.1, hob.2.1, VLe.refl _, trivial⟩), Eq.mp (by kernel_rfl) (bd73 ((decL decZnode) a0) ((decL decZnode) a1) a2 (hob.2.2))⟩
  · cases hDe

/-! ### spec.l7Change -/
def pr69 (b : List Znode) (a : List Znode) (t : ByteArray) : Prop := rising b ∧ rising a ∧ b.length ≤ 1000 ∧ a.length ≤ 1000
noncomputable def rs69 (b : List Znode) (a : List Znode) (t : ByteArray) : V := .int .i64 (changeF b a t)
noncomputable def sp69 : FSpec := fun args bin => match args, bin with
  | [a0, a1, .str a2], [] => some (VLe a0 (encL (encZnode 1) 1 (((decL decZnode) a0))) ∧ VLe a1 (encL (encZnode 1) 1 (((decL decZnode) a1))) ∧ pr69 ((decL decZnode) a0) ((decL decZnode) a1) a2, rs69 ((decL decZnode) a0) ((decL decZnode) a1) a2, [])
  | _, _ => none
noncomputable def D69 : Nat → Option (Bool × FSpec) := lk [(101, (false, sp101))]
theorem da69 : SoundAll Tryd.prog D69 := soundAll_cons so101 (soundAll_nil)
noncomputable def cx69 (b : List Znode) (a : List Znode) (t : ByteArray) : Cx := ⟨tt, D69, Tryd.f69.ntmps, [0, 1, 2, 6, 7, 8, 15, 22, 29], [], [], fun _ => none, [], noM, []⟩
theorem bd69 (b : List Znode) (a : List Znode) (t : ByteArray) (hpre : pr69 b a t) : bodyP (cx69 b a t) Tryd.f69 0 [encL (encZnode 1) 1 (b), encL (encZnode 1) 1 (a), .str (t)] (fun rr => VLe rr (rs69 b a t)) := by
  have key :
      (((VLe (encL (encZnode 1) 1 b)
   (encL (encZnode 1) 1 (decL decZnode (encL (encZnode 1) 1 b)))) ∧
   (pr101 (decL decZnode (encL (encZnode 1) 1 b)) t)) ∧
   (((VLe (encL (encZnode 1) 1 a)
   (encL (encZnode 1) 1 (decL decZnode (encL (encZnode 1) 1 a)))) ∧
   (pr101 (decL decZnode (encL (encZnode 1) 1 a)) t)) ∧
   ((tq (decide (atN (decL decZnode (encL (encZnode 1) 1 b)) t < (0 : Int)))) ∧
   (((true = true) →
   ((decide (atN (decL decZnode (encL (encZnode 1) 1 b)) t < (0 : Int)) = true) →
   (decide (atN (decL decZnode (encL (encZnode 1) 1 b)) t < (0 : Int)) = true))) ∧
   (∀ b_1 : Bool,
   ((b_1 =
   bif decide (atN (decL decZnode (encL (encZnode 1) 1 b)) t < (0 : Int)) then
   decide (atN (decL decZnode (encL (encZnode 1) 1 a)) t ≥ (0 : Int))
   else false) →
   (((b_1 = true) →
   (VLe (V.int IntKind.i64 (1 : Int)) (V.int IntKind.i64 (changeF b a t)))) ∧
   ((b_1 = false) →
   ((tq (decide (atN (decL decZnode (encL (encZnode 1) 1 b)) t ≥ (0 : Int)))) ∧
   (((true = true) →
   ((decide (atN (decL decZnode (encL (encZnode 1) 1 b)) t ≥ (0 : Int)) = true) →
   (decide (atN (decL decZnode (encL (encZnode 1) 1 b)) t ≥ (0 : Int)) = true))) ∧
   (∀ b_2 : Bool,
   ((b_2 =
   bif decide (atN (decL decZnode (encL (encZnode 1) 1 b)) t ≥ (0 : Int)) then
   decide (atN (decL decZnode (encL (encZnode 1) 1 a)) t < (0 : Int))
   else false) →
   (((b_2 = true) →
   (VLe (V.int IntKind.i64 (2 : Int)) (V.int IntKind.i64 (changeF b a t)))) ∧
   ((b_2 = false) →
   ((tq (decide (atN (decL decZnode (encL (encZnode 1) 1 b)) t ≥ (0 : Int)))) ∧
   ((tq (decide (atN (decL decZnode (encL (encZnode 1) 1 b)) t ≥ (0 : Int)))) ∧
   (((decide (atN (decL decZnode (encL (encZnode 1) 1 b)) t ≥ (0 : Int)) = true) →
   (((0 : Int) ≤ atN (decL decZnode (encL (encZnode 1) 1 b)) t) ∧
   (atN (decL decZnode (encL (encZnode 1) 1 b)) t < (↑(List.length b) : Int)))) ∧
   ((tq (decide (atN (decL decZnode (encL (encZnode 1) 1 b)) t ≥ (0 : Int)))) ∧
   ((tq (decide (atN (decL decZnode (encL (encZnode 1) 1 b)) t ≥ (0 : Int)))) ∧
   ((tq (decide (atN (decL decZnode (encL (encZnode 1) 1 b)) t ≥ (0 : Int)))) ∧
   ((tq (decide (atN (decL decZnode (encL (encZnode 1) 1 b)) t ≥ (0 : Int)))) ∧
   (((decide (atN (decL decZnode (encL (encZnode 1) 1 b)) t ≥ (0 : Int)) = true) →
   (((0 : Int) ≤ atN (decL decZnode (encL (encZnode 1) 1 a)) t) ∧
   (atN (decL decZnode (encL (encZnode 1) 1 a)) t < (↑(List.length a) : Int)))) ∧
   ((tq (decide (atN (decL decZnode (encL (encZnode 1) 1 b)) t ≥ (0 : Int)))) ∧
   ((tq (decide (atN (decL decZnode (encL (encZnode 1) 1 b)) t ≥ (0 : Int)))) ∧
   ((tq (decide (atN (decL decZnode (encL (encZnode 1) 1 b)) t ≥ (0 : Int)))) ∧
   ((tq (decide (atN (decL decZnode (encL (encZnode 1) 1 b)) t ≥ (0 : Int)))) ∧
   ((tq (decide (atN (decL decZnode (encL (encZnode 1) 1 b)) t ≥ (0 : Int)))) ∧
   ((tq (decide (atN (decL decZnode (encL (encZnode 1) 1 b)) t ≥ (0 : Int)) &&
   !Znode.version (List.getD b (Int.toNat (atN (decL decZnode (encL (encZnode 1) 1 b)) t)) default) !=
   Znode.version (List.getD a (Int.toNat (atN (decL decZnode (encL (encZnode 1) 1 a)) t)) default))) ∧
   ((tq (decide (atN (decL decZnode (encL (encZnode 1) 1 b)) t ≥ (0 : Int)) &&
   !Znode.version (List.getD b (Int.toNat (atN (decL decZnode (encL (encZnode 1) 1 b)) t)) default) !=
   Znode.version (List.getD a (Int.toNat (atN (decL decZnode (encL (encZnode 1) 1 a)) t)) default))) ∧
   ((((decide (atN (decL decZnode (encL (encZnode 1) 1 b)) t ≥ (0 : Int)) &&
   !Znode.version (List.getD b (Int.toNat (atN (decL decZnode (encL (encZnode 1) 1 b)) t)) default) !=
   Znode.version
   (List.getD a (Int.toNat (atN (decL decZnode (encL (encZnode 1) 1 a)) t)) default)) =
   true) →
   (((0 : Int) ≤ atN (decL decZnode (encL (encZnode 1) 1 b)) t) ∧
   (atN (decL decZnode (encL (encZnode 1) 1 b)) t < (↑(List.length b) : Int)))) ∧
   ((tq (decide (atN (decL decZnode (encL (encZnode 1) 1 b)) t ≥ (0 : Int)) &&
   !Znode.version (List.getD b (Int.toNat (atN (decL decZnode (encL (encZnode 1) 1 b)) t)) default) !=
   Znode.version (List.getD a (Int.toNat (atN (decL decZnode (encL (encZnode 1) 1 a)) t)) default))) ∧
   ((tq (decide (atN (decL decZnode (encL (encZnode 1) 1 b)) t ≥ (0 : Int)) &&
   !Znode.version (List.getD b (Int.toNat (atN (decL decZnode (encL (encZnode 1) 1 b)) t)) default) !=
   Znode.version (List.getD a (Int.toNat (atN (decL decZnode (encL (encZnode 1) 1 a)) t)) default))) ∧
   ((tq (decide (atN (decL decZnode (encL (encZnode 1) 1 b)) t ≥ (0 : Int)) &&
   !Znode.version (List.getD b (Int.toNat (atN (decL decZnode (encL (encZnode 1) 1 b)) t)) default) !=
   Znode.version (List.getD a (Int.toNat (atN (decL decZnode (encL (encZnode 1) 1 a)) t)) default))) ∧
   ((tq (decide (atN (decL decZnode (encL (encZnode 1) 1 b)) t ≥ (0 : Int)) &&
   !Znode.version (List.getD b (Int.toNat (atN (decL decZnode (encL (encZnode 1) 1 b)) t)) default) !=
   Znode.version (List.getD a (Int.toNat (atN (decL decZnode (encL (encZnode 1) 1 a)) t)) default))) ∧
   ((((decide (atN (decL decZnode (encL (encZnode 1) 1 b)) t ≥ (0 : Int)) &&
   !Znode.version (List.getD b (Int.toNat (atN (decL decZnode (encL (encZnode 1) 1 b)) t)) default) !=
   Znode.version
   (List.getD a (Int.toNat (atN (decL decZnode (encL (encZnode 1) 1 a)) t)) default)) =
   true) →
   (((0 : Int) ≤ atN (decL decZnode (encL (encZnode 1) 1 a)) t) ∧
   (atN (decL decZnode (encL (encZnode 1) 1 a)) t < (↑(List.length a) : Int)))) ∧
   ((tq (decide (atN (decL decZnode (encL (encZnode 1) 1 b)) t ≥ (0 : Int)) &&
   !Znode.version (List.getD b (Int.toNat (atN (decL decZnode (encL (encZnode 1) 1 b)) t)) default) !=
   Znode.version (List.getD a (Int.toNat (atN (decL decZnode (encL (encZnode 1) 1 a)) t)) default))) ∧
   ((tq (decide (atN (decL decZnode (encL (encZnode 1) 1 b)) t ≥ (0 : Int)) &&
   !Znode.version (List.getD b (Int.toNat (atN (decL decZnode (encL (encZnode 1) 1 b)) t)) default) !=
   Znode.version (List.getD a (Int.toNat (atN (decL decZnode (encL (encZnode 1) 1 a)) t)) default))) ∧
   ((tq (decide (atN (decL decZnode (encL (encZnode 1) 1 b)) t ≥ (0 : Int)) &&
   !Znode.version (List.getD b (Int.toNat (atN (decL decZnode (encL (encZnode 1) 1 b)) t)) default) !=
   Znode.version (List.getD a (Int.toNat (atN (decL decZnode (encL (encZnode 1) 1 a)) t)) default))) ∧
   ((tq (decide (atN (decL decZnode (encL (encZnode 1) 1 b)) t ≥ (0 : Int)) &&
   !Znode.version (List.getD b (Int.toNat (atN (decL decZnode (encL (encZnode 1) 1 b)) t)) default) !=
   Znode.version (List.getD a (Int.toNat (atN (decL decZnode (encL (encZnode 1) 1 a)) t)) default))) ∧
   ((tq (decide (atN (decL decZnode (encL (encZnode 1) 1 b)) t ≥ (0 : Int)))) ∧
   (((decide (atN (decL decZnode (encL (encZnode 1) 1 b)) t ≥ (0 : Int)) = true) →
   ((decide (atN (decL decZnode (encL (encZnode 1) 1 b)) t ≥ (0 : Int)) = true) →
   (((Znode.version (List.getD b (Int.toNat (atN (decL decZnode (encL (encZnode 1) 1 b)) t)) default) !=
   Znode.version (List.getD a (Int.toNat (atN (decL decZnode (encL (encZnode 1) 1 a)) t)) default)) =
   false) →
   ((decide (atN (decL decZnode (encL (encZnode 1) 1 b)) t ≥ (0 : Int)) &&
   !Znode.version (List.getD b (Int.toNat (atN (decL decZnode (encL (encZnode 1) 1 b)) t)) default) !=
   Znode.version
   (List.getD a (Int.toNat (atN (decL decZnode (encL (encZnode 1) 1 a)) t)) default)) =
   true)))) ∧
   (∀ b_3 : Bool,
   ((b_3 =
   bif
   Znode.version (List.getD b (Int.toNat (atN (decL decZnode (encL (encZnode 1) 1 b)) t)) default) !=
   Znode.version
   (List.getD a (Int.toNat (atN (decL decZnode (encL (encZnode 1) 1 a)) t)) default) then
   true
   else
   Znode.data (List.getD b (Int.toNat (atN (decL decZnode (encL (encZnode 1) 1 b)) t)) default) !=
   Znode.data (List.getD a (Int.toNat (atN (decL decZnode (encL (encZnode 1) 1 a)) t)) default)) →
   (((true = true) →
   ((decide (atN (decL decZnode (encL (encZnode 1) 1 b)) t ≥ (0 : Int)) = true) →
   (decide (atN (decL decZnode (encL (encZnode 1) 1 b)) t ≥ (0 : Int)) = true))) ∧
   (∀ b_4 : Bool,
   ((b_4 = bif decide (atN (decL decZnode (encL (encZnode 1) 1 b)) t ≥ (0 : Int)) then b_3 else false) →
   (((b_4 = true) →
   (VLe (V.int IntKind.i64 (3 : Int)) (V.int IntKind.i64 (changeF b a t)))) ∧
   ((b_4 = false) →
   (VLe (V.int IntKind.i64 (0 : Int)) (V.int IntKind.i64 (changeF b a t))))))))))))))))))))))))))))))))))))))))))))))))))) := by
    obtain ⟨hrb, hra, hlb, hla⟩ := hpre
    simp only [decL_Znode]
    have ib : 0 ≤ atN b t → 0 ≤ atN b t ∧ atN b t < b.length := fun h => ⟨h, (idxF_lt (isPath t) b).elim id fun g => absurd (show atN b t = -1 from g) (by omega)⟩
    have ia : 0 ≤ atN a t → 0 ≤ atN a t ∧ atN a t < a.length := fun h => ⟨h, (idxF_lt (isPath t) a).elim id fun g => absurd (show atN a t = -1 from g) (by omega)⟩
    generalize hv : ((b.getD (atN b t).toNat default).version != (a.getD (atN a t).toNat default).version) = v at *
    generalize hd : ((b.getD (atN b t).toNat default).data != (a.getD (atN a t).toNat default).data) = d at *
    refine ⟨⟨VLe.refl _, by show b.length ≤ maxLen; unfold maxLen; omega⟩, ⟨VLe.refl _, by show a.length ≤ maxLen; unfold maxLen; omega⟩, ?_⟩
    repeat (first | (refine And.intro (fun h _ => h) ?_) | (refine And.intro (fun _ h => h) ?_) | (refine And.intro ?aa ?_; case aa => (exact (tqI _))) | (refine And.intro ?aa ?_; case aa => (intros; simp_all [pr101]; done)) | (refine And.intro ?aa ?_; case aa => (intros; exact inK64 (by omega))) | (refine And.intro ?aa ?_; case aa => (intros; simp only [decide_eq_true_eq] at *; omega)) | (intro q hq))
    have e1 : q = decide (atN b t < 0 ∧ 0 ≤ atN a t) := by
      rw [hq, Bool.eq_iff_iff, decide_eq_true_eq]
      by_cases a1 : atN b t < 0 <;> by_cases a2 : 0 ≤ atN a t <;> simp [a1, a2]
    clear hq
    rw [e1]
    refine ⟨fun h => vle_int (by rw [changeF_def, if_pos (of_decide_eq_true h)]), fun h => ?_⟩
    have h' := of_decide_eq_false h
    clear e1
    repeat (first | (refine And.intro (fun h _ => h) ?_) | (refine And.intro (fun _ h => h) ?_) | (refine And.intro ?aa ?_; case aa => (exact (tqI _))) | (refine And.intro ?aa ?_; case aa => (intros; simp_all [pr101]; done)) | (refine And.intro ?aa ?_; case aa => (intros; exact inK64 (by omega))) | (refine And.intro ?aa ?_; case aa => (intros; simp only [decide_eq_true_eq] at *; omega)) | (intro q hq))
    have e2 : q = decide (0 ≤ atN b t ∧ atN a t < 0) := by
      rw [hq, Bool.eq_iff_iff, decide_eq_true_eq]
      by_cases a1 : 0 ≤ atN b t <;> by_cases a2 : atN a t < 0 <;> simp [a1, a2]
    clear hq
    rw [e2]
    refine ⟨fun h2 => vle_int (by rw [changeF_def, if_neg h', if_pos (of_decide_eq_true h2)]), fun h2 => ?_⟩
    have h2' := of_decide_eq_false h2
    clear e2
    have ja : decide (atN b t ≥ 0) = true → 0 ≤ atN a t := fun g => by
      have := of_decide_eq_true g
      omega
    repeat (first | (refine And.intro (fun h _ => h) ?_) | (refine And.intro (fun _ h => h) ?_) | (refine And.intro ?aa ?_; case aa => (exact (tqI _))) | (refine And.intro ?aa ?_; case aa => (exact (fun g => ib (of_decide_eq_true g)))) | (refine And.intro ?aa ?_; case aa => (exact (fun g => ia (ja g)))) | (refine And.intro ?aa ?_; case aa => (exact (fun g => ib (of_decide_eq_true (and1 g))))) | (refine And.intro ?aa ?_; case aa => (exact (fun g => ia (ja (and1 g))))) | (refine And.intro ?aa ?_; case aa => (intros; simp_all [pr101]; done)) | (refine And.intro ?aa ?_; case aa => (intros; exact inK64 (by omega))) | (refine And.intro ?aa ?_; case aa => (intros; simp only [decide_eq_true_eq] at *; omega)) | (intro q hq))
    rename_i q1 hq1
    have e3 : q = decide (0 ≤ atN b t ∧ ((atZ b (atN b t).toNat).version ≠ (atZ a (atN a t).toNat).version ∨ (atZ b (atN b t).toNat).data ≠ (atZ a (atN a t).toNat).data)) := by
      rw [hq, hq1, Bool.eq_iff_iff, decide_eq_true_eq, ← hv, ← hd]
      by_cases a1 : 0 ≤ atN b t
      · have a2 : decide (atN b t ≥ 0) = true := decide_eq_true a1
        rw [a2]
        simp only [a1, true_and, cond_true]
        by_cases a3 : (atZ b (atN b t).toNat).version = (atZ a (atN a t).toNat).version
        · have a4 : ((b.getD (atN b t).toNat default).version != (a.getD (atN a t).toNat default).version) = false := by simpa using a3
          rw [a4]
          exact ⟨fun g => Or.inr (bne_iff_ne.1 g), fun g => g.elim (fun g => absurd a3 g) fun g => bne_iff_ne.2 g⟩
        · have a4 : ((b.getD (atN b t).toNat default).version != (a.getD (atN a t).toNat default).version) = true := by simpa using a3
          rw [a4]
          exact ⟨fun _ => Or.inl a3, fun _ => rfl⟩
      · have a2 : decide (atN b t ≥ 0) = false := decide_eq_false (by omega)
        rw [a2]
        simp [a1]
    rw [e3]
    exact ⟨fun h3 => vle_int (by rw [changeF_def, if_neg h', if_neg h2', if_pos (of_decide_eq_true h3)]), fun h3 => vle_int (by rw [changeF_def, if_neg h', if_neg h2', if_neg (of_decide_eq_false h3)])⟩
  exact Eq.mp (by kernel_rfl) key
theorem so69 : Sound Tryd.prog 69 sp69 := by
  refine sound_of_body hmix (pol := 0) Tryd.func69 rfl (by kernel_rfl) fun args bin ob r bout hDe hob => ?_
  unfold sp69 at hDe
  split at hDe
  · rename_i a0 a1 a2
    cases hDe
    exact ⟨rfl, rfl, Nat.le_of_ble_eq_true (by kernel_rfl), cx69 ((decL decZnode) a0) ((decL decZnode) a1) a2, Eq.mp (by kernel_rfl) htt, Eq.mp (by kernel_rfl) da69, Eq.mp (by kernel_rfl) (noM_sound (P := Tryd.prog)), by kernel_rfl, [encL (encZnode 1) 1 (((decL decZnode) a0)), encL (encZnode 1) 1 (((decL decZnode) a1)), .str (a2)], args_of_vles (⟨hob.1, hob.2.1, VLe.refl _, trivial⟩), Eq.mp (by kernel_rfl) (bd69 ((decL decZnode) a0) ((decL decZnode) a1) a2 (hob.2.2))⟩
  · cases hDe

/-! ### impl.treesCode -/
def pr71 (b : List Znode) (a : List Znode) : Prop := b.length ≤ maxLen ∧ a.length ≤ maxLen
noncomputable def rs71 (b : List Znode) (a : List Znode) : V := .int .i64 (if treeF b ≠ 0 then treeF b else treeF a)
noncomputable def sp71 : FSpec := fun args bin => match args, bin with
  | [a0, a1], [] => some (VLe a0 (encL (encZnode 1) 1 (((decL decZnode) a0))) ∧ VLe a1 (encL (encZnode 1) 1 (((decL decZnode) a1))) ∧ pr71 ((decL decZnode) a0) ((decL decZnode) a1), rs71 ((decL decZnode) a0) ((decL decZnode) a1), [])
  | _, _ => none
noncomputable def D71 : Nat → Option (Bool × FSpec) := lk [(80, (false, sp80))]
theorem da71 : SoundAll Tryd.prog D71 := soundAll_cons so80 (soundAll_nil)
noncomputable def cx71 (b : List Znode) (a : List Znode) : Cx := ⟨tt, D71, Tryd.f71.ntmps, [0, 1, 4, 5, 9], [], [], fun _ => none, [], noM, []⟩
theorem bd71 (b : List Znode) (a : List Znode) (hpre : pr71 b a) : bodyP (cx71 b a) Tryd.f71 0 [encL (encZnode 1) 1 (b), encL (encZnode 1) 1 (a)] (fun rr => VLe rr (rs71 b a)) := by
  have key :
      (((VLe (encL (encZnode 1) 1 b)
   (encL (encZnode 1) 1 (decL decZnode (encL (encZnode 1) 1 b)))) ∧
   (pr80 (decL decZnode (encL (encZnode 1) 1 b)))) ∧
   ((((treeF (decL decZnode (encL (encZnode 1) 1 b)) != (0 : Int)) = true) →
   (VLe (V.int IntKind.i64 (treeF (decL decZnode (encL (encZnode 1) 1 b))))
   (V.int IntKind.i64 (if treeF b ≠ (0 : Int) then treeF b else treeF a)))) ∧
   (((treeF (decL decZnode (encL (encZnode 1) 1 b)) != (0 : Int)) = false) →
   (((VLe (encL (encZnode 1) 1 a)
   (encL (encZnode 1) 1 (decL decZnode (encL (encZnode 1) 1 a)))) ∧
   (pr80 (decL decZnode (encL (encZnode 1) 1 a)))) ∧
   (VLe (V.int IntKind.i64 (treeF (decL decZnode (encL (encZnode 1) 1 a))))
   (V.int IntKind.i64 (if treeF b ≠ (0 : Int) then treeF b else treeF a))))))) := by
    obtain ⟨hb, ha⟩ := hpre
    simp only [decL_Znode]
    refine ⟨⟨VLe.refl _, hb⟩, fun h => ?_, fun h => ⟨⟨VLe.refl _, ha⟩, ?_⟩⟩
    · exact vle_int (by rw [if_pos (ne_of_bne h)])
    · exact vle_int (by rw [if_neg (not_ne_of_bne h)])
  exact Eq.mp (by kernel_rfl) key
theorem so71 : Sound Tryd.prog 71 sp71 := by
  refine sound_of_body hmix (pol := 0) Tryd.func71 rfl (by kernel_rfl) fun args bin ob r bout hDe hob => ?_
  unfold sp71 at hDe
  split at hDe
  · rename_i a0 a1
    cases hDe
    exact ⟨rfl, rfl, Nat.le_of_ble_eq_true (by kernel_rfl), cx71 ((decL decZnode) a0) ((decL decZnode) a1), Eq.mp (by kernel_rfl) htt, Eq.mp (by kernel_rfl) da71, Eq.mp (by kernel_rfl) (noM_sound (P := Tryd.prog)), by kernel_rfl, [encL (encZnode 1) 1 (((decL decZnode) a0)), encL (encZnode 1) 1 (((decL decZnode) a1))], args_of_vles (⟨hob.1, hob.2.1, trivial⟩), Eq.mp (by kernel_rfl) (bd71 ((decL decZnode) a0) ((decL decZnode) a1) (hob.2.2))⟩
  · cases hDe

/-! ### spec.l2Asked -/
def pr68 (l : List Znode) (t : ByteArray) : Prop := l.length ≤ maxLen
noncomputable def rs68 (l : List Znode) (t : ByteArray) : V := .int .i64 (if treeF l ≠ 0 then treeF l else pathF t)
noncomputable def sp68 : FSpec := fun args bin => match args, bin with
  | [a0, .str a1], [] => some (VLe a0 (encL (encZnode 1) 1 (((decL decZnode) a0))) ∧ pr68 ((decL decZnode) a0) a1, rs68 ((decL decZnode) a0) a1, [])
  | _, _ => none
noncomputable def D68 : Nat → Option (Bool × FSpec) := lk [(67, (false, sp67)), (53, (false, sp53))]
theorem da68 : SoundAll Tryd.prog D68 := soundAll_cons so67 (soundAll_cons so53 (soundAll_nil))
noncomputable def cx68 (l : List Znode) (t : ByteArray) : Cx := ⟨tt, D68, Tryd.f68.ntmps, [0, 1, 4, 5, 9], [], [], fun _ => none, [], noM, []⟩
theorem bd68 (l : List Znode) (t : ByteArray) (hpre : pr68 l t) : bodyP (cx68 l t) Tryd.f68 0 [encL (encZnode 1) 1 (l), .str (t)] (fun rr => VLe rr (rs68 l t)) := by
  have key :
      (((VLe (encL (encZnode 1) 1 l)
   (encL (encZnode 1) 1 (decL decZnode (encL (encZnode 1) 1 l)))) ∧
   (pr67 (decL decZnode (encL (encZnode 1) 1 l)))) ∧
   ((((treeF (decL decZnode (encL (encZnode 1) 1 l)) != (0 : Int)) = true) →
   (VLe (V.int IntKind.i64 (treeF (decL decZnode (encL (encZnode 1) 1 l))))
   (V.int IntKind.i64 (if treeF l ≠ (0 : Int) then treeF l else pathF t)))) ∧
   (((treeF (decL decZnode (encL (encZnode 1) 1 l)) != (0 : Int)) = false) →
   ((pr53 t) ∧
   (VLe (V.int IntKind.i64 (pathF t)) (V.int IntKind.i64 (if treeF l ≠ (0 : Int) then treeF l else pathF t))))))) := by
    simp only [decL_Znode]
    refine ⟨⟨VLe.refl _, hpre⟩, fun h => ?_, fun h => ⟨trivial, ?_⟩⟩
    · exact vle_int (by rw [if_pos (ne_of_bne h)])
    · exact vle_int (by rw [if_neg (not_ne_of_bne h)])
  exact Eq.mp (by kernel_rfl) key
theorem so68 : Sound Tryd.prog 68 sp68 := by
  refine sound_of_body hmix (pol := 0) Tryd.func68 rfl (by kernel_rfl) fun args bin ob r bout hDe hob => ?_
  unfold sp68 at hDe
  split at hDe
  · rename_i a0 a1
    cases hDe
    exact ⟨rfl, rfl, Nat.le_of_ble_eq_true (by kernel_rfl), cx68 ((decL decZnode) a0) a1, Eq.mp (by kernel_rfl) htt, Eq.mp (by kernel_rfl) da68, Eq.mp (by kernel_rfl) (noM_sound (P := Tryd.prog)), by kernel_rfl, [encL (encZnode 1) 1 (((decL decZnode) a0)), .str (a1)], args_of_vles (⟨hob.1, VLe.refl _, trivial⟩), Eq.mp (by kernel_rfl) (bd68 ((decL decZnode) a0) a1 (hob.2))⟩
  · cases hDe

/-! ### impl.ChangeOf -/
def pr32 (b : List Znode) (a : List Znode) (t : ByteArray) : Prop := b.length ≤ maxLen ∧ a.length ≤ maxLen
noncomputable def rs32 (b : List Znode) (a : List Znode) (t : ByteArray) : V := encIntResult 0 (changeOfF b a t)
noncomputable def sp32 : FSpec := fun args bin => match args, bin with
  | [a0, a1, .str a2], [] => some (VLe a0 (encL (encZnode 1) 1 (((decL decZnode) a0))) ∧ VLe a1 (encL (encZnode 1) 1 (((decL decZnode) a1))) ∧ pr32 ((decL decZnode) a0) ((decL decZnode) a1) a2, rs32 ((decL decZnode) a0) ((decL decZnode) a1) a2, [])
  | _, _ => none
noncomputable def D32 : Nat → Option (Bool × FSpec) := lk [(71, (false, sp71)), (72, (false, sp72)), (73, (false, sp73))]
theorem da32 : SoundAll Tryd.prog D32 := soundAll_cons so71 (soundAll_cons so72 (soundAll_cons so73 (soundAll_nil)))
noncomputable def cx32 (b : List Znode) (a : List Znode) (t : ByteArray) : Cx := ⟨tt, D32, Tryd.f32.ntmps, [0, 1, 2, 6, 7, 8, 13, 19], [], [], fun _ => none, [], noM, []⟩
theorem bd32 (b : List Znode) (a : List Znode) (t : ByteArray) (hpre : pr32 b a t) : bodyP (cx32 b a t) Tryd.f32 0 [encL (encZnode 1) 1 (b), encL (encZnode 1) 1 (a), .str (t)] (fun rr => VLe rr (rs32 b a t)) := by
  have key :
      (((VLe (encL (encZnode 1) 1 b)
   (encL (encZnode 1) 1 (decL decZnode (encL (encZnode 1) 1 b)))) ∧
   ((VLe (encL (encZnode 1) 1 a)
   (encL (encZnode 1) 1 (decL decZnode (encL (encZnode 1) 1 a)))) ∧
   (pr71 (decL decZnode (encL (encZnode 1) 1 b)) (decL decZnode (encL (encZnode 1) 1 a))))) ∧
   (((((if treeF (decL decZnode (encL (encZnode 1) 1 b)) ≠ (0 : Int) then
   treeF (decL decZnode (encL (encZnode 1) 1 b))
   else treeF (decL decZnode (encL (encZnode 1) 1 a))) !=
   (0 : Int)) =
   true) →
   (VLe
   (V.agg
   [V.int IntKind.i64
   (if treeF (decL decZnode (encL (encZnode 1) 1 b)) ≠ (0 : Int) then
   treeF (decL decZnode (encL (encZnode 1) 1 b))
   else treeF (decL decZnode (encL (encZnode 1) 1 a))),
   V.int IntKind.i64 (0 : Int)])
   (encIntResult 1 (changeOfF b a t)))) ∧
   ((((if treeF (decL decZnode (encL (encZnode 1) 1 b)) ≠ (0 : Int) then
   treeF (decL decZnode (encL (encZnode 1) 1 b))
   else treeF (decL decZnode (encL (encZnode 1) 1 a))) !=
   (0 : Int)) =
   false) →
   ((pr72 t) ∧
   ((((pathF t != (0 : Int)) = true) →
   (VLe (V.agg [V.int IntKind.i64 (pathF t), V.int IntKind.i64 (0 : Int)]) (encIntResult 1 (changeOfF b a t)))) ∧
   (((pathF t != (0 : Int)) = false) →
   (((VLe (encL (encZnode 1) 1 b)
   (encL (encZnode 1) 1 (decL decZnode (encL (encZnode 1) 1 b)))) ∧
   ((VLe (encL (encZnode 1) 1 a)
   (encL (encZnode 1) 1 (decL decZnode (encL (encZnode 1) 1 a)))) ∧
   (pr73 (decL decZnode (encL (encZnode 1) 1 b)) (decL decZnode (encL (encZnode 1) 1 a)) t))) ∧
   (VLe
   (V.agg
   [V.int IntKind.i64 (0 : Int),
   V.int IntKind.i64
   (changeF (decL decZnode (encL (encZnode 1) 1 b))
   (decL decZnode (encL (encZnode 1) 1 a)) t)])
   (encIntResult 1 (changeOfF b a t)))))))))) := by
    obtain ⟨hb, ha⟩ := hpre
    simp only [decL_Znode]
    refine ⟨⟨VLe.refl _, VLe.refl _, hb, ha⟩, fun h => ?_, fun h => ⟨trivial, fun h2 => ?_, fun h2 => ?_⟩⟩
    · have h1 := ne_of_bne h
      refine agI ?_
      unfold changeOfF
      by_cases c : treeF b ≠ 0
      · rw [if_pos c, if_pos c]
      · rw [if_neg c] at h1
        rw [if_neg c, if_neg c, if_pos h1]
    · have h1 := not_ne_of_bne h
      have c : ¬ treeF b ≠ 0 := fun c => by rw [if_pos c] at h1; exact h1 c
      rw [if_neg c] at h1
      refine agI ?_
      unfold changeOfF
      rw [if_neg c, if_neg h1, if_pos (ne_of_bne h2)]
    have h1 := not_ne_of_bne h
    have c : ¬ treeF b ≠ 0 := fun c => by rw [if_pos c] at h1; exact h1 c
    rw [if_neg c] at h1
    have tb := tree_ok (Classical.not_not.1 c)
    have ta := tree_ok (Classical.not_not.1 h1)
    refine ⟨⟨VLe.refl _, VLe.refl _, rising_scan tb.2.1, rising_scan ta.2.1, by omega, by omega⟩, agI ?_⟩
    unfold changeOfF
    rw [if_neg c, if_neg h1, if_neg (not_ne_of_bne h2)]
  exact Eq.mp (by kernel_rfl) key
theorem so32 : Sound Tryd.prog 32 sp32 := by
  refine sound_of_body hmix (pol := 0) Tryd.func32 rfl (by kernel_rfl) fun args bin ob r bout hDe hob => ?_
  unfold sp32 at hDe
  split at hDe
  · rename_i a0 a1 a2
    cases hDe
    exact ⟨rfl, rfl, Nat.le_of_ble_eq_true (by kernel_rfl), cx32 ((decL decZnode) a0) ((decL decZnode) a1) a2, Eq.mp (by kernel_rfl) htt, Eq.mp (by kernel_rfl) da32, Eq.mp (by kernel_rfl) (noM_sound (P := Tryd.prog)), by kernel_rfl, [encL (encZnode 1) 1 (((decL decZnode) a0)), encL (encZnode 1) 1 (((decL decZnode) a1)), .str (a2)], args_of_vles (⟨hob.1, hob.2.1, VLe.refl _, trivial⟩), Eq.mp (by kernel_rfl) (bd32 ((decL decZnode) a0) ((decL decZnode) a1) a2 (hob.2.2))⟩
  · cases hDe

/-! ### spec.ChangeOf -/
def pr30 (b : List Znode) (a : List Znode) (t : ByteArray) : Prop := b.length ≤ maxLen ∧ a.length ≤ maxLen
noncomputable def rs30 (b : List Znode) (a : List Znode) (t : ByteArray) : V := encIntResult 0 (changeOfF b a t)
noncomputable def sp30 : FSpec := fun args bin => match args, bin with
  | [a0, a1, .str a2], [] => some (VLe a0 (encL (encZnode 1) 1 (((decL decZnode) a0))) ∧ VLe a1 (encL (encZnode 1) 1 (((decL decZnode) a1))) ∧ pr30 ((decL decZnode) a0) ((decL decZnode) a1) a2, rs30 ((decL decZnode) a0) ((decL decZnode) a1) a2, [])
  | _, _ => none
noncomputable def D30 : Nat → Option (Bool × FSpec) := lk [(67, (false, sp67)), (68, (false, sp68)), (69, (false, sp69))]
theorem da30 : SoundAll Tryd.prog D30 := soundAll_cons so67 (soundAll_cons so68 (soundAll_cons so69 (soundAll_nil)))
noncomputable def cx30 (b : List Znode) (a : List Znode) (t : ByteArray) : Cx := ⟨tt, D30, Tryd.f30.ntmps, [0, 1, 2, 6, 7, 8, 12, 19], [], [], fun _ => none, [], noM, []⟩
theorem bd30 (b : List Znode) (a : List Znode) (t : ByteArray) (hpre : pr30 b a t) : bodyP (cx30 b a t) Tryd.f30 0 [encL (encZnode 1) 1 (b), encL (encZnode 1) 1 (a), .str (t)] (fun rr => VLe rr (rs30 b a t)) := by
  have key :
      (((VLe (encL (encZnode 1) 1 b)
   (encL (encZnode 1) 1 (decL decZnode (encL (encZnode 1) 1 b)))) ∧
   (pr67 (decL decZnode (encL (encZnode 1) 1 b)))) ∧
   ((((treeF (decL decZnode (encL (encZnode 1) 1 b)) != (0 : Int)) = true) →
   (VLe
   (V.agg
   [V.int IntKind.i64 (treeF (decL decZnode (encL (encZnode 1) 1 b))), V.int IntKind.i64 (0 : Int)])
   (encIntResult 1 (changeOfF b a t)))) ∧
   (((treeF (decL decZnode (encL (encZnode 1) 1 b)) != (0 : Int)) = false) →
   (((VLe (encL (encZnode 1) 1 a)
   (encL (encZnode 1) 1 (decL decZnode (encL (encZnode 1) 1 a)))) ∧
   (pr68 (decL decZnode (encL (encZnode 1) 1 a)) t)) ∧
   (((((if treeF (decL decZnode (encL (encZnode 1) 1 a)) ≠ (0 : Int) then
   treeF (decL decZnode (encL (encZnode 1) 1 a))
   else pathF t) !=
   (0 : Int)) =
   true) →
   (VLe
   (V.agg
   [V.int IntKind.i64
   (if treeF (decL decZnode (encL (encZnode 1) 1 a)) ≠ (0 : Int) then
   treeF (decL decZnode (encL (encZnode 1) 1 a))
   else pathF t),
   V.int IntKind.i64 (0 : Int)])
   (encIntResult 1 (changeOfF b a t)))) ∧
   ((((if treeF (decL decZnode (encL (encZnode 1) 1 a)) ≠ (0 : Int) then
   treeF (decL decZnode (encL (encZnode 1) 1 a))
   else pathF t) !=
   (0 : Int)) =
   false) →
   (((VLe (encL (encZnode 1) 1 b)
   (encL (encZnode 1) 1 (decL decZnode (encL (encZnode 1) 1 b)))) ∧
   ((VLe (encL (encZnode 1) 1 a)
   (encL (encZnode 1) 1 (decL decZnode (encL (encZnode 1) 1 a)))) ∧
   (pr69 (decL decZnode (encL (encZnode 1) 1 b)) (decL decZnode (encL (encZnode 1) 1 a)) t))) ∧
   (VLe
   (V.agg
   [V.int IntKind.i64 (0 : Int),
   V.int IntKind.i64
   (changeF (decL decZnode (encL (encZnode 1) 1 b))
   (decL decZnode (encL (encZnode 1) 1 a)) t)])
   (encIntResult 1 (changeOfF b a t)))))))))) := by
    obtain ⟨hb, ha⟩ := hpre
    simp only [decL_Znode]
    refine ⟨⟨VLe.refl _, hb⟩, fun h => ?_, fun h => ⟨⟨VLe.refl _, ha⟩, fun h2 => ?_, fun h2 => ?_⟩⟩
    · refine agI ?_
      unfold changeOfF
      rw [if_pos (ne_of_bne h)]
    · have c := not_ne_of_bne h
      have h1 := ne_of_bne h2
      refine agI ?_
      unfold changeOfF
      rw [if_neg c]
      by_cases c2 : treeF a ≠ 0
      · rw [if_pos c2, if_pos c2]
      · rw [if_neg c2] at h1
        rw [if_neg c2, if_neg c2, if_pos h1]
    · have c := not_ne_of_bne h
      have h1 := not_ne_of_bne h2
      have c2 : ¬ treeF a ≠ 0 := fun c2 => by rw [if_pos c2] at h1; exact h1 c2
      rw [if_neg c2] at h1
      have tb := tree_ok (Classical.not_not.1 c)
      have ta := tree_ok (Classical.not_not.1 c2)
      refine ⟨⟨VLe.refl _, VLe.refl _, rising_scan tb.2.1, rising_scan ta.2.1, by omega, by omega⟩, agI ?_⟩
      unfold changeOfF
      rw [if_neg c, if_neg c2, if_neg h1]
  exact Eq.mp (by kernel_rfl) key
theorem so30 : Sound Tryd.prog 30 sp30 := by
  refine sound_of_body hmix (pol := 0) Tryd.func30 rfl (by kernel_rfl) fun args bin ob r bout hDe hob => ?_
  unfold sp30 at hDe
  split at hDe
  · rename_i a0 a1 a2
    cases hDe
    exact ⟨rfl, rfl, Nat.le_of_ble_eq_true (by kernel_rfl), cx30 ((decL decZnode) a0) ((decL decZnode) a1) a2, Eq.mp (by kernel_rfl) htt, Eq.mp (by kernel_rfl) da30, Eq.mp (by kernel_rfl) (noM_sound (P := Tryd.prog)), by kernel_rfl, [encL (encZnode 1) 1 (((decL decZnode) a0)), encL (encZnode 1) 1 (((decL decZnode) a1)), .str (a2)], args_of_vles (⟨hob.1, hob.2.1, VLe.refl _, trivial⟩), Eq.mp (by kernel_rfl) (bd30 ((decL decZnode) a0) ((decL decZnode) a1) a2 (hob.2.2))⟩
  · cases hDe

/-! ### laws.FnExactChangeOf -/
def pr6 (b : List Znode) (a : List Znode) (t : ByteArray) : Prop := (b.length ≤ maxLen ∧ ∀ x ∈ b, x.bd) ∧ (a.length ≤ maxLen ∧ ∀ x ∈ a, x.bd) ∧ t.size ≤ maxLen
noncomputable def rs6 (b : List Znode) (a : List Znode) (t : ByteArray) : V := .bool (true)
def Q6 (vs : List V) : Prop := ∃ (b : List Znode) (a : List Znode) (t : ByteArray), ArgsLe vs [encL (encZnode 1) 1 (b), encL (encZnode 1) 1 (a), .str (t)] ∧ pr6 b a t
noncomputable def D6 : Nat → Option (Bool × FSpec) := lk [(29, (false, sp29)), (31, (false, sp31)), (34, (false, sp34)), (33, (false, sp33)), (30, (false, sp30)), (32, (false, sp32))]
theorem da6 : SoundAll Tryd.prog D6 := soundAll_cons so29 (soundAll_cons so31 (soundAll_cons so34 (soundAll_cons so33 (soundAll_cons so30 (soundAll_cons so32 (soundAll_nil))))))
noncomputable def cx6 (b : List Znode) (a : List Znode) (t : ByteArray) : Cx := ⟨tt, D6, Tryd.f6.ntmps, [0, 1, 2, 6, 7, 8, 9, 10, 11, 14, 19, 24, 42, 47, 52], [], [], fun _ => none, [], noM, []⟩
theorem bd6 (b : List Znode) (a : List Znode) (t : ByteArray) (hpre : pr6 b a t) : bodyP (cx6 b a t) Tryd.f6 0 [encL (encZnode 1) 1 (b), encL (encZnode 1) 1 (a), .str (t)] (fun rr => VLe rr (rs6 b a t)) := by
  have key :
      (((decide ((↑(ByteArray.size t) : Int) > (1048576 : Int)) = true) →
   (VLe (V.bool true) (V.bool true))) ∧
   ((decide ((↑(ByteArray.size t) : Int) > (1048576 : Int)) = false) →
   (((VLe (encL (encZnode 1) 1 b)
   (encL (encZnode 1) 1 (decL decZnode (encL (encZnode 1) 1 b)))) ∧
   (pr29 (decL decZnode (encL (encZnode 1) 1 b)) (1048576 : Int))) ∧
   (((decide (szS szZnode (decL decZnode (encL (encZnode 1) 1 b)) (1048576 : Int) < (0 : Int)) = true) →
   (VLe (V.bool true) (V.bool true))) ∧
   ((decide (szS szZnode (decL decZnode (encL (encZnode 1) 1 b)) (1048576 : Int) < (0 : Int)) = false) →
   (((VLe (encL (encZnode 1) 1 a)
   (encL (encZnode 1) 1 (decL decZnode (encL (encZnode 1) 1 a)))) ∧
   (pr29 (decL decZnode (encL (encZnode 1) 1 a))
   (szS szZnode (decL decZnode (encL (encZnode 1) 1 b)) (1048576 : Int)))) ∧
   (((decide
   (szS szZnode (decL decZnode (encL (encZnode 1) 1 a))
   (szS szZnode (decL decZnode (encL (encZnode 1) 1 b)) (1048576 : Int)) <
   (0 : Int)) =
   true) →
   (VLe (V.bool true) (V.bool true))) ∧
   ((decide
   (szS szZnode (decL decZnode (encL (encZnode 1) 1 a))
   (szS szZnode (decL decZnode (encL (encZnode 1) 1 b)) (1048576 : Int)) <
   (0 : Int)) =
   false) →
   (((VLe (encL (encZnode 1) 1 b)
   (encL (encZnode 1) 1 (decL decZnode (encL (encZnode 1) 1 b)))) ∧
   (pr31 (decL decZnode (encL (encZnode 1) 1 b)))) ∧
   (((VLe (encL (encZnode 1) 1 a)
   (encL (encZnode 1) 1 (decL decZnode (encL (encZnode 1) 1 a)))) ∧
   (pr31 (decL decZnode (encL (encZnode 1) 1 a)))) ∧
   (((VLe (encL (encZnode 1) 1 (decL decZnode (encL (encZnode 1) 1 b)))
   (encL (encZnode 1) 1
   (decL decZnode (encL (encZnode 1) 1 (decL decZnode (encL (encZnode 1) 1 b)))))) ∧
   ((VLe (encL (encZnode 1) 1 (decL decZnode (encL (encZnode 1) 1 a)))
   (encL (encZnode 1) 1
   (decL decZnode (encL (encZnode 1) 1 (decL decZnode (encL (encZnode 1) 1 a)))))) ∧
   (pr30 (decL decZnode (encL (encZnode 1) 1 (decL decZnode (encL (encZnode 1) 1 b))))
   (decL decZnode (encL (encZnode 1) 1 (decL decZnode (encL (encZnode 1) 1 a)))) t))) ∧
   (((VLe (encL (encZnode 1) 1 b)
   (encL (encZnode 1) 1 (decL decZnode (encL (encZnode 1) 1 b)))) ∧
   (pr31 (decL decZnode (encL (encZnode 1) 1 b)))) ∧
   (((VLe (encL (encZnode 1) 1 a)
   (encL (encZnode 1) 1 (decL decZnode (encL (encZnode 1) 1 a)))) ∧
   (pr31 (decL decZnode (encL (encZnode 1) 1 a)))) ∧
   (((VLe (encL (encZnode 1) 1 (decL decZnode (encL (encZnode 1) 1 b)))
   (encL (encZnode 1) 1
   (decL decZnode (encL (encZnode 1) 1 (decL decZnode (encL (encZnode 1) 1 b)))))) ∧
   ((VLe (encL (encZnode 1) 1 (decL decZnode (encL (encZnode 1) 1 a)))
   (encL (encZnode 1) 1
   (decL decZnode (encL (encZnode 1) 1 (decL decZnode (encL (encZnode 1) 1 a)))))) ∧
   (pr32 (decL decZnode (encL (encZnode 1) 1 (decL decZnode (encL (encZnode 1) 1 b))))
   (decL decZnode (encL (encZnode 1) 1 (decL decZnode (encL (encZnode 1) 1 a)))) t))) ∧
   (((VLe
   (encIntResult 1
   (changeOfF
   (decL decZnode (encL (encZnode 1) 1 (decL decZnode (encL (encZnode 1) 1 b))))
   (decL decZnode (encL (encZnode 1) 1 (decL decZnode (encL (encZnode 1) 1 a)))) t))
   (encIntResult 1
   (decIntResult
   (encIntResult 1
   (changeOfF
   (decL decZnode (encL (encZnode 1) 1 (decL decZnode (encL (encZnode 1) 1 b))))
   (decL decZnode (encL (encZnode 1) 1 (decL decZnode (encL (encZnode 1) 1 a))))
   t))))) ∧
   ((VLe
   (encIntResult 1
   (changeOfF
   (decL decZnode (encL (encZnode 1) 1 (decL decZnode (encL (encZnode 1) 1 b))))
   (decL decZnode (encL (encZnode 1) 1 (decL decZnode (encL (encZnode 1) 1 a)))) t))
   (encIntResult 1
   (decIntResult
   (encIntResult 1
   (changeOfF
   (decL decZnode (encL (encZnode 1) 1 (decL decZnode (encL (encZnode 1) 1 b))))
   (decL decZnode (encL (encZnode 1) 1 (decL decZnode (encL (encZnode 1) 1 a))))
   t))))) ∧
   (pr33
   (decIntResult
   (encIntResult 1
   (changeOfF
   (decL decZnode (encL (encZnode 1) 1 (decL decZnode (encL (encZnode 1) 1 b))))
   (decL decZnode (encL (encZnode 1) 1 (decL decZnode (encL (encZnode 1) 1 a))))
   t)))
   (decIntResult
   (encIntResult 1
   (changeOfF
   (decL decZnode (encL (encZnode 1) 1 (decL decZnode (encL (encZnode 1) 1 b))))
   (decL decZnode (encL (encZnode 1) 1 (decL decZnode (encL (encZnode 1) 1 a))))
   t)))))) ∧
   ((((!decide
   (decIntResult
   (encIntResult 1
   (changeOfF
   (decL decZnode
   (encL (encZnode 1) 1 (decL decZnode (encL (encZnode 1) 1 b))))
   (decL decZnode
   (encL (encZnode 1) 1 (decL decZnode (encL (encZnode 1) 1 a))))
   t)) =
   decIntResult
   (encIntResult 1
   (changeOfF
   (decL decZnode
   (encL (encZnode 1) 1 (decL decZnode (encL (encZnode 1) 1 b))))
   (decL decZnode
   (encL (encZnode 1) 1 (decL decZnode (encL (encZnode 1) 1 a))))
   t)))) =
   true) →
   (VLe (V.bool false) (V.bool true))) ∧
   (((!decide
   (decIntResult
   (encIntResult 1
   (changeOfF
   (decL decZnode
   (encL (encZnode 1) 1 (decL decZnode (encL (encZnode 1) 1 b))))
   (decL decZnode
   (encL (encZnode 1) 1 (decL decZnode (encL (encZnode 1) 1 a))))
   t)) =
   decIntResult
   (encIntResult 1
   (changeOfF
   (decL decZnode
   (encL (encZnode 1) 1 (decL decZnode (encL (encZnode 1) 1 b))))
   (decL decZnode
   (encL (encZnode 1) 1 (decL decZnode (encL (encZnode 1) 1 a))))
   t)))) =
   false) →
   (((VLe (encL (encZnode 1) 1 b)
   (encL (encZnode 1) 1 (decL decZnode (encL (encZnode 1) 1 b)))) ∧
   (pr31 (decL decZnode (encL (encZnode 1) 1 b)))) ∧
   (((VLe (encL (encZnode 1) 1 (decL decZnode (encL (encZnode 1) 1 b)))
   (encL (encZnode 1) 1
   (decL decZnode (encL (encZnode 1) 1 (decL decZnode (encL (encZnode 1) 1 b)))))) ∧
   ((VLe (encL (encZnode 1) 1 (decL decZnode (encL (encZnode 1) 1 b)))
   (encL (encZnode 1) 1
   (decL decZnode (encL (encZnode 1) 1 (decL decZnode (encL (encZnode 1) 1 b)))))) ∧
   (pr34 (decL decZnode (encL (encZnode 1) 1 (decL decZnode (encL (encZnode 1) 1 b))))
   (decL decZnode (encL (encZnode 1) 1 (decL decZnode (encL (encZnode 1) 1 b))))))) ∧
   ((((!decide
   (decL decZnode (encL (encZnode 1) 1 (decL decZnode (encL (encZnode 1) 1 b))) =
   decL decZnode (encL (encZnode 1) 1 (decL decZnode (encL (encZnode 1) 1 b))))) =
   true) →
   (VLe (V.bool false) (V.bool true))) ∧
   (((!decide
   (decL decZnode (encL (encZnode 1) 1 (decL decZnode (encL (encZnode 1) 1 b))) =
   decL decZnode (encL (encZnode 1) 1 (decL decZnode (encL (encZnode 1) 1 b))))) =
   false) →
   (((VLe (encL (encZnode 1) 1 a)
   (encL (encZnode 1) 1 (decL decZnode (encL (encZnode 1) 1 a)))) ∧
   (pr31 (decL decZnode (encL (encZnode 1) 1 a)))) ∧
   (((VLe (encL (encZnode 1) 1 (decL decZnode (encL (encZnode 1) 1 a)))
   (encL (encZnode 1) 1
   (decL decZnode (encL (encZnode 1) 1 (decL decZnode (encL (encZnode 1) 1 a)))))) ∧
   ((VLe (encL (encZnode 1) 1 (decL decZnode (encL (encZnode 1) 1 a)))
   (encL (encZnode 1) 1
   (decL decZnode (encL (encZnode 1) 1 (decL decZnode (encL (encZnode 1) 1 a)))))) ∧
   (pr34 (decL decZnode (encL (encZnode 1) 1 (decL decZnode (encL (encZnode 1) 1 a))))
   (decL decZnode (encL (encZnode 1) 1 (decL decZnode (encL (encZnode 1) 1 a))))))) ∧
   ((((!decide
   (decL decZnode (encL (encZnode 1) 1 (decL decZnode (encL (encZnode 1) 1 a))) =
   decL decZnode (encL (encZnode 1) 1 (decL decZnode (encL (encZnode 1) 1 a))))) =
   true) →
   (VLe (V.bool false) (V.bool true))) ∧
   (((!decide
   (decL decZnode (encL (encZnode 1) 1 (decL decZnode (encL (encZnode 1) 1 a))) =
   decL decZnode (encL (encZnode 1) 1 (decL decZnode (encL (encZnode 1) 1 a))))) =
   false) →
   (VLe (V.bool true) (V.bool true))))))))))))))))))))))))))) := by
    obtain ⟨⟨hb, hbb⟩, ⟨ha, hab⟩, ht⟩ := hpre
    have hb' := hb
    have ha' := ha
    unfold maxLen at hb' ha'
    have f1 := @szS_bd _ szZnode b 1048576
    have f2 := szS_top szZnode_le b 1048576
    have f3 := @szS_bd _ szZnode a (szS szZnode b 1048576)
    simp only [decL_Znode]
    refine ⟨fun h => VLe.refl _, fun _ => ⟨⟨VLe.refl _, by omega, by unfold most; omega, hb, hbb⟩, fun h => VLe.refl _, fun h => ?_⟩⟩
    have g1 := of_decide_eq_false h
    have g2 := f1 g1
    refine ⟨⟨VLe.refl _, by omega, by unfold most; omega, ha, hab⟩, fun h => VLe.refl _, fun h => ?_⟩
    have g3 := of_decide_eq_false h
    have g4 := f3 g3
    have p1 : pr31 b := ⟨by unfold most; omega, fun x hx => trivial⟩
    have p2 : pr31 a := ⟨by unfold most; omega, fun x hx => trivial⟩
    have p3 : pr34 b b := ⟨hb, fun x hx y => trivial⟩
    have p4 : pr34 a a := ⟨ha, fun x hx y => trivial⟩
    clear f1 f2 f3 h
    repeat' (first | exact VLe.refl _ | exact p1 | exact p2 | exact p3 | exact p4 | exact ⟨hb, ha⟩ | exact trivial | apply And.intro | intro _)
    all_goals simp_all
  exact Eq.mp (by kernel_rfl) key
theorem so6 : Sound Tryd.prog 6 (lawD Q6) := by
  refine sound_of_body hmix (pol := 0) Tryd.func6 rfl (by kernel_rfl) fun args bin ob r bout hDe hob => ?_
  unfold lawD at hDe
  split at hDe
  · cases hDe
    obtain ⟨b, a, t, hle, hpre⟩ := hob
    have hlen : args.length = 3 := hle.1.symm
    exact ⟨rfl, rfl, by rw [hlen]; exact Nat.le_of_ble_eq_true (by kernel_rfl), cx6 b a t, Eq.mp (by kernel_rfl) htt, Eq.mp (by kernel_rfl) da6, Eq.mp (by kernel_rfl) (noM_sound (P := Tryd.prog)), by kernel_rfl, _, hle, Eq.mp (by kernel_rfl) (bd6 b a t hpre)⟩
  · cases hDe

end Go.Av
