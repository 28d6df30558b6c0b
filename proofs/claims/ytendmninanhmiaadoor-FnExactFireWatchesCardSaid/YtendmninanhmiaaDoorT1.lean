/- Trees: what is wrong with them. -/
import Derived.Test.YtendmninanhmiaaDoorS2
import Derived.Test.YtendmninanhmiaaDoorP2
namespace Go.Av
open Go.Proofs
set_option maxRecDepth 100000
set_option maxHeartbeats 2000000
set_option linter.unusedVariables false
set_option linter.unusedSimpArgs false

theorem tqI (x : Bool) : tq x := fun h _ => h
theorem inU64 {n : Int} (h : 0 ≤ n ∧ n ≤ 18446744073709551615) : inK .u64 n := Go.IntWalk.u64_in _ h
theorem half (i j : Nat) : ((i : Int) + (j : Int)).fdiv (2 ^ (Int.toNat 1)) = (((i + j) / 2 : Nat) : Int) := by
  rw [Int.fdiv_eq_ediv_of_nonneg _ (by decide)]
  show ((i : Int) + j) / 2 = _
  omega

/-! ### internal/bytealg.CompareString -/
def pr163 (a : ByteArray) (b : ByteArray) : Prop := True
noncomputable def rs163 (a : ByteArray) (b : ByteArray) : V := .int .i64 (cmpF a b)
noncomputable def sp163 : FSpec := fun args bin => match args, bin with
  | [.str a0, .str a1], [] => some (pr163 a0 a1, rs163 a0 a1, [])
  | _, _ => none
noncomputable def D163 : Nat → Option (Bool × FSpec) := lk [(170, (false, sp170))]
theorem da163 : SoundAll Tryd.prog D163 := soundAll_cons so170 (soundAll_nil)
noncomputable def cx163 (a : ByteArray) (b : ByteArray) : Cx := ⟨tt, D163, Tryd.f163.ntmps, [0, 1, 4], [], [], fun _ => none, [], noM, []⟩
theorem bd163 (a : ByteArray) (b : ByteArray) (hpre : pr163 a b) : bodyP (cx163 a b) Tryd.f163 0 [.str (a), .str (b)] (fun rr => VLe rr (rs163 a b)) := by
  have key :
      ((True) ∧
   (VLe (V.int IntKind.i64 (Lib.compareBytes (Array.toList (ByteArray.data a)) (Array.toList (ByteArray.data b))))
   (V.int IntKind.i64 (cmpF a b)))) := by
    exact ⟨trivial, VLe.refl _⟩
  exact Eq.mp (by kernel_rfl) key
theorem so163 : Sound Tryd.prog 163 sp163 := by
  refine sound_of_body hmix (pol := 0) Tryd.func163 rfl (by kernel_rfl) fun args bin ob r bout hDe hob => ?_
  unfold sp163 at hDe
  split at hDe
  · rename_i a0 a1
    cases hDe
    exact ⟨rfl, rfl, Nat.le_of_ble_eq_true (by kernel_rfl), cx163 a0 a1, Eq.mp (by kernel_rfl) htt, Eq.mp (by kernel_rfl) da163, Eq.mp (by kernel_rfl) (noM_sound (P := Tryd.prog)), by kernel_rfl, [.str (a0), .str (a1)], args_of_vles (⟨VLe.refl _, VLe.refl _, trivial⟩), Eq.mp (by kernel_rfl) (bd163 a0 a1 (hob))⟩
  · cases hDe

/-! ### strings.Compare -/
def pr147 (a : ByteArray) (b : ByteArray) : Prop := True
noncomputable def rs147 (a : ByteArray) (b : ByteArray) : V := .int .i64 (cmpF a b)
noncomputable def sp147 : FSpec := fun args bin => match args, bin with
  | [.str a0, .str a1], [] => some (pr147 a0 a1, rs147 a0 a1, [])
  | _, _ => none
noncomputable def D147 : Nat → Option (Bool × FSpec) := lk [(163, (false, sp163))]
theorem da147 : SoundAll Tryd.prog D147 := soundAll_cons so163 (soundAll_nil)
noncomputable def cx147 (a : ByteArray) (b : ByteArray) : Cx := ⟨tt, D147, Tryd.f147.ntmps, [0, 1, 4], [], [], fun _ => none, [], noM, []⟩
theorem bd147 (a : ByteArray) (b : ByteArray) (hpre : pr147 a b) : bodyP (cx147 a b) Tryd.f147 0 [.str (a), .str (b)] (fun rr => VLe rr (rs147 a b)) := by
  have key :
      ((pr163 a b) ∧
   (VLe (V.int IntKind.i64 (cmpF a b)) (V.int IntKind.i64 (cmpF a b)))) := by
    exact ⟨trivial, VLe.refl _⟩
  exact Eq.mp (by kernel_rfl) key
theorem so147 : Sound Tryd.prog 147 sp147 := by
  refine sound_of_body hmix (pol := 0) Tryd.func147 rfl (by kernel_rfl) fun args bin ob r bout hDe hob => ?_
  unfold sp147 at hDe
  split at hDe
  · rename_i a0 a1
    cases hDe
    exact ⟨rfl, rfl, Nat.le_of_ble_eq_true (by kernel_rfl), cx147 a0 a1, Eq.mp (by kernel_rfl) htt, Eq.mp (by kernel_rfl) da147, Eq.mp (by kernel_rfl) (noM_sound (P := Tryd.prog)), by kernel_rfl, [.str (a0), .str (a1)], args_of_vles (⟨VLe.refl _, VLe.refl _, trivial⟩), Eq.mp (by kernel_rfl) (bd147 a0 a1 (hob))⟩
  · cases hDe

/-! ### impl.pathOrder -/
def pr130 (z : Znode) (t : ByteArray) : Prop := True
noncomputable def rs130 (z : Znode) (t : ByteArray) : V := .int .i64 (cmpF z.path t)
noncomputable def sp130 : FSpec := fun args bin => match args, bin with
  | [a0, .str a1], [] => some (VLe a0 (encZnode 1 ((decZnode a0))) ∧ pr130 (decZnode a0) a1, rs130 (decZnode a0) a1, [])
  | _, _ => none
noncomputable def D130 : Nat → Option (Bool × FSpec) := lk [(147, (false, sp147))]
theorem da130 : SoundAll Tryd.prog D130 := soundAll_cons so147 (soundAll_nil)
noncomputable def cx130 (z : Znode) (t : ByteArray) : Cx := ⟨tt, D130, Tryd.f130.ntmps, [0, 1, 2, 4], [], [], fun _ => none, [], noM, []⟩
theorem bd130 (z : Znode) (t : ByteArray) (hpre : pr130 z t) : bodyP (cx130 z t) Tryd.f130 0 [encZnode 1 (z), .str (t)] (fun rr => VLe rr (rs130 z t)) := by
  have key :
      ((pr147 (Znode.path z) t) ∧
   (VLe (V.int IntKind.i64 (cmpF (Znode.path z) t)) (V.int IntKind.i64 (cmpF (Znode.path z) t)))) := by
    exact ⟨trivial, VLe.refl _⟩
  exact Eq.mp (by kernel_rfl) key
theorem so130 : Sound Tryd.prog 130 sp130 := by
  refine sound_of_body hmix (pol := 0) Tryd.func130 rfl (by kernel_rfl) fun args bin ob r bout hDe hob => ?_
  unfold sp130 at hDe
  split at hDe
  · rename_i a0 a1
    cases hDe
    exact ⟨rfl, rfl, Nat.le_of_ble_eq_true (by kernel_rfl), cx130 (decZnode a0) a1, Eq.mp (by kernel_rfl) htt, Eq.mp (by kernel_rfl) da130, Eq.mp (by kernel_rfl) (noM_sound (P := Tryd.prog)), by kernel_rfl, [encZnode 1 ((decZnode a0)), .str (a1)], args_of_vles (⟨hob.1, VLe.refl _, trivial⟩), Eq.mp (by kernel_rfl) (bd130 (decZnode a0) a1 (hob.2))⟩
  · cases hDe

/-! ### slices.BinarySearchFunc(()loop.example/g00369/impl.Znode,loop.example/g00369/impl.Znode,string)@impl.pathOrder -/
def pr129_130 (l : List Znode) (t : ByteArray) : Prop := rising l ∧ l.length ≤ 1000
noncomputable def rs129_130 (l : List Znode) (t : ByteArray) : V := .tup [.int .i64 (posZ l t), .bool (isZ l t)]
noncomputable def sp129_130 : FSpec := fun args bin => match args, bin with
  | [a0, .str a1, .fn 130 []], [] => some (VLe a0 (encL (encZnode 1) 1 (((decL decZnode) a0))) ∧ pr129_130 ((decL decZnode) a0) a1, rs129_130 ((decL decZnode) a0) a1, [])
  | _, _ => none
noncomputable def in129_130_3 (l : List Znode) (t : ByteArray) : LoopInv :=
  ⟨Nat × Nat, fun p => ⟨[(0, encL (encZnode 1) 1 l), (1, .str t), (2, .fn 130 []), (8, .int .i64 l.length), (9, .int .i64 p.1), (10, .int .i64 p.2)], []⟩,
    fun p => p.1 ≤ p.2 ∧ p.2 ≤ l.length ∧ (∀ k, k < p.1 → lt (atZ l k).path t) ∧ (p.2 < l.length → ¬ lt (atZ l p.2).path t), fun p => p.2 - p.1⟩
noncomputable def iv129_130 (l : List Znode) (t : ByteArray) : Nat → Option LoopInv := fun rg_ => match rg_ with
  | 3 => some (in129_130_3 l t)
  | _ => none
noncomputable def D129_130 : Nat → Option (Bool × FSpec) := lk [(130, (false, sp130))]
theorem da129_130 : SoundAll Tryd.prog D129_130 := soundAll_cons so130 (soundAll_nil)
noncomputable def cx129_130 (l : List Znode) (t : ByteArray) : Cx := ⟨tt, D129_130, Tryd.f129.ntmps, [0, 1, 2, 6, 7, 8, 9, 10, 11, 17, 31], [(3, ⟨[(0, none), (1, none), (2, none), (8, none), (9, none), (10, none)], []⟩)], [], iv129_130 l t, [], noM, []⟩
theorem bd129_130 (l : List Znode) (t : ByteArray) (hpre : pr129_130 l t) : bodyP (cx129_130 l t) Tryd.f129 0 [encL (encZnode 1) 1 (l), .str (t), .fn 130 []] (fun rr => VLe rr (rs129_130 l t)) := by
  have key :
      ((∃ x : Nat × Nat, ((SLe
   (AS.mk
   [(0, encL (encZnode 1) 1 l), (1, V.str t), (2, V.fn (130 : FuncId) []),
   (8, V.int IntKind.i64 (↑(List.length l) : Int)), (9, V.int IntKind.i64 (0 : Int)),
   (10, V.int IntKind.i64 (↑(List.length l) : Int))]
   [])
   (AS.mk
   [(0, encL (encZnode 1) 1 l), (1, V.str t), (2, V.fn (130 : FuncId) []),
   (8, V.int IntKind.i64 (↑(List.length l) : Int)), (9, V.int IntKind.i64 (↑(Prod.fst x) : Int)),
   (10, V.int IntKind.i64 (↑(Prod.snd x) : Int))]
   [])) ∧
   ((Prod.fst x ≤ Prod.snd x) ∧
   ((Prod.snd x ≤ List.length l) ∧
   ((∀ k : Nat,
   ((k < Prod.fst x) →
   (lt (Znode.path (atZ l k)) t))) ∧
   ((Prod.snd x < List.length l) →
   (¬lt (Znode.path (atZ l (Prod.snd x))) t))))))) ∧
   (∀ x : Nat × Nat,
   (((Prod.fst x ≤ Prod.snd x) ∧
   ((Prod.snd x ≤ List.length l) ∧
   ((∀ k : Nat,
   ((k < Prod.fst x) →
   (lt (Znode.path (atZ l k)) t))) ∧
   ((Prod.snd x < List.length l) →
   (¬lt (Znode.path (atZ l (Prod.snd x))) t))))) →
   (((decide ((↑(Prod.fst x) : Int) < (↑(Prod.snd x) : Int)) = true) →
   ((inK IntKind.i64 ((↑(Prod.fst x) : Int) + (↑(Prod.snd x) : Int))) ∧
   ((inK IntKind.u64 ((↑(Prod.fst x) : Int) + (↑(Prod.snd x) : Int))) ∧
   ((((0 : Int) ≤ (1 : Int)) ∧
   (Int.toNat (1 : Int) ≤ IntKind.bits IntKind.u64)) ∧
   ((inK IntKind.i64 (Int.fdiv ((↑(Prod.fst x) : Int) + (↑(Prod.snd x) : Int)) ((2 : Int) ^ Int.toNat (1 : Int)))) ∧
   ((((0 : Int) ≤ Int.fdiv ((↑(Prod.fst x) : Int) + (↑(Prod.snd x) : Int)) ((2 : Int) ^ Int.toNat (1 : Int))) ∧
   (Int.fdiv ((↑(Prod.fst x) : Int) + (↑(Prod.snd x) : Int)) ((2 : Int) ^ Int.toNat (1 : Int)) < (↑(List.length l) : Int))) ∧
   (((VLe
   (encZnode 1
   (List.getD l
   (Int.toNat (Int.fdiv ((↑(Prod.fst x) : Int) + (↑(Prod.snd x) : Int)) ((2 : Int) ^ Int.toNat (1 : Int)))) default))
   (encZnode 1
   (decZnode
   (encZnode 1
   (List.getD l
   (Int.toNat (Int.fdiv ((↑(Prod.fst x) : Int) + (↑(Prod.snd x) : Int)) ((2 : Int) ^ Int.toNat (1 : Int))))
   default))))) ∧
   (pr130
   (decZnode
   (encZnode 1
   (List.getD l
   (Int.toNat (Int.fdiv ((↑(Prod.fst x) : Int) + (↑(Prod.snd x) : Int)) ((2 : Int) ^ Int.toNat (1 : Int))))
   default)))
   t)) ∧
   (((decide
   (cmpF
   (Znode.path
   (decZnode
   (encZnode 1
   (List.getD l
   (Int.toNat (Int.fdiv ((↑(Prod.fst x) : Int) + (↑(Prod.snd x) : Int)) ((2 : Int) ^ Int.toNat (1 : Int))))
   default))))
   t <
   (0 : Int)) =
   true) →
   ((inK IntKind.i64 (Int.fdiv ((↑(Prod.fst x) : Int) + (↑(Prod.snd x) : Int)) ((2 : Int) ^ Int.toNat (1 : Int)) + (1 : Int))) ∧
   (∃ y : Nat × Nat, ((SLe
   (AS.mk
   [(0, encL (encZnode 1) 1 l), (1, V.str t), (2, V.fn (130 : FuncId) []),
   (8, V.int IntKind.i64 (↑(List.length l) : Int)),
   (9,
   V.int IntKind.i64
   (Int.fdiv ((↑(Prod.fst x) : Int) + (↑(Prod.snd x) : Int)) ((2 : Int) ^ Int.toNat (1 : Int)) + (1 : Int))),
   (10, V.int IntKind.i64 (↑(Prod.snd x) : Int))]
   [])
   (AS.mk
   [(0, encL (encZnode 1) 1 l), (1, V.str t), (2, V.fn (130 : FuncId) []),
   (8, V.int IntKind.i64 (↑(List.length l) : Int)), (9, V.int IntKind.i64 (↑(Prod.fst y) : Int)),
   (10, V.int IntKind.i64 (↑(Prod.snd y) : Int))]
   [])) ∧
   (((Prod.fst y ≤ Prod.snd y) ∧
   ((Prod.snd y ≤ List.length l) ∧
   ((∀ k : Nat,
   ((k < Prod.fst y) →
   (lt (Znode.path (atZ l k)) t))) ∧
   ((Prod.snd y < List.length l) →
   (¬lt (Znode.path (atZ l (Prod.snd y))) t))))) ∧
   (Prod.snd y - Prod.fst y < Prod.snd x - Prod.fst x)))))) ∧
   ((decide
   (cmpF
   (Znode.path
   (decZnode
   (encZnode 1
   (List.getD l
   (Int.toNat (Int.fdiv ((↑(Prod.fst x) : Int) + (↑(Prod.snd x) : Int)) ((2 : Int) ^ Int.toNat (1 : Int))))
   default))))
   t <
   (0 : Int)) =
   false) →
   (∃ y : Nat × Nat, ((SLe
   (AS.mk
   [(0, encL (encZnode 1) 1 l), (1, V.str t), (2, V.fn (130 : FuncId) []),
   (8, V.int IntKind.i64 (↑(List.length l) : Int)), (9, V.int IntKind.i64 (↑(Prod.fst x) : Int)),
   (10,
   V.int IntKind.i64 (Int.fdiv ((↑(Prod.fst x) : Int) + (↑(Prod.snd x) : Int)) ((2 : Int) ^ Int.toNat (1 : Int))))]
   [])
   (AS.mk
   [(0, encL (encZnode 1) 1 l), (1, V.str t), (2, V.fn (130 : FuncId) []),
   (8, V.int IntKind.i64 (↑(List.length l) : Int)), (9, V.int IntKind.i64 (↑(Prod.fst y) : Int)),
   (10, V.int IntKind.i64 (↑(Prod.snd y) : Int))]
   [])) ∧
   (((Prod.fst y ≤ Prod.snd y) ∧
   ((Prod.snd y ≤ List.length l) ∧
   ((∀ k : Nat,
   ((k < Prod.fst y) →
   (lt (Znode.path (atZ l k)) t))) ∧
   ((Prod.snd y < List.length l) →
   (¬lt (Znode.path (atZ l (Prod.snd y))) t))))) ∧
   (Prod.snd y - Prod.fst y < Prod.snd x - Prod.fst x))))))))))))) ∧
   ((decide ((↑(Prod.fst x) : Int) < (↑(Prod.snd x) : Int)) = false) →
   ((tq (decide ((↑(Prod.fst x) : Int) < (↑(List.length l) : Int)))) ∧
   ((tq (decide ((↑(Prod.fst x) : Int) < (↑(List.length l) : Int)))) ∧
   (((decide ((↑(Prod.fst x) : Int) < (↑(List.length l) : Int)) = true) →
   (((0 : Int) ≤ (↑(Prod.fst x) : Int)) ∧
   ((↑(Prod.fst x) : Int) < (↑(List.length l) : Int)))) ∧
   ((tq (decide ((↑(Prod.fst x) : Int) < (↑(List.length l) : Int)))) ∧
   ((tq (decide ((↑(Prod.fst x) : Int) < (↑(List.length l) : Int)))) ∧
   ((tq (decide ((↑(Prod.fst x) : Int) < (↑(List.length l) : Int)))) ∧
   ((tq (decide ((↑(Prod.fst x) : Int) < (↑(List.length l) : Int)))) ∧
   (((decide ((↑(Prod.fst x) : Int) < (↑(List.length l) : Int)) = true) →
   ((VLe (encZnode 1 (List.getD l (Int.toNat (↑(Prod.fst x) : Int)) default))
   (encZnode 1 (decZnode (encZnode 1 (List.getD l (Int.toNat (↑(Prod.fst x) : Int)) default))))) ∧
   (pr130 (decZnode (encZnode 1 (List.getD l (Int.toNat (↑(Prod.fst x) : Int)) default))) t))) ∧
   ((tq (decide ((↑(Prod.fst x) : Int) < (↑(List.length l) : Int)))) ∧
   (((true = true) →
   ((decide ((↑(Prod.fst x) : Int) < (↑(List.length l) : Int)) = true) →
   (decide ((↑(Prod.fst x) : Int) < (↑(List.length l) : Int)) = true))) ∧
   (∀ b : Bool,
   ((b =
   bif decide ((↑(Prod.fst x) : Int) < (↑(List.length l) : Int)) then
   cmpF (Znode.path (decZnode (encZnode 1 (List.getD l (Int.toNat (↑(Prod.fst x) : Int)) default)))) t ==
   (0 : Int)
   else false) →
   (VLe (V.tup [V.int IntKind.i64 (↑(Prod.fst x) : Int), V.bool b])
   (V.tup [V.int IntKind.i64 (↑(posZ l t) : Int), V.bool (isZ l t)]))))))))))))))))))) := by
    obtain ⟨hr, hl⟩ := hpre
    simp only [dec_encZnode, half]
    refine ⟨⟨(0, l.length), SLe.refl _, by simp, by simp, fun k hk => absurd hk (Nat.not_lt_zero k), fun h => absurd h (Nat.lt_irrefl _)⟩, ?_⟩
    rintro ⟨i, j⟩ ⟨h1, h2, h3, h4⟩
    simp only at h1 h2 h3 h4 ⊢
    refine ⟨fun h => ?_, fun h => ?_⟩
    · have hlt : i < j := by have := of_decide_eq_true h; omega
      have m1 : i ≤ (i + j) / 2 ∧ (i + j) / 2 < j := by omega
      have m2 : i + j ≤ 2000 := by omega
      generalize (i + j) / 2 = m at *
      simp only [Int.toNat_natCast]
      refine ⟨inK64 (by omega), inU64 (by omega), by decide, inK64 (by omega), ⟨by omega, by omega⟩, ⟨VLe.refl _, trivial⟩, fun h5 => ?_, fun h5 => ?_⟩
      · have h6 : lt (atZ l m).path t := (cmpF_lt _ _).1 (of_decide_eq_true h5)
        refine ⟨inK64 (by omega), (m + 1, j), SLe.refl _, ⟨by simp only; omega, h2, fun k hk => ?_, h4⟩, by simp only; omega⟩
        by_cases e : k = m
        · subst e; exact h6
        · exact lt_trans (hr k m (by simp only at hk; omega) (by omega)) h6
      · have h6 : ¬ lt (atZ l m).path t := fun g => of_decide_eq_false h5 ((cmpF_lt _ _).2 g)
        exact ⟨(i, m), SLe.refl _, ⟨by simp only; omega, by simp only; omega, h3, fun _ => h6⟩, by simp only; omega⟩
    · have hij : i = j := by have := of_decide_eq_false h; omega
      subst hij
      have hp : posZ l t = i := posZ_eq h2 h3 h4
      repeat (first | (refine And.intro (fun h _ => h) ?_) | (refine And.intro (fun _ h => h) ?_) | (refine And.intro ?aa ?_; case aa => (exact (tqI _))) | (refine And.intro ?aa ?_; case aa => (exact (fun h => ⟨by omega, by have := of_decide_eq_true h; omega⟩))) | (refine And.intro ?aa ?_; case aa => (exact fun _ => ⟨VLe.refl _, trivial⟩)) | (refine And.intro ?aa ?_; case aa => (intros; simp_all [pr130]; done)) | (refine And.intro ?aa ?_; case aa => (intros; exact inK64 (by omega))) | (refine And.intro ?aa ?_; case aa => (intros; simp only [decide_eq_true_eq] at *; omega)) | (intro q hq))
      refine vle_tup ⟨vle_int (by rw [hp]), vle_bool ?_, trivial⟩
      rw [hq]
      unfold isZ
      rw [hp, Bool.eq_iff_iff, decide_eq_true_eq]
      by_cases a1 : i < l.length
      · have a2 : decide ((i : Int) < (l.length : Int)) = true := decide_eq_true (by omega)
        rw [a2]
        simp only [cond_true, beq_iff_eq, cmpF_eq, Int.toNat_natCast, a1, true_and]
      · have a2 : decide ((i : Int) < (l.length : Int)) = false := decide_eq_false (by omega)
        rw [a2]
        simp [a1]
  exact Eq.mp (by kernel_rfl) key
theorem so129_130 : Sound Tryd.prog 129 sp129_130 := by
  refine sound_of_body hmix (pol := 0) Tryd.func129 rfl (by kernel_rfl) fun args bin ob r bout hDe hob => ?_
  unfold sp129_130 at hDe
  split at hDe
  · rename_i a0 a1
    cases hDe
    exact ⟨rfl, rfl, Nat.le_of_ble_eq_true (by kernel_rfl), cx129_130 ((decL decZnode) a0) a1, Eq.mp (by kernel_rfl) htt, Eq.mp (by kernel_rfl) da129_130, Eq.mp (by kernel_rfl) (noM_sound (P := Tryd.prog)), by kernel_rfl, [encL (encZnode 1) 1 (((decL decZnode) a0)), .str (a1), .fn 130 []], args_of_vles (⟨hob.1, VLe.refl _, VLe.refl _, trivial⟩), Eq.mp (by kernel_rfl) (bd129_130 ((decL decZnode) a0) a1 (hob.2))⟩
  · cases hDe

/-! ### impl.find -/
def pr106 (l : List Znode) (t : ByteArray) : Prop := rising l ∧ l.length ≤ 1000
noncomputable def rs106 (l : List Znode) (t : ByteArray) : V := .tup [.int .i64 (posZ l t), .bool (isZ l t)]
noncomputable def sp106 : FSpec := fun args bin => match args, bin with
  | [a0, .str a1], [] => some (VLe a0 (encL (encZnode 1) 1 (((decL decZnode) a0))) ∧ pr106 ((decL decZnode) a0) a1, rs106 ((decL decZnode) a0) a1, [])
  | _, _ => none
noncomputable def D106 : Nat → Option (Bool × FSpec) := lk [(129, (false, sp129_130))]
theorem da106 : SoundAll Tryd.prog D106 := soundAll_cons so129_130 (soundAll_nil)
noncomputable def cx106 (l : List Znode) (t : ByteArray) : Cx := ⟨tt, D106, Tryd.f106.ntmps, [0, 1, 4, 5], [], [], fun _ => none, [], noM, []⟩
theorem bd106 (l : List Znode) (t : ByteArray) (hpre : pr106 l t) : bodyP (cx106 l t) Tryd.f106 0 [encL (encZnode 1) 1 (l), .str (t)] (fun rr => VLe rr (rs106 l t)) := by
  have key :
      (((VLe (encL (encZnode 1) 1 l)
   (encL (encZnode 1) 1 (decL decZnode (encL (encZnode 1) 1 l)))) ∧
   (pr129_130 (decL decZnode (encL (encZnode 1) 1 l)) t)) ∧
   (VLe
   (V.tup
   [V.int IntKind.i64 (↑(posZ (decL decZnode (encL (encZnode 1) 1 l)) t) : Int),
   V.bool (isZ (decL decZnode (encL (encZnode 1) 1 l)) t)])
   (V.tup [V.int IntKind.i64 (↑(posZ l t) : Int), V.bool (isZ l t)]))) := by
    simp only [decL_Znode]
    exact ⟨⟨VLe.refl _, hpre⟩, VLe.refl _⟩
  exact Eq.mp (by kernel_rfl) key
theorem so106 : Sound Tryd.prog 106 sp106 := by
  refine sound_of_body hmix (pol := 0) Tryd.func106 rfl (by kernel_rfl) fun args bin ob r bout hDe hob => ?_
  unfold sp106 at hDe
  split at hDe
  · rename_i a0 a1
    cases hDe
    exact ⟨rfl, rfl, Nat.le_of_ble_eq_true (by kernel_rfl), cx106 ((decL decZnode) a0) a1, Eq.mp (by kernel_rfl) htt, Eq.mp (by kernel_rfl) da106, Eq.mp (by kernel_rfl) (noM_sound (P := Tryd.prog)), by kernel_rfl, [encL (encZnode 1) 1 (((decL decZnode) a0)), .str (a1)], args_of_vles (⟨hob.1, VLe.refl _, trivial⟩), Eq.mp (by kernel_rfl) (bd106 ((decL decZnode) a0) a1 (hob.2))⟩
  · cases hDe

/-! ### impl.isData -/
def pr133 (n : Int) : Prop := True
noncomputable def rs133 (n : Int) : V := .bool (decide (inR n 0 9999))
noncomputable def sp133 : FSpec := fun args bin => match args, bin with
  | [.int .i64 a0], [] => some (pr133 a0, rs133 a0, [])
  | _, _ => none
noncomputable def D133 : Nat → Option (Bool × FSpec) := lk [(56, (false, sp56))]
theorem da133 : SoundAll Tryd.prog D133 := soundAll_cons so56 (soundAll_nil)
noncomputable def cx133 (n : Int) : Cx := ⟨tt, D133, Tryd.f133.ntmps, [0, 2], [], [], fun _ => none, [], noM, []⟩
theorem bd133 (n : Int) (hpre : pr133 n) : bodyP (cx133 n) Tryd.f133 0 [.int .i64 (n)] (fun rr => VLe rr (rs133 n)) := by
  have key :
      ((pr56 n (0 : Int) (9999 : Int)) ∧
   (VLe (V.bool (decide (inR n (0 : Int) (9999 : Int)))) (V.bool (decide (inR n (0 : Int) (9999 : Int)))))) := by
    exact ⟨trivial, VLe.refl _⟩
  exact Eq.mp (by kernel_rfl) key
theorem so133 : Sound Tryd.prog 133 sp133 := by
  refine sound_of_body hmix (pol := 0) Tryd.func133 rfl (by kernel_rfl) fun args bin ob r bout hDe hob => ?_
  unfold sp133 at hDe
  split at hDe
  · rename_i a0
    cases hDe
    exact ⟨rfl, rfl, Nat.le_of_ble_eq_true (by kernel_rfl), cx133 a0, Eq.mp (by kernel_rfl) htt, Eq.mp (by kernel_rfl) da133, Eq.mp (by kernel_rfl) (noM_sound (P := Tryd.prog)), by kernel_rfl, [.int .i64 (a0)], args_of_vles (⟨VLe.refl _, trivial⟩), Eq.mp (by kernel_rfl) (bd133 a0 (hob))⟩
  · cases hDe

/-! ### impl.isOwner -/
def pr134 (n : Int) : Prop := True
noncomputable def rs134 (n : Int) : V := .bool (decide (inR n 0 9))
noncomputable def sp134 : FSpec := fun args bin => match args, bin with
  | [.int .i64 a0], [] => some (pr134 a0, rs134 a0, [])
  | _, _ => none
noncomputable def D134 : Nat → Option (Bool × FSpec) := lk [(56, (false, sp56))]
theorem da134 : SoundAll Tryd.prog D134 := soundAll_cons so56 (soundAll_nil)
noncomputable def cx134 (n : Int) : Cx := ⟨tt, D134, Tryd.f134.ntmps, [0, 2], [], [], fun _ => none, [], noM, []⟩
theorem bd134 (n : Int) (hpre : pr134 n) : bodyP (cx134 n) Tryd.f134 0 [.int .i64 (n)] (fun rr => VLe rr (rs134 n)) := by
  have key :
      ((pr56 n (0 : Int) (9 : Int)) ∧
   (VLe (V.bool (decide (inR n (0 : Int) (9 : Int)))) (V.bool (decide (inR n (0 : Int) (9 : Int)))))) := by
    exact ⟨trivial, VLe.refl _⟩
  exact Eq.mp (by kernel_rfl) key
theorem so134 : Sound Tryd.prog 134 sp134 := by
  refine sound_of_body hmix (pol := 0) Tryd.func134 rfl (by kernel_rfl) fun args bin ob r bout hDe hob => ?_
  unfold sp134 at hDe
  split at hDe
  · rename_i a0
    cases hDe
    exact ⟨rfl, rfl, Nat.le_of_ble_eq_true (by kernel_rfl), cx134 a0, Eq.mp (by kernel_rfl) htt, Eq.mp (by kernel_rfl) da134, Eq.mp (by kernel_rfl) (noM_sound (P := Tryd.prog)), by kernel_rfl, [.int .i64 (a0)], args_of_vles (⟨VLe.refl _, trivial⟩), Eq.mp (by kernel_rfl) (bd134 a0 (hob))⟩
  · cases hDe

/-! ### spec.l2Data -/
def pr99 (n : Int) : Prop := True
noncomputable def rs99 (n : Int) : V := .bool (decide (inR n 0 9999))
noncomputable def sp99 : FSpec := fun args bin => match args, bin with
  | [.int .i64 a0], [] => some (pr99 a0, rs99 a0, [])
  | _, _ => none
noncomputable def D99 : Nat → Option (Bool × FSpec) := lk [(54, (false, sp54))]
theorem da99 : SoundAll Tryd.prog D99 := soundAll_cons so54 (soundAll_nil)
noncomputable def cx99 (n : Int) : Cx := ⟨tt, D99, Tryd.f99.ntmps, [0, 2], [], [], fun _ => none, [], noM, []⟩
theorem bd99 (n : Int) (hpre : pr99 n) : bodyP (cx99 n) Tryd.f99 0 [.int .i64 (n)] (fun rr => VLe rr (rs99 n)) := by
  have key :
      ((pr54 n (0 : Int) (9999 : Int)) ∧
   (VLe (V.bool (decide (inR n (0 : Int) (9999 : Int)))) (V.bool (decide (inR n (0 : Int) (9999 : Int)))))) := by
    exact ⟨trivial, VLe.refl _⟩
  exact Eq.mp (by kernel_rfl) key
theorem so99 : Sound Tryd.prog 99 sp99 := by
  refine sound_of_body hmix (pol := 0) Tryd.func99 rfl (by kernel_rfl) fun args bin ob r bout hDe hob => ?_
  unfold sp99 at hDe
  split at hDe
  · rename_i a0
    cases hDe
    exact ⟨rfl, rfl, Nat.le_of_ble_eq_true (by kernel_rfl), cx99 a0, Eq.mp (by kernel_rfl) htt, Eq.mp (by kernel_rfl) da99, Eq.mp (by kernel_rfl) (noM_sound (P := Tryd.prog)), by kernel_rfl, [.int .i64 (a0)], args_of_vles (⟨VLe.refl _, trivial⟩), Eq.mp (by kernel_rfl) (bd99 a0 (hob))⟩
  · cases hDe

/-! ### spec.l2Owner -/
def pr100 (n : Int) : Prop := True
noncomputable def rs100 (n : Int) : V := .bool (decide (inR n 0 9))
noncomputable def sp100 : FSpec := fun args bin => match args, bin with
  | [.int .i64 a0], [] => some (pr100 a0, rs100 a0, [])
  | _, _ => none
noncomputable def D100 : Nat → Option (Bool × FSpec) := lk [(54, (false, sp54))]
theorem da100 : SoundAll Tryd.prog D100 := soundAll_cons so54 (soundAll_nil)
noncomputable def cx100 (n : Int) : Cx := ⟨tt, D100, Tryd.f100.ntmps, [0, 2], [], [], fun _ => none, [], noM, []⟩
theorem bd100 (n : Int) (hpre : pr100 n) : bodyP (cx100 n) Tryd.f100 0 [.int .i64 (n)] (fun rr => VLe rr (rs100 n)) := by
  have key :
      ((pr54 n (0 : Int) (9 : Int)) ∧
   (VLe (V.bool (decide (inR n (0 : Int) (9 : Int)))) (V.bool (decide (inR n (0 : Int) (9 : Int)))))) := by
    exact ⟨trivial, VLe.refl _⟩
  exact Eq.mp (by kernel_rfl) key
theorem so100 : Sound Tryd.prog 100 sp100 := by
  refine sound_of_body hmix (pol := 0) Tryd.func100 rfl (by kernel_rfl) fun args bin ob r bout hDe hob => ?_
  unfold sp100 at hDe
  split at hDe
  · rename_i a0
    cases hDe
    exact ⟨rfl, rfl, Nat.le_of_ble_eq_true (by kernel_rfl), cx100 a0, Eq.mp (by kernel_rfl) htt, Eq.mp (by kernel_rfl) da100, Eq.mp (by kernel_rfl) (noM_sound (P := Tryd.prog)), by kernel_rfl, [.int .i64 (a0)], args_of_vles (⟨VLe.refl _, trivial⟩), Eq.mp (by kernel_rfl) (bd100 a0 (hob))⟩
  · cases hDe

/-! ### impl.nodeFault -/
def pr113 (z : Znode) : Prop := True
noncomputable def rs113 (z : Znode) : V := .int .i64 (nodeF z)
noncomputable def sp113 : FSpec := fun args bin => match args, bin with
  | [a0], [] => some (VLe a0 (encZnode 1 ((decZnode a0))) ∧ pr113 (decZnode a0), rs113 (decZnode a0), [])
  | _, _ => none
noncomputable def D113 : Nat → Option (Bool × FSpec) := lk [(72, (false, sp72)), (133, (false, sp133)), (56, (false, sp56)), (134, (false, sp134))]
theorem da113 : SoundAll Tryd.prog D113 := soundAll_cons so72 (soundAll_cons so133 (soundAll_cons so56 (soundAll_cons so134 (soundAll_nil))))
noncomputable def cx113 (z : Znode) : Cx := ⟨tt, D113, Tryd.f113.ntmps, [0, 1, 2, 3, 8, 31], [], [], fun _ => none, [], noM, []⟩
theorem bd113 (z : Znode) (hpre : pr113 z) : bodyP (cx113 z) Tryd.f113 0 [encZnode 1 (z)] (fun rr => VLe rr (rs113 z)) := by
  have key :
      ((pr72 (Znode.path z)) ∧
   ((((pathF (Znode.path z) != (0 : Int)) = true) →
   (VLe (V.int IntKind.i64 (pathF (Znode.path z))) (V.int IntKind.i64 (nodeF z)))) ∧
   (((pathF (Znode.path z) != (0 : Int)) = false) →
   ((pr133 (Znode.data z)) ∧
   ((tq (!!decide (inR (Znode.data z) (0 : Int) (9999 : Int)))) ∧
   ((tq (!!decide (inR (Znode.data z) (0 : Int) (9999 : Int)))) ∧
   ((((!!decide (inR (Znode.data z) (0 : Int) (9999 : Int))) = true) →
   (pr56 (Znode.version z) (0 : Int) (999 : Int))) ∧
   ((tq (!!decide (inR (Znode.data z) (0 : Int) (9999 : Int)))) ∧
   (((true = true) →
   (((!decide (inR (Znode.data z) (0 : Int) (9999 : Int))) = false) →
   ((!!decide (inR (Znode.data z) (0 : Int) (9999 : Int))) = true))) ∧
   (∀ b : Bool,
   ((b =
   bif !decide (inR (Znode.data z) (0 : Int) (9999 : Int)) then true
   else !decide (inR (Znode.version z) (0 : Int) (999 : Int))) →
   ((tq (!b)) ∧
   ((tq (!b)) ∧
   ((((!b) = true) →
   (pr134 (Znode.owner z))) ∧
   ((tq (!b)) ∧
   (((true = true) →
   ((b = false) →
   ((!b) = true))) ∧
   (∀ b_1 : Bool,
   ((b_1 = bif b then true else !decide (inR (Znode.owner z) (0 : Int) (9 : Int))) →
   ((tq (!b_1)) ∧
   ((tq (!b_1)) ∧
   ((((!b_1) = true) →
   (pr56 (Znode.next z) (0 : Int) (100 : Int))) ∧
   ((tq (!b_1)) ∧
   (((true = true) →
   ((b_1 = false) →
   ((!b_1) = true))) ∧
   (∀ b_2 : Bool,
   ((b_2 = bif b_1 then true else !decide (inR (Znode.next z) (0 : Int) (100 : Int))) →
   (((b_2 = true) →
   (VLe (V.int IntKind.i64 (3 : Int)) (V.int IntKind.i64 (nodeF z)))) ∧
   ((b_2 = false) →
   (VLe (V.int IntKind.i64 (0 : Int)) (V.int IntKind.i64 (nodeF z)))))))))))))))))))))))))))))) := by
    refine ⟨trivial, fun h => vle_int ?_, fun h => ?_⟩
    · have h1 : pathF z.path ≠ 0 := by simpa using h
      unfold nodeF
      rw [if_pos h1]
    have h1 : ¬ pathF z.path ≠ 0 := by simpa using h
    refine ⟨trivial, ?_⟩
    repeat (first | (refine And.intro (fun h _ => h) ?_) | (refine And.intro (fun _ h => h) ?_) | (refine And.intro ?aa ?_; case aa => (exact (tqI _))) | (refine And.intro ?aa ?_; case aa => (exact trivial)) | (refine And.intro ?aa ?_; case aa => (exact fun _ => trivial)) | (refine And.intro ?aa ?_; case aa => (intros; simp_all [pr72, pr133, pr56, pr134]; done)) | (refine And.intro ?aa ?_; case aa => (intros; exact inK64 (by omega))) | (refine And.intro ?aa ?_; case aa => (intros; simp only [decide_eq_true_eq] at *; omega)) | (intro q hq))
    have e0 : q = decide (¬ (inR z.data 0 9999 ∧ inR z.version 0 999 ∧ inR z.owner 0 9 ∧ inR z.next 0 100)) := by
      subst_vars
      rw [Bool.eq_iff_iff, decide_eq_true_eq]
      by_cases a1 : inR z.data 0 9999 <;> by_cases a2 : inR z.version 0 999 <;> by_cases a3 : inR z.owner 0 9 <;> by_cases a4 : inR z.next 0 100 <;> simp [a1, a2, a3, a4]
    clear hq
    rw [e0]
    refine ⟨fun h2 => vle_int ?_, fun h2 => vle_int ?_⟩
    · unfold nodeF
      rw [if_neg h1, if_pos (of_decide_eq_true h2)]
    · unfold nodeF
      rw [if_neg h1, if_neg (of_decide_eq_false h2)]
  exact Eq.mp (by kernel_rfl) key
theorem so113 : Sound Tryd.prog 113 sp113 := by
  refine sound_of_body hmix (pol := 0) Tryd.func113 rfl (by kernel_rfl) fun args bin ob r bout hDe hob => ?_
  unfold sp113 at hDe
  split at hDe
  · rename_i a0
    cases hDe
    exact ⟨rfl, rfl, Nat.le_of_ble_eq_true (by kernel_rfl), cx113 (decZnode a0), Eq.mp (by kernel_rfl) htt, Eq.mp (by kernel_rfl) da113, Eq.mp (by kernel_rfl) (noM_sound (P := Tryd.prog)), by kernel_rfl, [encZnode 1 ((decZnode a0))], args_of_vles (⟨hob.1, trivial⟩), Eq.mp (by kernel_rfl) (bd113 (decZnode a0) (hob.2))⟩
  · cases hDe

/-! ### spec.l2At -/
def pr101 (l : List Znode) (t : ByteArray) : Prop := l.length ≤ maxLen
noncomputable def rs101 (l : List Znode) (t : ByteArray) : V := .int .i64 (atN l t)
noncomputable def sp101 : FSpec := fun args bin => match args, bin with
  | [a0, .str a1], [] => some (VLe a0 (encL (encZnode 1) 1 (((decL decZnode) a0))) ∧ pr101 ((decL decZnode) a0) a1, rs101 ((decL decZnode) a0) a1, [])
  | _, _ => none
noncomputable def in101_2 (l : List Znode) (t : ByteArray) : LoopInv :=
  ⟨Nat, fun i => ⟨[(0, encL (encZnode 1) 1 l), (1, .str t), (5, .int .i64 i)], []⟩,
    fun i => i ≤ l.length ∧ ∀ j, j < i → isPath t (l.getD j default) = false, fun i => l.length - i⟩
noncomputable def iv101 (l : List Znode) (t : ByteArray) : Nat → Option LoopInv := fun rg_ => match rg_ with
  | 2 => some (in101_2 l t)
  | _ => none
noncomputable def D101 : Nat → Option (Bool × FSpec) := lk []
theorem da101 : SoundAll Tryd.prog D101 := soundAll_nil
noncomputable def cx101 (l : List Znode) (t : ByteArray) : Cx := ⟨tt, D101, Tryd.f101.ntmps, [0, 1, 4, 5, 9, 18], [(2, ⟨[(0, none), (1, none), (5, none)], []⟩)], [], iv101 l t, [], noM, []⟩
theorem bd101 (l : List Znode) (t : ByteArray) (hpre : pr101 l t) : bodyP (cx101 l t) Tryd.f101 0 [encL (encZnode 1) 1 (l), .str (t)] (fun rr => VLe rr (rs101 l t)) := by
  have key :
      ((∃ x : Nat, ((SLe
   (AS.mk
   [(0, encL (encZnode 1) 1 l), (1, V.str t), (5, V.int IntKind.i64 (0 : Int))]
   [])
   (AS.mk
   [(0, encL (encZnode 1) 1 l), (1, V.str t),
   (5, V.int IntKind.i64 (↑x : Int))]
   [])) ∧
   ((x ≤ List.length l) ∧
   (∀ j : Nat,
   ((j < x) →
   (isPath t (List.getD l j default) = false)))))) ∧
   (∀ x : Nat,
   (((x ≤ List.length l) ∧
   (∀ j : Nat,
   ((j < x) →
   (isPath t (List.getD l j default) = false)))) →
   (((decide ((↑x : Int) < (↑(List.length l) : Int)) = true) →
   ((((0 : Int) ≤ (↑x : Int)) ∧
   ((↑x : Int) < (↑(List.length l) : Int))) ∧
   (((strEq (Znode.path (List.getD l (Int.toNat (↑x : Int)) default)) t = true) →
   (VLe (V.int IntKind.i64 (↑x : Int)) (V.int IntKind.i64 (atN l t)))) ∧
   ((strEq (Znode.path (List.getD l (Int.toNat (↑x : Int)) default)) t = false) →
   ((inK IntKind.i64 ((↑x : Int) + (1 : Int))) ∧
   (∃ y : Nat, ((SLe
   (AS.mk
   [(0, encL (encZnode 1) 1 l), (1, V.str t),
   (5, V.int IntKind.i64 ((↑x : Int) + (1 : Int)))]
   [])
   (AS.mk
   [(0, encL (encZnode 1) 1 l), (1, V.str t),
   (5, V.int IntKind.i64 (↑y : Int))]
   [])) ∧
   (((y ≤ List.length l) ∧
   (∀ j : Nat,
   ((j < y) →
   (isPath t (List.getD l j default) = false)))) ∧
   (List.length l - y < List.length l - x))))))))) ∧
   ((decide ((↑x : Int) < (↑(List.length l) : Int)) = false) →
   (VLe (V.int IntKind.i64 (-1 : Int)) (V.int IntKind.i64 (atN l t)))))))) := by
    have hl : l.length ≤ maxLen := hpre
    unfold maxLen at hl
    refine ⟨⟨0, SLe.refl _, by omega, fun j hj => absurd hj (Nat.not_lt_zero j)⟩, ?_⟩
    rintro i ⟨hi, hj⟩
    refine ⟨fun h => ?_, fun h => ?_⟩
    · have hlt : i < l.length := by simpa using h
      rw [Int.toNat_natCast, strEq_dec]
      refine ⟨⟨by omega, by omega⟩, fun h2 => vle_int (idxF_some hlt hj h2).symm, fun h2 => ⟨inK64 (by omega), i + 1, SLe.refl _, ⟨by omega, fun j h3 => ?_⟩, by omega⟩⟩
      rcases Nat.lt_or_ge j i with h4 | h4
      · exact hj j h4
      · have : j = i := by omega
        subst this
        exact h2
    · have hge : i = l.length := by simp at h; omega
      exact vle_int (idxF_none fun j h3 => hj j (by omega)).symm
  exact Eq.mp (by kernel_rfl) key
theorem so101 : Sound Tryd.prog 101 sp101 := by
  refine sound_of_body hmix (pol := 0) Tryd.func101 rfl (by kernel_rfl) fun args bin ob r bout hDe hob => ?_
  unfold sp101 at hDe
  split at hDe
  · rename_i a0 a1
    cases hDe
    exact ⟨rfl, rfl, Nat.le_of_ble_eq_true (by kernel_rfl), cx101 ((decL decZnode) a0) a1, Eq.mp (by kernel_rfl) htt, Eq.mp (by kernel_rfl) da101, Eq.mp (by kernel_rfl) (noM_sound (P := Tryd.prog)), by kernel_rfl, [encL (encZnode 1) 1 (((decL decZnode) a0)), .str (a1)], args_of_vles (⟨hob.1, VLe.refl _, trivial⟩), Eq.mp (by kernel_rfl) (bd101 ((decL decZnode) a0) a1 (hob.2))⟩
  · cases hDe

theorem drop1Z {xs : List Znode} {k : Nat} (h : k < xs.tail.length) : dropg (gL (encZnode 1) xs) 1 k = encZnode 1 xs.tail[k] := by
  have h3 : k + 1 < xs.length := by rw [List.length_tail] at h; omega
  simp [dropg, gL, h3, List.getElem_tail, Nat.add_comm]

/-! ### impl.TreeFault -/
def pr80 (l : List Znode) : Prop := l.length ≤ maxLen
noncomputable def rs80 (l : List Znode) : V := .int .i64 (treeF l)
noncomputable def sp80 : FSpec := fun args bin => match args, bin with
  | [a0], [] => some (VLe a0 (encL (encZnode 1) 1 (((decL decZnode) a0))) ∧ pr80 ((decL decZnode) a0), rs80 ((decL decZnode) a0), [])
  | _, _ => none
noncomputable def in80_4 (l : List Znode) : LoopInv :=
  ⟨Nat, fun i => ⟨[(0, encL (encZnode 1) 1 l), (18, encL (encZnode 1) 1 l), (19, .int .i64 l.length), (20, .int .i64 i)], []⟩,
    fun i => i ≤ l.length ∧ scanE (treeE l) i = 0, fun i => l.length - i⟩
noncomputable def in80_17 (l : List Znode) : LoopInv :=
  ⟨Nat, fun i => ⟨[(0, encL (encZnode 1) 1 l), (8, .bool (ownTo l i)), (57, encL (encZnode 1) 1 l.tail), (58, .int .i64 l.tail.length), (59, .int .i64 i)], []⟩,
    fun i => i ≤ l.tail.length ∧ ∀ j, j < i → isZ l (upF (l.tail.getD j default).path) = true, fun i => l.tail.length - i⟩
noncomputable def iv80 (l : List Znode) : Nat → Option LoopInv := fun rg_ => match rg_ with
  | 4 => some (in80_4 l)
  | 17 => some (in80_17 l)
  | _ => none
noncomputable def D80 : Nat → Option (Bool × FSpec) := lk [(113, (false, sp113)), (106, (false, sp106)), (114, (false, sp114))]
theorem da80 : SoundAll Tryd.prog D80 := soundAll_cons so113 (soundAll_cons so106 (soundAll_cons so114 (soundAll_nil)))
noncomputable def cx80 (l : List Znode) : Cx := ⟨tt, D80, Tryd.f80.ntmps, [0, 2, 3, 4, 5, 7, 8, 10, 11, 13, 14, 17, 18, 19, 20, 21, 28, 42, 50, 57, 58, 59, 60, 76, 87], [(4, ⟨[(0, none), (18, none), (19, none), (20, none)], []⟩), (17, ⟨[(0, none), (8, none), (57, none), (58, none), (59, none)], []⟩)], [], iv80 l, [], noM, []⟩
theorem bd80 (l : List Znode) (hpre : pr80 l) : bodyP (cx80 l) Tryd.f80 0 [encL (encZnode 1) 1 (l)] (fun rr => VLe rr (rs80 l)) := by
  have key :
      (((decide ((↑(List.length l) : Int) > (20 : Int)) = true) →
   (VLe (V.int IntKind.i64 (2 : Int)) (V.int IntKind.i64 (treeF l)))) ∧
   ((decide ((↑(List.length l) : Int) > (20 : Int)) = false) →
   ((∃ x : Nat, ((SLe
   (AS.mk
   [(0, encL (encZnode 1) 1 l), (18, encL (encZnode 1) 1 l),
   (19, V.int IntKind.i64 (↑(List.length l) : Int)), (20, V.int IntKind.i64 (0 : Int))]
   [])
   (AS.mk
   [(0, encL (encZnode 1) 1 l), (18, encL (encZnode 1) 1 l),
   (19, V.int IntKind.i64 (↑(List.length l) : Int)), (20, V.int IntKind.i64 (↑x : Int))]
   [])) ∧
   ((x ≤ List.length l) ∧
   (scanE (treeE l) x = (0 : Int))))) ∧
   (∀ x : Nat,
   (((x ≤ List.length l) ∧
   (scanE (treeE l) x = (0 : Int))) →
   (((decide ((↑x : Int) < (↑(List.length l) : Int)) = true) →
   ((((0 : Int) ≤ (↑x : Int)) ∧
   ((↑x : Int) < (↑(List.length l) : Int))) ∧
   (((VLe (encZnode 1 (List.getD l (Int.toNat (↑x : Int)) default))
   (encZnode 1 (decZnode (encZnode 1 (List.getD l (Int.toNat (↑x : Int)) default))))) ∧
   (pr113 (decZnode (encZnode 1 (List.getD l (Int.toNat (↑x : Int)) default))))) ∧
   ((((nodeF (decZnode (encZnode 1 (List.getD l (Int.toNat (↑x : Int)) default))) != (0 : Int)) = true) →
   (VLe (V.int IntKind.i64 (nodeF (decZnode (encZnode 1 (List.getD l (Int.toNat (↑x : Int)) default)))))
   (V.int IntKind.i64 (treeF l)))) ∧
   (((nodeF (decZnode (encZnode 1 (List.getD l (Int.toNat (↑x : Int)) default))) != (0 : Int)) = false) →
   ((tq (decide ((↑x : Int) > (0 : Int)))) ∧
   ((tq (decide ((↑x : Int) > (0 : Int)))) ∧
   (((decide ((↑x : Int) > (0 : Int)) = true) →
   (inK IntKind.i64 ((↑x : Int) - (1 : Int)))) ∧
   ((tq (decide ((↑x : Int) > (0 : Int)))) ∧
   ((tq (decide ((↑x : Int) > (0 : Int)))) ∧
   (((decide ((↑x : Int) > (0 : Int)) = true) →
   (((0 : Int) ≤ (↑x : Int) - (1 : Int)) ∧
   ((↑x : Int) - (1 : Int) < (↑(List.length l) : Int)))) ∧
   ((tq (decide ((↑x : Int) > (0 : Int)))) ∧
   ((tq (decide ((↑x : Int) > (0 : Int)))) ∧
   ((tq (decide ((↑x : Int) > (0 : Int)))) ∧
   ((tq (decide ((↑x : Int) > (0 : Int)))) ∧
   (((true = true) →
   ((decide ((↑x : Int) > (0 : Int)) = true) →
   (decide ((↑x : Int) > (0 : Int)) = true))) ∧
   (∀ b : Bool,
   ((b =
   bif decide ((↑x : Int) > (0 : Int)) then
   strLt (Znode.path (List.getD l (Int.toNat (↑x : Int)) default))
   (Znode.path (List.getD l (Int.toNat ((↑x : Int) - (1 : Int))) default)) ||
   strEq (Znode.path (List.getD l (Int.toNat (↑x : Int)) default))
   (Znode.path (List.getD l (Int.toNat ((↑x : Int) - (1 : Int))) default))
   else false) →
   (((b = true) →
   (VLe (V.int IntKind.i64 (1 : Int)) (V.int IntKind.i64 (treeF l)))) ∧
   ((b = false) →
   ((inK IntKind.i64 ((↑x : Int) + (1 : Int))) ∧
   (∃ y : Nat, ((SLe
   (AS.mk
   [(0, encL (encZnode 1) 1 l), (18, encL (encZnode 1) 1 l),
   (19, V.int IntKind.i64 (↑(List.length l) : Int)),
   (20, V.int IntKind.i64 ((↑x : Int) + (1 : Int)))]
   [])
   (AS.mk
   [(0, encL (encZnode 1) 1 l), (18, encL (encZnode 1) 1 l),
   (19, V.int IntKind.i64 (↑(List.length l) : Int)), (20, V.int IntKind.i64 (↑y : Int))]
   [])) ∧
   (((y ≤ List.length l) ∧
   (scanE (treeE l) y = (0 : Int))) ∧
   (List.length l - y < List.length l - x))))))))))))))))))))))))) ∧
   ((decide ((↑x : Int) < (↑(List.length l) : Int)) = false) →
   (((VLe (encL (encZnode 1) 1 l)
   (encL (encZnode 1) 1 (decL decZnode (encL (encZnode 1) 1 l)))) ∧
   (pr106 (decL decZnode (encL (encZnode 1) 1 l)) (ByteArray.mk #[(47 : UInt8)]))) ∧
   ((((!isZ (decL decZnode (encL (encZnode 1) 1 l)) (ByteArray.mk #[(47 : UInt8)])) = true) →
   (VLe (V.int IntKind.i64 (4 : Int)) (V.int IntKind.i64 (treeF l)))) ∧
   (((!isZ (decL decZnode (encL (encZnode 1) 1 l)) (ByteArray.mk #[(47 : UInt8)])) = false) →
   ((((0 : Int) ≤ (0 : Int)) ∧
   ((0 : Int) < (↑(List.length l) : Int))) ∧
   ((((0 : Int) ≤ Option.getD (some (1 : Int)) (0 : Int)) ∧
   ((Option.getD (some (1 : Int)) (0 : Int) ≤ Option.getD none (↑(List.length l) : Int)) ∧
   (Option.getD none (↑(List.length l) : Int) ≤ (↑(List.length l) : Int)))) ∧
   ((sizedL 5 (List.length l) (gL (encZnode 1) l)) ∧
   ((∃ x_1 : Nat, ((SLe
   (AS.mk
   [(0, encL (encZnode 1) 1 l),
   (8, V.bool (Znode.owner (List.getD l 0 default) != (0 : Int))),
   (57,
   V.sl (Int.toNat (Option.getD none (↑(List.length l) : Int)) - 1)
   (match (motive := Option Int → Nat → V) some (1 : Int) with
   | none => gL (encZnode 1) l
   | some val => dropg (gL (encZnode 1) l) 1)
   1),
   (58, V.int IntKind.i64 (↑(Int.toNat (Option.getD none (↑(List.length l) : Int)) - 1) : Int)),
   (59, V.int IntKind.i64 (0 : Int))]
   [])
   (AS.mk
   [(0, encL (encZnode 1) 1 l), (8, V.bool (ownTo l x_1)),
   (57, encL (encZnode 1) 1 (List.tail l)),
   (58, V.int IntKind.i64 (↑(List.length (List.tail l)) : Int)),
   (59, V.int IntKind.i64 (↑x_1 : Int))]
   [])) ∧
   ((x_1 ≤ List.length (List.tail l)) ∧
   (∀ j : Nat,
   ((j < x_1) →
   (isZ l (upF (Znode.path (List.getD (List.tail l) j default))) = true)))))) ∧
   (∀ x_1 : Nat,
   (((x_1 ≤ List.length (List.tail l)) ∧
   (∀ j : Nat,
   ((j < x_1) →
   (isZ l (upF (Znode.path (List.getD (List.tail l) j default))) = true)))) →
   (((decide ((↑x_1 : Int) < (↑(List.length (List.tail l)) : Int)) = true) →
   ((((0 : Int) ≤ (↑x_1 : Int)) ∧
   ((↑x_1 : Int) < (↑(List.length (List.tail l)) : Int))) ∧
   ((pr114 (Znode.path (List.getD (List.tail l) (Int.toNat (↑x_1 : Int)) default))) ∧
   (((VLe (encL (encZnode 1) 1 l)
   (encL (encZnode 1) 1 (decL decZnode (encL (encZnode 1) 1 l)))) ∧
   (pr106 (decL decZnode (encL (encZnode 1) 1 l))
   (upF (Znode.path (List.getD (List.tail l) (Int.toNat (↑x_1 : Int)) default))))) ∧
   ((((!isZ (decL decZnode (encL (encZnode 1) 1 l))
   (upF (Znode.path (List.getD (List.tail l) (Int.toNat (↑x_1 : Int)) default)))) =
   true) →
   (VLe (V.int IntKind.i64 (4 : Int)) (V.int IntKind.i64 (treeF l)))) ∧
   (((!isZ (decL decZnode (encL (encZnode 1) 1 l))
   (upF (Znode.path (List.getD (List.tail l) (Int.toNat (↑x_1 : Int)) default)))) =
   false) →
   ((tq (!ownTo l x_1)) ∧
   ((tq (!ownTo l x_1)) ∧
   ((((!ownTo l x_1) = true) →
   (((0 : Int) ≤
   (↑(posZ (decL decZnode (encL (encZnode 1) 1 l))
   (upF (Znode.path (List.getD (List.tail l) (Int.toNat (↑x_1 : Int)) default)))) :
   Int)) ∧
   ((↑(posZ (decL decZnode (encL (encZnode 1) 1 l))
   (upF (Znode.path (List.getD (List.tail l) (Int.toNat (↑x_1 : Int)) default)))) :
   Int) <
   (↑(List.length l) : Int)))) ∧
   ((tq (!ownTo l x_1)) ∧
   ((tq (!ownTo l x_1)) ∧
   ((tq (!ownTo l x_1)) ∧
   (((true = true) →
   ((ownTo l x_1 = false) →
   ((!ownTo l x_1) = true))) ∧
   (∀ b : Bool,
   ((b =
   bif ownTo l x_1 then true
   else
   Znode.owner
   (List.getD l
   (Int.toNat
   (↑(posZ (decL decZnode (encL (encZnode 1) 1 l))
   (upF (Znode.path (List.getD (List.tail l) (Int.toNat (↑x_1 : Int)) default)))) :
   Int))
   default) !=
   (0 : Int)) →
   ((inK IntKind.i64 ((↑x_1 : Int) + (1 : Int))) ∧
   (∃ y : Nat, ((SLe
   (AS.mk
   [(0, encL (encZnode 1) 1 l), (8, V.bool b),
   (57, encL (encZnode 1) 1 (List.tail l)),
   (58, V.int IntKind.i64 (↑(List.length (List.tail l)) : Int)),
   (59, V.int IntKind.i64 ((↑x_1 : Int) + (1 : Int)))]
   [])
   (AS.mk
   [(0, encL (encZnode 1) 1 l), (8, V.bool (ownTo l y)),
   (57, encL (encZnode 1) 1 (List.tail l)),
   (58, V.int IntKind.i64 (↑(List.length (List.tail l)) : Int)), (59, V.int IntKind.i64 (↑y : Int))]
   [])) ∧
   (((y ≤ List.length (List.tail l)) ∧
   (∀ j : Nat,
   ((j < y) →
   (isZ l (upF (Znode.path (List.getD (List.tail l) j default))) = true)))) ∧
   (List.length (List.tail l) - y < List.length (List.tail l) - x_1)))))))))))))))))))) ∧
   ((decide ((↑x_1 : Int) < (↑(List.length (List.tail l)) : Int)) = false) →
   (((ownTo l x_1 = true) →
   (VLe (V.int IntKind.i64 (1 : Int)) (V.int IntKind.i64 (treeF l)))) ∧
   ((ownTo l x_1 = false) →
   (VLe (V.int IntKind.i64 (0 : Int)) (V.int IntKind.i64 (treeF l))))))))))))))))))))))) := by
    have hl : l.length ≤ maxLen := hpre
    unfold maxLen at hl
    simp only [dec_encZnode, decL_Znode, strLt_dec, strEq_dec]
    refine ⟨fun h => ?_, fun h => ?_⟩
    · have h1 : 20 < l.length := by have := of_decide_eq_true h; omega
      exact vle_int (by unfold treeF; rw [if_pos h1])
    have h1 : ¬ 20 < l.length := by have := of_decide_eq_false h; omega
    have e1 : treeF l = if scanE (treeE l) l.length ≠ 0 then scanE (treeE l) l.length else if atN l top < 0 then 4 else if noUp l then 4 else if badUp l then 1 else 0 := if_neg h1
    refine ⟨⟨0, SLe.refl _, by omega, rfl⟩, ?_⟩
    rintro i ⟨hi, hz⟩
    refine ⟨fun h2 => ?_, fun h2 => ?_⟩
    · have hlt : i < l.length := by have := of_decide_eq_true h2; omega
      simp only [Int.toNat_natCast]
      have stop : ∀ c, c = treeE l i → c ≠ 0 → VLe (.int .i64 c) (.int .i64 (treeF l)) := fun c hc h0 => vle_int (by
        have := scanE_stop hz (by rw [← hc]; exact h0) _ hlt
        rw [e1, if_pos (by rw [this, ← hc]; exact h0), this, hc])
      refine ⟨⟨by omega, by omega⟩, ⟨VLe.refl _, trivial⟩, fun h3 => ?_, fun h3 => ?_⟩
      · have h4 : nodeF (l.getD i default) ≠ 0 := by simpa using h3
        exact stop _ (by unfold treeE; rw [if_pos h4]) h4
      have h4 : ¬ nodeF (l.getD i default) ≠ 0 := by simpa using h3
      have e2 : treeE l i = if 0 < i ∧ ¬ lt (atZ l (i - 1)).path (atZ l i).path then 1 else 0 := if_neg h4
      repeat (first | (refine And.intro (fun h _ => h) ?_) | (refine And.intro (fun _ h => h) ?_) | (refine And.intro ?aa ?_; case aa => (exact (tqI _))) | (refine And.intro ?aa ?_; case aa => (exact (fun h => inK64 (by omega)))) | (refine And.intro ?aa ?_; case aa => (exact (fun h => ⟨by have := of_decide_eq_true h; omega, by omega⟩))) | (refine And.intro ?aa ?_; case aa => (intros; simp_all [pr113, pr106, pr114]; done)) | (refine And.intro ?aa ?_; case aa => (intros; exact inK64 (by omega))) | (refine And.intro ?aa ?_; case aa => (intros; simp only [decide_eq_true_eq] at *; omega)) | (intro q hq))
      have e3 : q = decide (0 < i ∧ ¬ lt (atZ l (i - 1)).path (atZ l i).path) := by
        rw [hq, Bool.eq_iff_iff, decide_eq_true_eq]
        by_cases a1 : 0 < i
        · have n1 : ((i : Int) - 1).toNat = i - 1 := by omega
          have a2 : decide ((i : Int) > 0) = true := decide_eq_true (by omega)
          rw [a2, n1]
          simp only [cond_true, Bool.or_eq_true, decide_eq_true_eq, a1, true_and]
          refine ⟨fun g => g.elim lt_asymm (fun g => by
            show ¬ lt _ (l.getD i default).path
            rw [g]
            exact lt_irrefl _), fun g => Classical.byContradiction fun k => ?_⟩
          exact k (Or.inr (lt_total (fun g2 => k (Or.inl g2)) g))
        · have a2 : decide ((i : Int) > 0) = false := decide_eq_false (by omega)
          rw [a2]
          simp [a1]
      refine ⟨fun h5 => ?_, fun h5 => ?_⟩
      · rw [e3] at h5
        exact stop _ (by rw [e2, if_pos (of_decide_eq_true h5)]) (by decide)
      · rw [e3] at h5
        exact ⟨inK64 (by omega), i + 1, SLe.refl _, ⟨by omega, scanE_next hz (by rw [e2, if_neg (of_decide_eq_false h5)])⟩, by omega⟩
    · have hge : i = l.length := by have := of_decide_eq_false h2; omega
      rw [hge] at hz
      have hr := rising_scan hz
      have e2 : treeF l = if atN l top < 0 then 4 else if noUp l then 4 else if badUp l then 1 else 0 := by rw [e1, if_neg (not_not_intro hz)]
      refine ⟨⟨VLe.refl _, hr, by omega⟩, fun h3 => ?_, fun h3 => ?_⟩
      · have : isZ l top = false := by simpa using h3
        exact vle_int (by rw [e2, if_pos ((atN_lt0 hr _).2 this)])
      have ht : isZ l top = true := by simpa using h3
      obtain ⟨f1, f2⟩ := first_top hz ht
      have e3 : treeF l = if noUp l then 4 else if badUp l then 1 else 0 := by
        rw [e2, if_neg]
        intro g
        rw [(atN_lt0 hr _).1 g] at ht
        cases ht
      have hlt0 : l.tail.length = l.length - 1 := List.length_tail
      refine ⟨⟨by omega, by omega⟩, ⟨by simp, by simp; omega, by simp⟩, fun k hk => ⟨rfl, rfl⟩, ⟨0, ?_, by omega, fun j hj => by omega⟩, ?_⟩
      · exact sle_of ⟨rfl, VLe.refl _, rfl, VLe.refl _, rfl, vle_encL_eq (by simp) (fun k hk => drop1Z hk) (Or.inl rfl), rfl, vle_int (by simp), rfl, VLe.refl _, trivial⟩ trivial
      rintro i ⟨hi, hj⟩
      refine ⟨fun h5 => ?_, fun h5 => ?_⟩
      · have hlt : i < l.tail.length := by have := of_decide_eq_true h5; omega
        simp only [Int.toNat_natCast]
        have hn : nodeF (l.tail.getD i default) = 0 := by
          rw [tail_getD]
          exact node_scan hz (by omega)
        have hp := node_path hn
        refine ⟨⟨by omega, by omega⟩, ⟨by have := path_size hp; omega, path_headed hp⟩, ⟨VLe.refl _, hr, by omega⟩, fun h6 => ?_, fun h6 => ?_⟩
        · have h7 : isZ l (upF (l.tail.getD i default).path) = false := by
            cases hc : isZ l (upF (l.tail.getD i default).path) with
            | false => rfl
            | true => rw [hc] at h6; cases h6
          exact vle_int (by rw [e3, if_pos ((noUp_iff hz ht).2 ⟨i, hlt, h7⟩)])
        have h7 : isZ l (upF (l.tail.getD i default).path) = true := by
          cases hc : isZ l (upF (l.tail.getD i default).path) with
          | true => rfl
          | false => rw [hc] at h6; cases h6
        have h8 := (atN_pos hr h7).2.1
        repeat (first | (refine And.intro (fun h _ => h) ?_) | (refine And.intro (fun _ h => h) ?_) | (refine And.intro ?aa ?_; case aa => (exact (tqI _))) | (refine And.intro ?aa ?_; case aa => (exact (fun _ => ⟨by omega, by omega⟩))) | (refine And.intro ?aa ?_; case aa => (intros; simp_all [pr113, pr106, pr114]; done)) | (refine And.intro ?aa ?_; case aa => (intros; exact inK64 (by omega))) | (refine And.intro ?aa ?_; case aa => (intros; simp only [decide_eq_true_eq] at *; omega)) | (intro q hq))
        refine ⟨i + 1, ?_, ⟨by omega, fun j h9 => ?_⟩, by omega⟩
        · rw [hq]
          exact SLe.refl _
        · by_cases e : j = i
          · rw [e]; exact h7
          · exact hj j (by omega)
      · have hge : i = l.tail.length := by have := of_decide_eq_false h5; omega
        subst hge
        have hb := badUp_iff hz ht hj
        have e4 : treeF l = if badUp l then 1 else 0 := by
          rw [e3, if_neg]
          intro g
          obtain ⟨j, h, k⟩ := (noUp_iff hz ht).1 g
          rw [hj j h] at k
          cases k
        refine ⟨fun h => vle_int (by rw [e4, if_pos (hb.2 h)]), fun h => vle_int ?_⟩
        rw [e4, if_neg]
        intro g
        rw [hb.1 g] at h
        cases h
  exact Eq.mp (by kernel_rfl) key
theorem so80 : Sound Tryd.prog 80 sp80 := by
  refine sound_of_body hmix (pol := 0) Tryd.func80 rfl (by kernel_rfl) fun args bin ob r bout hDe hob => ?_
  unfold sp80 at hDe
  split at hDe
  · rename_i a0
    cases hDe
    exact ⟨rfl, rfl, Nat.le_of_ble_eq_true (by kernel_rfl), cx80 ((decL decZnode) a0), Eq.mp (by kernel_rfl) htt, Eq.mp (by kernel_rfl) da80, Eq.mp (by kernel_rfl) (noM_sound (P := Tryd.prog)), by kernel_rfl, [encL (encZnode 1) 1 (((decL decZnode) a0))], args_of_vles (⟨hob.1, trivial⟩), Eq.mp (by kernel_rfl) (bd80 ((decL decZnode) a0) (hob.2))⟩
  · cases hDe

/-! ### spec.l2Fault -/
def pr67 (l : List Znode) : Prop := l.length ≤ maxLen
noncomputable def rs67 (l : List Znode) : V := .int .i64 (treeF l)
noncomputable def sp67 : FSpec := fun args bin => match args, bin with
  | [a0], [] => some (VLe a0 (encL (encZnode 1) 1 (((decL decZnode) a0))) ∧ pr67 ((decL decZnode) a0), rs67 ((decL decZnode) a0), [])
  | _, _ => none
noncomputable def in67_4 (l : List Znode) : LoopInv :=
  ⟨Nat, fun i => ⟨[(0, encL (encZnode 1) 1 l), (3, .int .i64 i)], []⟩,
    fun i => i ≤ l.length ∧ scanE (treeE l) i = 0, fun i => l.length - i⟩
noncomputable def in67_17 (l : List Znode) : LoopInv :=
  ⟨Nat, fun i => ⟨[(0, encL (encZnode 1) 1 l), (6, .int .i64 i)], []⟩,
    fun i => i ≤ l.length ∧ ∀ j, j < i → ¬ atN l (upF (atZ l j).path) < 0, fun i => l.length - i⟩
noncomputable def in67_22 (l : List Znode) : LoopInv :=
  ⟨Nat, fun i => ⟨[(0, encL (encZnode 1) 1 l), (7, .int .i64 i)], []⟩,
    fun i => i ≤ l.length ∧ ∀ j, j < i → (atZ l (atN l (upF (atZ l j).path)).toNat).owner = 0, fun i => l.length - i⟩
noncomputable def iv67 (l : List Znode) : Nat → Option LoopInv := fun rg_ => match rg_ with
  | 4 => some (in67_4 l)
  | 17 => some (in67_17 l)
  | 22 => some (in67_22 l)
  | _ => none
noncomputable def D67 : Nat → Option (Bool × FSpec) := lk [(53, (false, sp53)), (99, (false, sp99)), (54, (false, sp54)), (100, (false, sp100)), (101, (false, sp101)), (102, (false, sp102))]
theorem da67 : SoundAll Tryd.prog D67 := soundAll_cons so53 (soundAll_cons so99 (soundAll_cons so54 (soundAll_cons so100 (soundAll_cons so101 (soundAll_cons so102 (soundAll_nil))))))
noncomputable def cx67 (l : List Znode) : Cx := ⟨tt, D67, Tryd.f67.ntmps, [0, 2, 3, 4, 5, 6, 7, 10, 14, 26, 57, 72, 75, 79, 90, 94, 109], [(4, ⟨[(0, none), (3, none)], []⟩), (17, ⟨[(0, none), (6, none)], []⟩), (22, ⟨[(0, none), (7, none)], []⟩)], [], iv67 l, [], noM, []⟩
theorem bd67 (l : List Znode) (hpre : pr67 l) : bodyP (cx67 l) Tryd.f67 0 [encL (encZnode 1) 1 (l)] (fun rr => VLe rr (rs67 l)) := by
  have key :
      (((decide ((↑(List.length l) : Int) > (20 : Int)) = true) →
   (VLe (V.int IntKind.i64 (2 : Int)) (V.int IntKind.i64 (treeF l)))) ∧
   ((decide ((↑(List.length l) : Int) > (20 : Int)) = false) →
   ((∃ x : Nat, ((SLe (AS.mk [(0, encL (encZnode 1) 1 l), (3, V.int IntKind.i64 (0 : Int))] [])
   (AS.mk [(0, encL (encZnode 1) 1 l), (3, V.int IntKind.i64 (↑x : Int))] [])) ∧
   ((x ≤ List.length l) ∧
   (scanE (treeE l) x = (0 : Int))))) ∧
   (∀ x : Nat,
   (((x ≤ List.length l) ∧
   (scanE (treeE l) x = (0 : Int))) →
   (((decide ((↑x : Int) < (↑(List.length l) : Int)) = true) →
   ((((0 : Int) ≤ (↑x : Int)) ∧
   ((↑x : Int) < (↑(List.length l) : Int))) ∧
   ((pr53 (Znode.path (List.getD l (Int.toNat (↑x : Int)) default))) ∧
   ((((pathF (Znode.path (List.getD l (Int.toNat (↑x : Int)) default)) != (0 : Int)) = true) →
   (VLe (V.int IntKind.i64 (pathF (Znode.path (List.getD l (Int.toNat (↑x : Int)) default)))) (V.int IntKind.i64 (treeF l)))) ∧
   (((pathF (Znode.path (List.getD l (Int.toNat (↑x : Int)) default)) != (0 : Int)) = false) →
   ((pr99 (Znode.data (List.getD l (Int.toNat (↑x : Int)) default))) ∧
   ((tq (!!decide (inR (Znode.data (List.getD l (Int.toNat (↑x : Int)) default)) (0 : Int) (9999 : Int)))) ∧
   ((tq (!!decide (inR (Znode.data (List.getD l (Int.toNat (↑x : Int)) default)) (0 : Int) (9999 : Int)))) ∧
   ((tq (!!decide (inR (Znode.data (List.getD l (Int.toNat (↑x : Int)) default)) (0 : Int) (9999 : Int)))) ∧
   ((tq (!!decide (inR (Znode.data (List.getD l (Int.toNat (↑x : Int)) default)) (0 : Int) (9999 : Int)))) ∧
   ((((!!decide (inR (Znode.data (List.getD l (Int.toNat (↑x : Int)) default)) (0 : Int) (9999 : Int))) = true) →
   (pr54 (Znode.version (List.getD l (Int.toNat (↑x : Int)) default)) (0 : Int) (999 : Int))) ∧
   ((tq (!!decide (inR (Znode.data (List.getD l (Int.toNat (↑x : Int)) default)) (0 : Int) (9999 : Int)))) ∧
   (((true = true) →
   (((!decide (inR (Znode.data (List.getD l (Int.toNat (↑x : Int)) default)) (0 : Int) (9999 : Int))) = false) →
   ((!!decide (inR (Znode.data (List.getD l (Int.toNat (↑x : Int)) default)) (0 : Int) (9999 : Int))) = true))) ∧
   (∀ b : Bool,
   ((b =
   bif !decide (inR (Znode.data (List.getD l (Int.toNat (↑x : Int)) default)) (0 : Int) (9999 : Int)) then true
   else !decide (inR (Znode.version (List.getD l (Int.toNat (↑x : Int)) default)) (0 : Int) (999 : Int))) →
   ((tq (!b)) ∧
   ((tq (!b)) ∧
   ((tq (!b)) ∧
   ((tq (!b)) ∧
   ((((!b) = true) →
   (pr100 (Znode.owner (List.getD l (Int.toNat (↑x : Int)) default)))) ∧
   ((tq (!b)) ∧
   (((true = true) →
   ((b = false) →
   ((!b) = true))) ∧
   (∀ b_1 : Bool,
   ((b_1 = bif b then true else !decide (inR (Znode.owner (List.getD l (Int.toNat (↑x : Int)) default)) (0 : Int) (9 : Int))) →
   ((tq (!b_1)) ∧
   ((tq (!b_1)) ∧
   ((tq (!b_1)) ∧
   ((tq (!b_1)) ∧
   ((((!b_1) = true) →
   (pr54 (Znode.next (List.getD l (Int.toNat (↑x : Int)) default)) (0 : Int) (100 : Int))) ∧
   ((tq (!b_1)) ∧
   (((true = true) →
   ((b_1 = false) →
   ((!b_1) = true))) ∧
   (∀ b_2 : Bool,
   ((b_2 =
   bif b_1 then true else !decide (inR (Znode.next (List.getD l (Int.toNat (↑x : Int)) default)) (0 : Int) (100 : Int))) →
   (((b_2 = true) →
   (VLe (V.int IntKind.i64 (3 : Int)) (V.int IntKind.i64 (treeF l)))) ∧
   ((b_2 = false) →
   ((tq (decide ((↑x : Int) > (0 : Int)))) ∧
   ((tq (decide ((↑x : Int) > (0 : Int)))) ∧
   ((tq (decide ((↑x : Int) > (0 : Int)))) ∧
   ((tq (decide ((↑x : Int) > (0 : Int)))) ∧
   (((decide ((↑x : Int) > (0 : Int)) = true) →
   (inK IntKind.i64 ((↑x : Int) - (1 : Int)))) ∧
   ((tq (decide ((↑x : Int) > (0 : Int)))) ∧
   ((tq (decide ((↑x : Int) > (0 : Int)))) ∧
   (((decide ((↑x : Int) > (0 : Int)) = true) →
   (((0 : Int) ≤ (↑x : Int) - (1 : Int)) ∧
   ((↑x : Int) - (1 : Int) < (↑(List.length l) : Int)))) ∧
   ((tq (decide ((↑x : Int) > (0 : Int)))) ∧
   ((tq (decide ((↑x : Int) > (0 : Int)))) ∧
   ((tq (decide ((↑x : Int) > (0 : Int)))) ∧
   ((tq (decide ((↑x : Int) > (0 : Int)))) ∧
   (((true = true) →
   ((decide ((↑x : Int) > (0 : Int)) = true) →
   (decide ((↑x : Int) > (0 : Int)) = true))) ∧
   (∀ b_3 : Bool,
   ((b_3 =
   bif decide ((↑x : Int) > (0 : Int)) then
   strLt (Znode.path (List.getD l (Int.toNat (↑x : Int)) default))
   (Znode.path (List.getD l (Int.toNat ((↑x : Int) - (1 : Int))) default)) ||
   strEq (Znode.path (List.getD l (Int.toNat (↑x : Int)) default))
   (Znode.path (List.getD l (Int.toNat ((↑x : Int) - (1 : Int))) default))
   else false) →
   (((b_3 = true) →
   (VLe (V.int IntKind.i64 (1 : Int)) (V.int IntKind.i64 (treeF l)))) ∧
   ((b_3 = false) →
   ((inK IntKind.i64 ((↑x : Int) + (1 : Int))) ∧
   (∃ y : Nat, ((SLe
   (AS.mk [(0, encL (encZnode 1) 1 l), (3, V.int IntKind.i64 ((↑x : Int) + (1 : Int)))]
   [])
   (AS.mk [(0, encL (encZnode 1) 1 l), (3, V.int IntKind.i64 (↑y : Int))] [])) ∧
   (((y ≤ List.length l) ∧
   (scanE (treeE l) y = (0 : Int))) ∧
   (List.length l - y < List.length l - x))))))))))))))))))))))))))))))))))))))))))))))))))))))))) ∧
   ((decide ((↑x : Int) < (↑(List.length l) : Int)) = false) →
   (((VLe (encL (encZnode 1) 1 l)
   (encL (encZnode 1) 1 (decL decZnode (encL (encZnode 1) 1 l)))) ∧
   (pr101 (decL decZnode (encL (encZnode 1) 1 l)) (ByteArray.mk #[(47 : UInt8)]))) ∧
   (((decide (atN (decL decZnode (encL (encZnode 1) 1 l)) (ByteArray.mk #[(47 : UInt8)]) < (0 : Int)) = true) →
   (VLe (V.int IntKind.i64 (4 : Int)) (V.int IntKind.i64 (treeF l)))) ∧
   ((decide (atN (decL decZnode (encL (encZnode 1) 1 l)) (ByteArray.mk #[(47 : UInt8)]) < (0 : Int)) = false) →
   ((∃ x_1 : Nat, ((SLe (AS.mk [(0, encL (encZnode 1) 1 l), (6, V.int IntKind.i64 (0 : Int))] [])
   (AS.mk [(0, encL (encZnode 1) 1 l), (6, V.int IntKind.i64 (↑x_1 : Int))] [])) ∧
   ((x_1 ≤ List.length l) ∧
   (∀ j : Nat,
   ((j < x_1) →
   (¬atN l (upF (Znode.path (atZ l j))) < (0 : Int))))))) ∧
   (∀ x_1 : Nat,
   (((x_1 ≤ List.length l) ∧
   (∀ j : Nat,
   ((j < x_1) →
   (¬atN l (upF (Znode.path (atZ l j))) < (0 : Int))))) →
   (((decide ((↑x_1 : Int) < (↑(List.length l) : Int)) = true) →
   ((((0 : Int) ≤ (↑x_1 : Int)) ∧
   ((↑x_1 : Int) < (↑(List.length l) : Int))) ∧
   ((pr102 (Znode.path (List.getD l (Int.toNat (↑x_1 : Int)) default))) ∧
   (((VLe (encL (encZnode 1) 1 l)
   (encL (encZnode 1) 1 (decL decZnode (encL (encZnode 1) 1 l)))) ∧
   (pr101 (decL decZnode (encL (encZnode 1) 1 l))
   (upF (Znode.path (List.getD l (Int.toNat (↑x_1 : Int)) default))))) ∧
   (((decide
   (atN (decL decZnode (encL (encZnode 1) 1 l))
   (upF (Znode.path (List.getD l (Int.toNat (↑x_1 : Int)) default))) <
   (0 : Int)) =
   true) →
   (VLe (V.int IntKind.i64 (4 : Int)) (V.int IntKind.i64 (treeF l)))) ∧
   ((decide
   (atN (decL decZnode (encL (encZnode 1) 1 l))
   (upF (Znode.path (List.getD l (Int.toNat (↑x_1 : Int)) default))) <
   (0 : Int)) =
   false) →
   ((inK IntKind.i64 ((↑x_1 : Int) + (1 : Int))) ∧
   (∃ y : Nat, ((SLe
   (AS.mk [(0, encL (encZnode 1) 1 l), (6, V.int IntKind.i64 ((↑x_1 : Int) + (1 : Int)))]
   [])
   (AS.mk [(0, encL (encZnode 1) 1 l), (6, V.int IntKind.i64 (↑y : Int))] [])) ∧
   (((y ≤ List.length l) ∧
   (∀ j : Nat,
   ((j < y) →
   (¬atN l (upF (Znode.path (atZ l j))) < (0 : Int))))) ∧
   (List.length l - y < List.length l - x_1))))))))))) ∧
   ((decide ((↑x_1 : Int) < (↑(List.length l) : Int)) = false) →
   ((∃ x_2 : Nat, ((SLe (AS.mk [(0, encL (encZnode 1) 1 l), (7, V.int IntKind.i64 (0 : Int))] [])
   (AS.mk [(0, encL (encZnode 1) 1 l), (7, V.int IntKind.i64 (↑x_2 : Int))] [])) ∧
   ((x_2 ≤ List.length l) ∧
   (∀ j : Nat,
   ((j < x_2) →
   (Znode.owner (atZ l (Int.toNat (atN l (upF (Znode.path (atZ l j)))))) = (0 : Int))))))) ∧
   (∀ x_2 : Nat,
   (((x_2 ≤ List.length l) ∧
   (∀ j : Nat,
   ((j < x_2) →
   (Znode.owner (atZ l (Int.toNat (atN l (upF (Znode.path (atZ l j)))))) = (0 : Int))))) →
   (((decide ((↑x_2 : Int) < (↑(List.length l) : Int)) = true) →
   ((((0 : Int) ≤ (↑x_2 : Int)) ∧
   ((↑x_2 : Int) < (↑(List.length l) : Int))) ∧
   ((pr102 (Znode.path (List.getD l (Int.toNat (↑x_2 : Int)) default))) ∧
   (((VLe (encL (encZnode 1) 1 l)
   (encL (encZnode 1) 1 (decL decZnode (encL (encZnode 1) 1 l)))) ∧
   (pr101 (decL decZnode (encL (encZnode 1) 1 l))
   (upF (Znode.path (List.getD l (Int.toNat (↑x_2 : Int)) default))))) ∧
   ((((0 : Int) ≤
   atN (decL decZnode (encL (encZnode 1) 1 l))
   (upF (Znode.path (List.getD l (Int.toNat (↑x_2 : Int)) default)))) ∧
   (atN (decL decZnode (encL (encZnode 1) 1 l))
   (upF (Znode.path (List.getD l (Int.toNat (↑x_2 : Int)) default))) <
   (↑(List.length l) : Int))) ∧
   ((((Znode.owner
   (List.getD l
   (Int.toNat
   (atN (decL decZnode (encL (encZnode 1) 1 l))
   (upF (Znode.path (List.getD l (Int.toNat (↑x_2 : Int)) default)))))
   default) !=
   (0 : Int)) =
   true) →
   (VLe (V.int IntKind.i64 (1 : Int)) (V.int IntKind.i64 (treeF l)))) ∧
   (((Znode.owner
   (List.getD l
   (Int.toNat
   (atN (decL decZnode (encL (encZnode 1) 1 l))
   (upF (Znode.path (List.getD l (Int.toNat (↑x_2 : Int)) default)))))
   default) !=
   (0 : Int)) =
   false) →
   ((inK IntKind.i64 ((↑x_2 : Int) + (1 : Int))) ∧
   (∃ y : Nat, ((SLe
   (AS.mk [(0, encL (encZnode 1) 1 l), (7, V.int IntKind.i64 ((↑x_2 : Int) + (1 : Int)))]
   [])
   (AS.mk [(0, encL (encZnode 1) 1 l), (7, V.int IntKind.i64 (↑y : Int))] [])) ∧
   (((y ≤ List.length l) ∧
   (∀ j : Nat,
   ((j < y) →
   (Znode.owner (atZ l (Int.toNat (atN l (upF (Znode.path (atZ l j)))))) = (0 : Int))))) ∧
   (List.length l - y < List.length l - x_2)))))))))))) ∧
   ((decide ((↑x_2 : Int) < (↑(List.length l) : Int)) = false) →
   (VLe (V.int IntKind.i64 (0 : Int)) (V.int IntKind.i64 (treeF l))))))))))))))))))))))) := by
    have hl : l.length ≤ maxLen := hpre
    unfold maxLen at hl
    simp only [dec_encZnode, decL_Znode, strLt_dec, strEq_dec]
    refine ⟨fun h => ?_, fun h => ?_⟩
    · have h1 : 20 < l.length := by have := of_decide_eq_true h; omega
      exact vle_int (by unfold treeF; rw [if_pos h1])
    have h1 : ¬ 20 < l.length := by have := of_decide_eq_false h; omega
    have e1 : treeF l = if scanE (treeE l) l.length ≠ 0 then scanE (treeE l) l.length else if atN l top < 0 then 4 else if noUp l then 4 else if badUp l then 1 else 0 := if_neg h1
    refine ⟨⟨0, SLe.refl _, by omega, rfl⟩, ?_⟩
    rintro i ⟨hi, hz⟩
    refine ⟨fun h2 => ?_, fun h2 => ?_⟩
    · have hlt : i < l.length := by have := of_decide_eq_true h2; omega
      simp only [Int.toNat_natCast]
      have stop : ∀ c, c = treeE l i → c ≠ 0 → VLe (.int .i64 c) (.int .i64 (treeF l)) := fun c hc h0 => vle_int (by
        have := scanE_stop hz (by rw [← hc]; exact h0) _ hlt
        rw [e1, if_pos (by rw [this, ← hc]; exact h0), this, hc])
      refine ⟨⟨by omega, by omega⟩, trivial, fun h3 => ?_, fun h3 => ?_⟩
      · have h4 : pathF (l.getD i default).path ≠ 0 := by simpa using h3
        have h5 : nodeF (l.getD i default) = pathF (l.getD i default).path := if_pos h4
        exact stop _ (by unfold treeE; rw [if_pos (by rw [h5]; exact h4), h5]) h4
      have h4 : ¬ pathF (l.getD i default).path ≠ 0 := by simpa using h3
      have n0 : nodeF (l.getD i default) = if ¬ (inR (l.getD i default).data 0 9999 ∧ inR (l.getD i default).version 0 999 ∧ inR (l.getD i default).owner 0 9 ∧ inR (l.getD i default).next 0 100) then 3 else 0 := if_neg h4
      refine ⟨trivial, ?_⟩
      repeat (first | (refine And.intro (fun h _ => h) ?_) | (refine And.intro (fun _ h => h) ?_) | (refine And.intro ?aa ?_; case aa => (exact (tqI _))) | (refine And.intro ?aa ?_; case aa => (exact trivial)) | (refine And.intro ?aa ?_; case aa => (exact fun _ => trivial)) | (refine And.intro ?aa ?_; case aa => (intros; simp_all [pr53, pr99, pr54, pr100, pr101, pr102]; done)) | (refine And.intro ?aa ?_; case aa => (intros; exact inK64 (by omega))) | (refine And.intro ?aa ?_; case aa => (intros; simp only [decide_eq_true_eq] at *; omega)) | (intro q hq))
      have e0 : q = decide (¬ (inR (l.getD i default).data 0 9999 ∧ inR (l.getD i default).version 0 999 ∧ inR (l.getD i default).owner 0 9 ∧ inR (l.getD i default).next 0 100)) := by
        rw [hq]
        simp only [*]
        rw [Bool.eq_iff_iff, decide_eq_true_eq]
        by_cases a1 : inR (l.getD i default).data 0 9999 <;> by_cases a2 : inR (l.getD i default).version 0 999 <;> by_cases a3 : inR (l.getD i default).owner 0 9 <;> by_cases a4 : inR (l.getD i default).next 0 100 <;> simp only [a1, a2, a3, a4, decide_true, decide_false, Bool.not_true, Bool.not_false, cond_true, cond_false, and_true, true_and, and_false, false_and, not_true_eq_false, not_false_eq_true, Bool.false_eq_true]
      clear hq
      rw [e0]
      refine ⟨fun h5 => ?_, fun h5 => ?_⟩
      · have h6 : nodeF (l.getD i default) = 3 := by rw [n0, if_pos (of_decide_eq_true h5)]
        exact stop _ (by unfold treeE; rw [if_pos (by rw [h6]; decide), h6]) (by decide)
      have h6 : nodeF (l.getD i default) = 0 := by rw [n0, if_neg (of_decide_eq_false h5)]
      have e2 : treeE l i = if 0 < i ∧ ¬ lt (atZ l (i - 1)).path (atZ l i).path then 1 else 0 := if_neg (not_not_intro h6)
      clear e0
      repeat (first | (refine And.intro (fun h _ => h) ?_) | (refine And.intro (fun _ h => h) ?_) | (refine And.intro ?aa ?_; case aa => (exact (tqI _))) | (refine And.intro ?aa ?_; case aa => (exact (fun h => inK64 (by omega)))) | (refine And.intro ?aa ?_; case aa => (exact (fun h => ⟨by have := of_decide_eq_true h; omega, by omega⟩))) | (refine And.intro ?aa ?_; case aa => (intros; simp_all [pr53, pr99, pr54, pr100, pr101, pr102]; done)) | (refine And.intro ?aa ?_; case aa => (intros; exact inK64 (by omega))) | (refine And.intro ?aa ?_; case aa => (intros; simp only [decide_eq_true_eq] at *; omega)) | (intro q hq))
      have e3 : q = decide (0 < i ∧ ¬ lt (atZ l (i - 1)).path (atZ l i).path) := by
        rw [hq, Bool.eq_iff_iff, decide_eq_true_eq]
        by_cases a1 : 0 < i
        · have n1 : ((i : Int) - 1).toNat = i - 1 := by omega
          have a2 : decide ((i : Int) > 0) = true := decide_eq_true (by omega)
          rw [a2, n1]
          simp only [cond_true, Bool.or_eq_true, decide_eq_true_eq, a1, true_and]
          refine ⟨fun g => g.elim lt_asymm (fun g => by
            show ¬ lt _ (l.getD i default).path
            rw [g]
            exact lt_irrefl _), fun g => Classical.byContradiction fun k => ?_⟩
          exact k (Or.inr (lt_total (fun g2 => k (Or.inl g2)) g))
        · have a2 : decide ((i : Int) > 0) = false := decide_eq_false (by omega)
          rw [a2]
          simp [a1]
      refine ⟨fun h5 => ?_, fun h5 => ?_⟩
      · rw [e3] at h5
        exact stop _ (by rw [e2, if_pos (of_decide_eq_true h5)]) (by decide)
      · rw [e3] at h5
        exact ⟨inK64 (by omega), i + 1, SLe.refl _, ⟨by omega, scanE_next hz (by rw [e2, if_neg (of_decide_eq_false h5)])⟩, by omega⟩
    · have hge : i = l.length := by have := of_decide_eq_false h2; omega
      rw [hge] at hz
      have hr := rising_scan hz
      have e2 : treeF l = if atN l top < 0 then 4 else if noUp l then 4 else if badUp l then 1 else 0 := by rw [e1, if_neg (not_not_intro hz)]
      have hsz : ∀ j, j < l.length → (atZ l j).path.size ≤ 1000 := fun j hj => by
        have := path_size (node_path (node_scan hz hj)); omega
      refine ⟨⟨VLe.refl _, hpre⟩, fun h3 => ?_, fun h3 => ?_⟩
      · exact vle_int (by rw [e2, if_pos (of_decide_eq_true h3)])
      have e3 : treeF l = if noUp l then 4 else if badUp l then 1 else 0 := by rw [e2, if_neg (of_decide_eq_false h3)]
      refine ⟨⟨0, SLe.refl _, by omega, fun j hj => absurd hj (Nat.not_lt_zero j)⟩, ?_⟩
      rintro i ⟨hi, hj⟩
      refine ⟨fun h5 => ?_, fun h5 => ?_⟩
      · have hlt : i < l.length := by have := of_decide_eq_true h5; omega
        simp only [Int.toNat_natCast]
        refine ⟨⟨by omega, by omega⟩, hsz i hlt, ⟨VLe.refl _, hpre⟩, fun h6 => ?_, fun h6 => ⟨inK64 (by omega), i + 1, SLe.refl _, ⟨by omega, fun j h7 => ?_⟩, by omega⟩⟩
        · exact vle_int (by rw [e3, if_pos ⟨_, atZ_mem hlt, of_decide_eq_true h6⟩])
        · by_cases e : j = i
          · rw [e]; exact of_decide_eq_false h6
          · exact hj j (by omega)
      have hge : i = l.length := by have := of_decide_eq_false h5; omega
      subst hge
      have hn : ¬ noUp l := by
        rintro ⟨z, h6, h7⟩
        obtain ⟨k, hk, rfl⟩ := mem_atZ h6
        exact hj k hk h7
      have e4 : treeF l = if badUp l then 1 else 0 := by rw [e3, if_neg hn]
      refine ⟨⟨0, SLe.refl _, by omega, fun j hj => absurd hj (Nat.not_lt_zero j)⟩, ?_⟩
      rintro i ⟨hi, hk⟩
      refine ⟨fun h5 => ?_, fun h5 => ?_⟩
      · have hlt : i < l.length := by have := of_decide_eq_true h5; omega
        simp only [Int.toNat_natCast]
        have h8 : ¬ atN l (upF (l.getD i default).path) < 0 := hj i hlt
        have h9 : atN l (upF (l.getD i default).path) < l.length := (idxF_lt (isPath (upF (l.getD i default).path)) l).elim id fun g => absurd (show atN l (upF (l.getD i default).path) = -1 from g) (by omega)
        refine ⟨⟨by omega, by omega⟩, hsz i hlt, ⟨VLe.refl _, hpre⟩, ⟨by omega, by omega⟩, fun h6 => ?_, fun h6 => ⟨inK64 (by omega), i + 1, SLe.refl _, ⟨by omega, fun j h7 => ?_⟩, by omega⟩⟩
        · exact vle_int (by rw [e4, if_pos ⟨_, atZ_mem hlt, by simpa using h6⟩])
        · by_cases e : j = i
          · rw [e]; exact by simpa using h6
          · exact hk j (by omega)
      · have hge : i = l.length := by have := of_decide_eq_false h5; omega
        subst hge
        refine vle_int ?_
        rw [e4, if_neg]
        rintro ⟨z, h6, h7⟩
        obtain ⟨k, hk2, rfl⟩ := mem_atZ h6
        exact h7 (hk k hk2)
  exact Eq.mp (by kernel_rfl) key
theorem so67 : Sound Tryd.prog 67 sp67 := by
  refine sound_of_body hmix (pol := 0) Tryd.func67 rfl (by kernel_rfl) fun args bin ob r bout hDe hob => ?_
  unfold sp67 at hDe
  split at hDe
  · rename_i a0
    cases hDe
    exact ⟨rfl, rfl, Nat.le_of_ble_eq_true (by kernel_rfl), cx67 ((decL decZnode) a0), Eq.mp (by kernel_rfl) htt, Eq.mp (by kernel_rfl) da67, Eq.mp (by kernel_rfl) (noM_sound (P := Tryd.prog)), by kernel_rfl, [encL (encZnode 1) 1 (((decL decZnode) a0))], args_of_vles (⟨hob.1, trivial⟩), Eq.mp (by kernel_rfl) (bd67 ((decL decZnode) a0) (hob.2))⟩
  · cases hDe

end Go.Av
