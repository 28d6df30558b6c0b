/- Trees: what is wrong with them. -/
import Derived.Test.YtgefdljcommhhaaGreatDoorS2
import Derived.Test.YtgefdljcommhhaaGreatDoorP2
namespace Go.Av
open Go.Proofs
set_option maxRecDepth 100000
set_option maxHeartbeats 2000000
set_option linter.unusedVariables false
set_option linter.unusedSimpArgs false

theorem tqI (x : Bool) : tq x := fun h _ => h
theorem inU64 {n : Int} (h : 0 ≤ n ∧ n ≤ 18446744073709551615) : inK .u64 n := Go.IntWalk.u64_in _ h
theorem half (i j : Nat) : ((i : Int) + (j : Int)).fdiv (2 ^ (Int.toNat 1)) = (((i + j) / 2 : Nat) : Int) := by
  rw [Int.fdiv_eq_ediv_of_nonneg _ (by decide)]
  show ((i : Int) + j) / 2 = _
  omega

/-! ### internal/bytealg.CompareString -/
def pr92 (a : ByteArray) (b : ByteArray) : Prop := True
noncomputable def rs92 (a : ByteArray) (b : ByteArray) : V := .int .i64 (cmpF a b)
noncomputable def sp92 : FSpec := fun args bin => match args, bin with
  | [.str a0, .str a1], [] => some (pr92 a0 a1, rs92 a0 a1, [])
  | _, _ => none
noncomputable def D92 : Nat → Option (Bool × FSpec) := lk [(102, (false, sp102))]
theorem da92 : SoundAll Tryz.prog D92 := soundAll_cons so102 (soundAll_nil)
noncomputable def cx92 (a : ByteArray) (b : ByteArray) : Cx := ⟨tt, D92, Tryz.f92.ntmps, [0, 1, 4], [], [], fun _ => none, [], noM, []⟩
theorem bd92 (a : ByteArray) (b : ByteArray) (hpre : pr92 a b) : bodyP (cx92 a b) Tryz.f92 0 [.str (a), .str (b)] (fun rr => VLe rr (rs92 a b)) := by
  have key : ((True) ∧ (VLe (vi (Lib.compareBytes (Array.toList (ByteArray.data a)) (Array.toList (ByteArray.data b)))) (vi (cmpF a b)))) := by
    delta vi
    exact ⟨trivial, VLe.refl _⟩
  exact Eq.mp (by kernel_rfl) key
theorem so92 : Sound Tryz.prog 92 sp92 := by
  refine sound_of_body hmix (pol := 0) Tryz.func92 rfl (by kernel_rfl) fun args bin ob r bout hDe hob => ?_
  unfold sp92 at hDe
  split at hDe
  · rename_i a0 a1
    cases hDe
    exact ⟨rfl, rfl, Nat.le_of_ble_eq_true (by kernel_rfl), cx92 a0 a1, Eq.mp (by kernel_rfl) htt, Eq.mp (by kernel_rfl) da92, Eq.mp (by kernel_rfl) (noM_sound (P := Tryz.prog)), by kernel_rfl, [.str (a0), .str (a1)], args_of_vles (⟨VLe.refl _, VLe.refl _, trivial⟩), Eq.mp (by kernel_rfl) (bd92 a0 a1 (hob))⟩
  · cases hDe

/-! ### strings.Compare -/
def pr80 (a : ByteArray) (b : ByteArray) : Prop := True
noncomputable def rs80 (a : ByteArray) (b : ByteArray) : V := .int .i64 (cmpF a b)
noncomputable def sp80 : FSpec := fun args bin => match args, bin with
  | [.str a0, .str a1], [] => some (pr80 a0 a1, rs80 a0 a1, [])
  | _, _ => none
noncomputable def D80 : Nat → Option (Bool × FSpec) := lk [(92, (false, sp92))]
theorem da80 : SoundAll Tryz.prog D80 := soundAll_cons so92 (soundAll_nil)
noncomputable def cx80 (a : ByteArray) (b : ByteArray) : Cx := ⟨tt, D80, Tryz.f80.ntmps, [0, 1, 4], [], [], fun _ => none, [], noM, []⟩
theorem bd80 (a : ByteArray) (b : ByteArray) (hpre : pr80 a b) : bodyP (cx80 a b) Tryz.f80 0 [.str (a), .str (b)] (fun rr => VLe rr (rs80 a b)) := by
  have key : ((pr92 a b) ∧ (VLe (vi (cmpF a b)) (vi (cmpF a b)))) := by
    delta vi
    exact ⟨trivial, VLe.refl _⟩
  exact Eq.mp (by kernel_rfl) key
theorem so80 : Sound Tryz.prog 80 sp80 := by
  refine sound_of_body hmix (pol := 0) Tryz.func80 rfl (by kernel_rfl) fun args bin ob r bout hDe hob => ?_
  unfold sp80 at hDe
  split at hDe
  · rename_i a0 a1
    cases hDe
    exact ⟨rfl, rfl, Nat.le_of_ble_eq_true (by kernel_rfl), cx80 a0 a1, Eq.mp (by kernel_rfl) htt, Eq.mp (by kernel_rfl) da80, Eq.mp (by kernel_rfl) (noM_sound (P := Tryz.prog)), by kernel_rfl, [.str (a0), .str (a1)], args_of_vles (⟨VLe.refl _, VLe.refl _, trivial⟩), Eq.mp (by kernel_rfl) (bd80 a0 a1 (hob))⟩
  · cases hDe

/-! ### impl.pathOrder -/
def pr72 (z : Znode) (t : ByteArray) : Prop := True
noncomputable def rs72 (z : Znode) (t : ByteArray) : V := .int .i64 (cmpF z.path t)
noncomputable def sp72 : FSpec := fun args bin => match args, bin with
  | [a0, .str a1], [] => some (VLe a0 (encZnode 1 ((decZnode a0))) ∧ pr72 (decZnode a0) a1, rs72 (decZnode a0) a1, [])
  | _, _ => none
noncomputable def D72 : Nat → Option (Bool × FSpec) := lk [(80, (false, sp80))]
theorem da72 : SoundAll Tryz.prog D72 := soundAll_cons so80 (soundAll_nil)
noncomputable def cx72 (z : Znode) (t : ByteArray) : Cx := ⟨tt, D72, Tryz.f72.ntmps, [0, 1, 2, 4], [], [], fun _ => none, [], noM, []⟩
theorem bd72 (z : Znode) (t : ByteArray) (hpre : pr72 z t) : bodyP (cx72 z t) Tryz.f72 0 [encZnode 1 (z), .str (t)] (fun rr => VLe rr (rs72 z t)) := by
  have key : ((pr80 (Znode.path z) t) ∧ (VLe (vi (cmpF (Znode.path z) t)) (vi (cmpF (Znode.path z) t)))) := by
    delta vi
    exact ⟨trivial, VLe.refl _⟩
  exact Eq.mp (by kernel_rfl) key
theorem so72 : Sound Tryz.prog 72 sp72 := by
  refine sound_of_body hmix (pol := 0) Tryz.func72 rfl (by kernel_rfl) fun args bin ob r bout hDe hob => ?_
  unfold sp72 at hDe
  split at hDe
  · rename_i a0 a1
    cases hDe
    exact ⟨rfl, rfl, Nat.le_of_ble_eq_true (by kernel_rfl), cx72 (decZnode a0) a1, Eq.mp (by kernel_rfl) htt, Eq.mp (by kernel_rfl) da72, Eq.mp (by kernel_rfl) (noM_sound (P := Tryz.prog)), by kernel_rfl, [encZnode 1 ((decZnode a0)), .str (a1)], args_of_vles (⟨hob.1, VLe.refl _, trivial⟩), Eq.mp (by kernel_rfl) (bd72 (decZnode a0) a1 (hob.2))⟩
  · cases hDe

/-! ### slices.BinarySearchFunc(()loop.example/g00369/impl.Znode,loop.example/g00369/impl.Znode,string)@impl.pathOrder -/
def pr71_72 (l : List Znode) (t : ByteArray) : Prop := rising l ∧ l.length ≤ 1000
noncomputable def rs71_72 (l : List Znode) (t : ByteArray) : V := .tup [.int .i64 (posZ l t), .bool (isZ l t)]
noncomputable def sp71_72 : FSpec := fun args bin => match args, bin with
  | [a0, .str a1, .fn 72 []], [] => some (VLe a0 (encL (encZnode 1) 1 (((decL decZnode) a0))) ∧ pr71_72 ((decL decZnode) a0) a1, rs71_72 ((decL decZnode) a0) a1, [])
  | _, _ => none
noncomputable def in71_72_3 (l : List Znode) (t : ByteArray) : LoopInv :=
  ⟨Nat × Nat, fun p => ⟨[(0, encL (encZnode 1) 1 l), (1, .str t), (2, .fn 72 []), (8, .int .i64 l.length), (9, .int .i64 p.1), (10, .int .i64 p.2)], []⟩,
    fun p => p.1 ≤ p.2 ∧ p.2 ≤ l.length ∧ (∀ k, k < p.1 → lt (atZ l k).path t) ∧ (p.2 < l.length → ¬ lt (atZ l p.2).path t), fun p => p.2 - p.1⟩
noncomputable def iv71_72 (l : List Znode) (t : ByteArray) : Nat → Option LoopInv := fun rg_ => match rg_ with
  | 3 => some (in71_72_3 l t)
  | _ => none
noncomputable def D71_72 : Nat → Option (Bool × FSpec) := lk [(72, (false, sp72))]
theorem da71_72 : SoundAll Tryz.prog D71_72 := soundAll_cons so72 (soundAll_nil)
noncomputable def cx71_72 (l : List Znode) (t : ByteArray) : Cx := ⟨tt, D71_72, Tryz.f71.ntmps, [0, 1, 2, 6, 7, 8, 9, 10, 11, 17, 31], [(3, ⟨[(0, none), (1, none), (2, none), (8, none), (9, none), (10, none)], []⟩)], [], iv71_72 l t, [], noM, []⟩
noncomputable def k71_72_0 (l : List Znode) (x : Nat × Nat) : V := (encZnode 1 (List.getD l (Int.toNat (Int.fdiv ((↑x.1 : Int) + (↑x.2 : Int)) ((2 : Int) ^ Int.toNat (1 : Int)))) default))
noncomputable def k71_72_1 (l : List Znode) (x : Nat × Nat) : Bool := (decide ((↑x.1 : Int) < (↑(List.length l) : Int)))
noncomputable def k71_72_2 (l : List Znode) (x : Nat × Nat) : V := (encZnode 1 (List.getD l (Int.toNat (↑x.1 : Int)) default))
noncomputable def k71_72_3 (l : List Znode) (t : ByteArray) (y : Nat × Nat) : AS := (AS.mk [(0, encL (encZnode 1) 1 l), (1, V.str t), (2, V.fn (72 : FuncId) []), (8, vi (↑(List.length l) : Int)), (9, vi (↑y.1 : Int)), (10, vi (↑y.2 : Int))] [])
theorem bd71_72 (l : List Znode) (t : ByteArray) (hpre : pr71_72 l t) : bodyP (cx71_72 l t) Tryz.f71 0 [encL (encZnode 1) 1 (l), .str (t), .fn 72 []] (fun rr => VLe rr (rs71_72 l t)) := by
  have key : ((∃ x : Nat × Nat, ((SLe (AS.mk [(0, encL (encZnode 1) 1 l), (1, V.str t), (2, V.fn (72 : FuncId) []), (8, vi (↑(List.length l) : Int)), (9, vi (0 : Int)), (10, vi (↑(List.length l) : Int))] []) (AS.mk [(0, encL (encZnode 1) 1 l), (1, V.str t), (2, V.fn (72 : FuncId) []), (8, vi (↑(List.length l) : Int)), (9, vi (↑x.1 : Int)), (10, vi (↑x.2 : Int))] [])) ∧ ((Prod.fst x ≤ Prod.snd x) ∧ ((Prod.snd x ≤ List.length l) ∧ ((∀ k : Nat, ((k < Prod.fst x) → (lt (Znode.path (atZ l k)) t))) ∧ ((Prod.snd x < List.length l) → (¬lt (Znode.path (atZ l x.2)) t))))))) ∧ (∀ x : Nat × Nat, (((Prod.fst x ≤ Prod.snd x) ∧ ((Prod.snd x ≤ List.length l) ∧ ((∀ k : Nat, ((k < Prod.fst x) → (lt (Znode.path (atZ l k)) t))) ∧ ((Prod.snd x < List.length l) → (¬lt (Znode.path (atZ l x.2)) t))))) → (((decide ((↑x.1 : Int) < (↑x.2 : Int)) = true) → ((inK IntKind.i64 ((↑x.1 : Int) + (↑x.2 : Int))) ∧ ((inK IntKind.u64 ((↑x.1 : Int) + (↑x.2 : Int))) ∧ ((((0 : Int) ≤ (1 : Int)) ∧ (Int.toNat (1 : Int) ≤ IntKind.bits IntKind.u64)) ∧ ((inK IntKind.i64 (Int.fdiv ((↑x.1 : Int) + (↑x.2 : Int)) ((2 : Int) ^ Int.toNat (1 : Int)))) ∧ ((((0 : Int) ≤ Int.fdiv ((↑x.1 : Int) + (↑x.2 : Int)) ((2 : Int) ^ Int.toNat (1 : Int))) ∧ (Int.fdiv ((↑x.1 : Int) + (↑x.2 : Int)) ((2 : Int) ^ Int.toNat (1 : Int)) < (↑(List.length l) : Int))) ∧ (((VLe (k71_72_0 l x) (encZnode 1 (decZnode (k71_72_0 l x)))) ∧ (pr72 (decZnode (k71_72_0 l x)) t)) ∧ (((decide (cmpF (Znode.path (decZnode (k71_72_0 l x))) t < (0 : Int)) = true) → ((inK IntKind.i64 (Int.fdiv ((↑x.1 : Int) + (↑x.2 : Int)) ((2 : Int) ^ Int.toNat (1 : Int)) + (1 : Int))) ∧ (∃ y : Nat × Nat, ((SLe (AS.mk [(0, encL (encZnode 1) 1 l), (1, V.str t), (2, V.fn (72 : FuncId) []), (8, vi (↑(List.length l) : Int)), (9, vi (Int.fdiv ((↑x.1 : Int) + (↑x.2 : Int)) ((2 : Int) ^ Int.toNat (1 : Int)) + (1 : Int))), (10, vi (↑x.2 : Int))] []) (k71_72_3 l t y)) ∧ (((Prod.fst y ≤ Prod.snd y) ∧ ((Prod.snd y ≤ List.length l) ∧ ((∀ k : Nat, ((k < Prod.fst y) → (lt (Znode.path (atZ l k)) t))) ∧ ((Prod.snd y < List.length l) → (¬lt (Znode.path (atZ l y.2)) t))))) ∧ (Prod.snd y - Prod.fst y < Prod.snd x - Prod.fst x)))))) ∧ ((decide (cmpF (Znode.path (decZnode (k71_72_0 l x))) t < (0 : Int)) = false) → (∃ y : Nat × Nat, ((SLe (AS.mk [(0, encL (encZnode 1) 1 l), (1, V.str t), (2, V.fn (72 : FuncId) []), (8, vi (↑(List.length l) : Int)), (9, vi (↑x.1 : Int)), (10, vi (Int.fdiv ((↑x.1 : Int) + (↑x.2 : Int)) ((2 : Int) ^ Int.toNat (1 : Int))))] []) (k71_72_3 l t y)) ∧ (((Prod.fst y ≤ Prod.snd y) ∧ ((Prod.snd y ≤ List.length l) ∧ ((∀ k : Nat, ((k < Prod.fst y) → (lt (Znode.path (atZ l k)) t))) ∧ ((Prod.snd y < List.length l) → (¬lt (Znode.path (atZ l y.2)) t))))) ∧ (Prod.snd y - Prod.fst y < Prod.snd x - Prod.fst x))))))))))))) ∧ ((decide ((↑x.1 : Int) < (↑x.2 : Int)) = false) → ((tq (k71_72_1 l x)) ∧ ((tq (k71_72_1 l x)) ∧ (((decide ((↑x.1 : Int) < (↑(List.length l) : Int)) = true) → (((0 : Int) ≤ (↑x.1 : Int)) ∧ ((↑x.1 : Int) < (↑(List.length l) : Int)))) ∧ ((tq (k71_72_1 l x)) ∧ ((tq (k71_72_1 l x)) ∧ ((tq (k71_72_1 l x)) ∧ ((tq (k71_72_1 l x)) ∧ (((decide ((↑x.1 : Int) < (↑(List.length l) : Int)) = true) → ((VLe (k71_72_2 l x) (encZnode 1 (decZnode (k71_72_2 l x)))) ∧ (pr72 (decZnode (k71_72_2 l x)) t))) ∧ ((tq (k71_72_1 l x)) ∧ (((true = true) → ((decide ((↑x.1 : Int) < (↑(List.length l) : Int)) = true) → (decide ((↑x.1 : Int) < (↑(List.length l) : Int)) = true))) ∧ (∀ b : Bool, ((b = bif decide ((↑x.1 : Int) < (↑(List.length l) : Int)) then cmpF (Znode.path (decZnode (k71_72_2 l x))) t == (0 : Int) else false) → (VLe (V.tup [vi (↑x.1 : Int), V.bool b]) (V.tup [vi (↑(posZ l t) : Int), V.bool (isZ l t)]))))))))))))))))))) := by
    delta k71_72_3; delta k71_72_2; delta k71_72_1; delta k71_72_0; delta vi
    obtain ⟨hr, hl⟩ := hpre
    simp only [dec_encZnode, half]
    refine ⟨⟨(0, l.length), SLe.refl _, by simp, by simp, fun k hk => absurd hk (Nat.not_lt_zero k), fun h => absurd h (Nat.lt_irrefl _)⟩, ?_⟩
    rintro ⟨i, j⟩ ⟨h1, h2, h3, h4⟩
    simp only at h1 h2 h3 h4 ⊢
    refine ⟨fun h => ?_, fun h => ?_⟩
    · have hlt : i < j := by have := of_decide_eq_true h; omega
      have m1 : i ≤ (i + j) / 2 ∧ (i + j) / 2 < j := by omega
      have m2 : i + j ≤ 2000 := by omega
      generalize (i + j) / 2 = m at *
      simp only [Int.toNat_natCast]
      refine ⟨inK64 (by omega), inU64 (by omega), by decide, inK64 (by omega), ⟨by omega, by omega⟩, ⟨VLe.refl _, trivial⟩, fun h5 => ?_, fun h5 => ?_⟩
      · have h6 : lt (atZ l m).path t := (cmpF_lt _ _).1 (of_decide_eq_true h5)
        refine ⟨inK64 (by omega), (m + 1, j), SLe.refl _, ⟨by simp only; omega, h2, fun k hk => ?_, h4⟩, by simp only; omega⟩
        by_cases e : k = m
        · subst e; exact h6
        · exact lt_trans (hr k m (by simp only at hk; omega) (by omega)) h6
      · have h6 : ¬ lt (atZ l m).path t := fun g => of_decide_eq_false h5 ((cmpF_lt _ _).2 g)
        exact ⟨(i, m), SLe.refl _, ⟨by simp only; omega, by simp only; omega, h3, fun _ => h6⟩, by simp only; omega⟩
    · have hij : i = j := by have := of_decide_eq_false h; omega
      subst hij
      have hp : posZ l t = i := posZ_eq h2 h3 h4
      repeat (first | (refine And.intro (fun h _ => h) ?_) | (refine And.intro (fun _ h => h) ?_) | (refine And.intro ?aa ?_; case aa => (exact (tqI _))) | (refine And.intro ?aa ?_; case aa => (exact (fun h => ⟨by omega, by have := of_decide_eq_true h; omega⟩))) | (refine And.intro ?aa ?_; case aa => (exact fun _ => ⟨VLe.refl _, trivial⟩)) | (refine And.intro ?aa ?_; case aa => (intros; simp_all [pr72]; done)) | (refine And.intro ?aa ?_; case aa => (intros; exact inK64 (by omega))) | (refine And.intro ?aa ?_; case aa => (intros; simp only [decide_eq_true_eq] at *; omega)) | (intro q hq))
      refine vle_tup ⟨vle_int (by rw [hp]), vle_bool ?_, trivial⟩
      rw [hq]
      unfold isZ
      rw [hp, Bool.eq_iff_iff, decide_eq_true_eq]
      by_cases a1 : i < l.length
      · have a2 : decide ((i : Int) < (l.length : Int)) = true := decide_eq_true (by omega)
        rw [a2]
        simp only [cond_true, beq_iff_eq, cmpF_eq, Int.toNat_natCast, a1, true_and]
      · have a2 : decide ((i : Int) < (l.length : Int)) = false := decide_eq_false (by omega)
        rw [a2]
        simp [a1]
  exact Eq.mp (by kernel_rfl) key
theorem so71_72 : Sound Tryz.prog 71 sp71_72 := by
  refine sound_of_body hmix (pol := 0) Tryz.func71 rfl (by kernel_rfl) fun args bin ob r bout hDe hob => ?_
  unfold sp71_72 at hDe
  split at hDe
  · rename_i a0 a1
    cases hDe
    exact ⟨rfl, rfl, Nat.le_of_ble_eq_true (by kernel_rfl), cx71_72 ((decL decZnode) a0) a1, Eq.mp (by kernel_rfl) htt, Eq.mp (by kernel_rfl) da71_72, Eq.mp (by kernel_rfl) (noM_sound (P := Tryz.prog)), by kernel_rfl, [encL (encZnode 1) 1 (((decL decZnode) a0)), .str (a1), .fn 72 []], args_of_vles (⟨hob.1, VLe.refl _, VLe.refl _, trivial⟩), Eq.mp (by kernel_rfl) (bd71_72 ((decL decZnode) a0) a1 (hob.2))⟩
  · cases hDe

/-! ### impl.find -/
def pr50 (l : List Znode) (t : ByteArray) : Prop := rising l ∧ l.length ≤ 1000
noncomputable def rs50 (l : List Znode) (t : ByteArray) : V := .tup [.int .i64 (posZ l t), .bool (isZ l t)]
noncomputable def sp50 : FSpec := fun args bin => match args, bin with
  | [a0, .str a1], [] => some (VLe a0 (encL (encZnode 1) 1 (((decL decZnode) a0))) ∧ pr50 ((decL decZnode) a0) a1, rs50 ((decL decZnode) a0) a1, [])
  | _, _ => none
noncomputable def D50 : Nat → Option (Bool × FSpec) := lk [(71, (false, sp71_72))]
theorem da50 : SoundAll Tryz.prog D50 := soundAll_cons so71_72 (soundAll_nil)
noncomputable def cx50 (l : List Znode) (t : ByteArray) : Cx := ⟨tt, D50, Tryz.f50.ntmps, [0, 1, 4, 5], [], [], fun _ => none, [], noM, []⟩
theorem bd50 (l : List Znode) (t : ByteArray) (hpre : pr50 l t) : bodyP (cx50 l t) Tryz.f50 0 [encL (encZnode 1) 1 (l), .str (t)] (fun rr => VLe rr (rs50 l t)) := by
  have key : (((VLe (encL (encZnode 1) 1 l) (encL (encZnode 1) 1 (decL decZnode (encL (encZnode 1) 1 l)))) ∧ (pr71_72 (decL decZnode (encL (encZnode 1) 1 l)) t)) ∧ (VLe (V.tup [vi (↑(posZ (decL decZnode (encL (encZnode 1) 1 l)) t) : Int), V.bool (isZ (decL decZnode (encL (encZnode 1) 1 l)) t)]) (V.tup [vi (↑(posZ l t) : Int), V.bool (isZ l t)]))) := by
    delta vi
    simp only [decL_Znode]
    exact ⟨⟨VLe.refl _, hpre⟩, VLe.refl _⟩
  exact Eq.mp (by kernel_rfl) key
theorem so50 : Sound Tryz.prog 50 sp50 := by
  refine sound_of_body hmix (pol := 0) Tryz.func50 rfl (by kernel_rfl) fun args bin ob r bout hDe hob => ?_
  unfold sp50 at hDe
  split at hDe
  · rename_i a0 a1
    cases hDe
    exact ⟨rfl, rfl, Nat.le_of_ble_eq_true (by kernel_rfl), cx50 ((decL decZnode) a0) a1, Eq.mp (by kernel_rfl) htt, Eq.mp (by kernel_rfl) da50, Eq.mp (by kernel_rfl) (noM_sound (P := Tryz.prog)), by kernel_rfl, [encL (encZnode 1) 1 (((decL decZnode) a0)), .str (a1)], args_of_vles (⟨hob.1, VLe.refl _, trivial⟩), Eq.mp (by kernel_rfl) (bd50 ((decL decZnode) a0) a1 (hob.2))⟩
  · cases hDe

/-! ### impl.isData -/
def pr75 (n : Int) : Prop := True
noncomputable def rs75 (n : Int) : V := .bool (decide (inR n 0 9999))
noncomputable def sp75 : FSpec := fun args bin => match args, bin with
  | [.int .i64 a0], [] => some (pr75 a0, rs75 a0, [])
  | _, _ => none
noncomputable def D75 : Nat → Option (Bool × FSpec) := lk [(22, (false, sp22))]
theorem da75 : SoundAll Tryz.prog D75 := soundAll_cons so22 (soundAll_nil)
noncomputable def cx75 (n : Int) : Cx := ⟨tt, D75, Tryz.f75.ntmps, [0, 2], [], [], fun _ => none, [], noM, []⟩
theorem bd75 (n : Int) (hpre : pr75 n) : bodyP (cx75 n) Tryz.f75 0 [.int .i64 (n)] (fun rr => VLe rr (rs75 n)) := by
  have key : ((pr22 n (0 : Int) (9999 : Int)) ∧ (VLe (V.bool (decide (inR n (0 : Int) (9999 : Int)))) (V.bool (decide (inR n (0 : Int) (9999 : Int)))))) := by
    exact ⟨trivial, VLe.refl _⟩
  exact Eq.mp (by kernel_rfl) key
theorem so75 : Sound Tryz.prog 75 sp75 := by
  refine sound_of_body hmix (pol := 0) Tryz.func75 rfl (by kernel_rfl) fun args bin ob r bout hDe hob => ?_
  unfold sp75 at hDe
  split at hDe
  · rename_i a0
    cases hDe
    exact ⟨rfl, rfl, Nat.le_of_ble_eq_true (by kernel_rfl), cx75 a0, Eq.mp (by kernel_rfl) htt, Eq.mp (by kernel_rfl) da75, Eq.mp (by kernel_rfl) (noM_sound (P := Tryz.prog)), by kernel_rfl, [.int .i64 (a0)], args_of_vles (⟨VLe.refl _, trivial⟩), Eq.mp (by kernel_rfl) (bd75 a0 (hob))⟩
  · cases hDe

/-! ### impl.isOwner -/
def pr76 (n : Int) : Prop := True
noncomputable def rs76 (n : Int) : V := .bool (decide (inR n 0 9))
noncomputable def sp76 : FSpec := fun args bin => match args, bin with
  | [.int .i64 a0], [] => some (pr76 a0, rs76 a0, [])
  | _, _ => none
noncomputable def D76 : Nat → Option (Bool × FSpec) := lk [(22, (false, sp22))]
theorem da76 : SoundAll Tryz.prog D76 := soundAll_cons so22 (soundAll_nil)
noncomputable def cx76 (n : Int) : Cx := ⟨tt, D76, Tryz.f76.ntmps, [0, 2], [], [], fun _ => none, [], noM, []⟩
theorem bd76 (n : Int) (hpre : pr76 n) : bodyP (cx76 n) Tryz.f76 0 [.int .i64 (n)] (fun rr => VLe rr (rs76 n)) := by
  have key : ((pr22 n (0 : Int) (9 : Int)) ∧ (VLe (V.bool (decide (inR n (0 : Int) (9 : Int)))) (V.bool (decide (inR n (0 : Int) (9 : Int)))))) := by
    exact ⟨trivial, VLe.refl _⟩
  exact Eq.mp (by kernel_rfl) key
theorem so76 : Sound Tryz.prog 76 sp76 := by
  refine sound_of_body hmix (pol := 0) Tryz.func76 rfl (by kernel_rfl) fun args bin ob r bout hDe hob => ?_
  unfold sp76 at hDe
  split at hDe
  · rename_i a0
    cases hDe
    exact ⟨rfl, rfl, Nat.le_of_ble_eq_true (by kernel_rfl), cx76 a0, Eq.mp (by kernel_rfl) htt, Eq.mp (by kernel_rfl) da76, Eq.mp (by kernel_rfl) (noM_sound (P := Tryz.prog)), by kernel_rfl, [.int .i64 (a0)], args_of_vles (⟨VLe.refl _, trivial⟩), Eq.mp (by kernel_rfl) (bd76 a0 (hob))⟩
  · cases hDe

/-! ### spec.l2Data -/
def pr41 (n : Int) : Prop := True
noncomputable def rs41 (n : Int) : V := .bool (decide (inR n 0 9999))
noncomputable def sp41 : FSpec := fun args bin => match args, bin with
  | [.int .i64 a0], [] => some (pr41 a0, rs41 a0, [])
  | _, _ => none
noncomputable def D41 : Nat → Option (Bool × FSpec) := lk [(42, (false, sp42))]
theorem da41 : SoundAll Tryz.prog D41 := soundAll_cons so42 (soundAll_nil)
noncomputable def cx41 (n : Int) : Cx := ⟨tt, D41, Tryz.f41.ntmps, [0, 2], [], [], fun _ => none, [], noM, []⟩
theorem bd41 (n : Int) (hpre : pr41 n) : bodyP (cx41 n) Tryz.f41 0 [.int .i64 (n)] (fun rr => VLe rr (rs41 n)) := by
  have key : ((pr42 n (0 : Int) (9999 : Int)) ∧ (VLe (V.bool (decide (inR n (0 : Int) (9999 : Int)))) (V.bool (decide (inR n (0 : Int) (9999 : Int)))))) := by
    exact ⟨trivial, VLe.refl _⟩
  exact Eq.mp (by kernel_rfl) key
theorem so41 : Sound Tryz.prog 41 sp41 := by
  refine sound_of_body hmix (pol := 0) Tryz.func41 rfl (by kernel_rfl) fun args bin ob r bout hDe hob => ?_
  unfold sp41 at hDe
  split at hDe
  · rename_i a0
    cases hDe
    exact ⟨rfl, rfl, Nat.le_of_ble_eq_true (by kernel_rfl), cx41 a0, Eq.mp (by kernel_rfl) htt, Eq.mp (by kernel_rfl) da41, Eq.mp (by kernel_rfl) (noM_sound (P := Tryz.prog)), by kernel_rfl, [.int .i64 (a0)], args_of_vles (⟨VLe.refl _, trivial⟩), Eq.mp (by kernel_rfl) (bd41 a0 (hob))⟩
  · cases hDe

/-! ### spec.l2Owner -/
def pr43 (n : Int) : Prop := True
noncomputable def rs43 (n : Int) : V := .bool (decide (inR n 0 9))
noncomputable def sp43 : FSpec := fun args bin => match args, bin with
  | [.int .i64 a0], [] => some (pr43 a0, rs43 a0, [])
  | _, _ => none
noncomputable def D43 : Nat → Option (Bool × FSpec) := lk [(42, (false, sp42))]
theorem da43 : SoundAll Tryz.prog D43 := soundAll_cons so42 (soundAll_nil)
noncomputable def cx43 (n : Int) : Cx := ⟨tt, D43, Tryz.f43.ntmps, [0, 2], [], [], fun _ => none, [], noM, []⟩
theorem bd43 (n : Int) (hpre : pr43 n) : bodyP (cx43 n) Tryz.f43 0 [.int .i64 (n)] (fun rr => VLe rr (rs43 n)) := by
  have key : ((pr42 n (0 : Int) (9 : Int)) ∧ (VLe (V.bool (decide (inR n (0 : Int) (9 : Int)))) (V.bool (decide (inR n (0 : Int) (9 : Int)))))) := by
    exact ⟨trivial, VLe.refl _⟩
  exact Eq.mp (by kernel_rfl) key
theorem so43 : Sound Tryz.prog 43 sp43 := by
  refine sound_of_body hmix (pol := 0) Tryz.func43 rfl (by kernel_rfl) fun args bin ob r bout hDe hob => ?_
  unfold sp43 at hDe
  split at hDe
  · rename_i a0
    cases hDe
    exact ⟨rfl, rfl, Nat.le_of_ble_eq_true (by kernel_rfl), cx43 a0, Eq.mp (by kernel_rfl) htt, Eq.mp (by kernel_rfl) da43, Eq.mp (by kernel_rfl) (noM_sound (P := Tryz.prog)), by kernel_rfl, [.int .i64 (a0)], args_of_vles (⟨VLe.refl _, trivial⟩), Eq.mp (by kernel_rfl) (bd43 a0 (hob))⟩
  · cases hDe

/-! ### impl.nodeFault -/
def pr62 (z : Znode) : Prop := True
noncomputable def rs62 (z : Znode) : V := .int .i64 (nodeF z)
noncomputable def sp62 : FSpec := fun args bin => match args, bin with
  | [a0], [] => some (VLe a0 (encZnode 1 ((decZnode a0))) ∧ pr62 (decZnode a0), rs62 (decZnode a0), [])
  | _, _ => none
noncomputable def D62 : Nat → Option (Bool × FSpec) := lk [(19, (false, sp19)), (75, (false, sp75)), (22, (false, sp22)), (76, (false, sp76))]
theorem da62 : SoundAll Tryz.prog D62 := soundAll_cons so19 (soundAll_cons so75 (soundAll_cons so22 (soundAll_cons so76 (soundAll_nil))))
noncomputable def cx62 (z : Znode) : Cx := ⟨tt, D62, Tryz.f62.ntmps, [0, 1, 2, 3, 8, 31], [], [], fun _ => none, [], noM, []⟩
theorem bd62 (z : Znode) (hpre : pr62 z) : bodyP (cx62 z) Tryz.f62 0 [encZnode 1 (z)] (fun rr => VLe rr (rs62 z)) := by
  have key : ((pr19 (Znode.path z)) ∧ ((((pathF (Znode.path z) != (0 : Int)) = true) → (VLe (vi (pathF (Znode.path z))) (vi (nodeF z)))) ∧ (((pathF (Znode.path z) != (0 : Int)) = false) → ((pr75 (Znode.data z)) ∧ ((tq (!!decide (inR (Znode.data z) (0 : Int) (9999 : Int)))) ∧ ((tq (!!decide (inR (Znode.data z) (0 : Int) (9999 : Int)))) ∧ ((((!!decide (inR (Znode.data z) (0 : Int) (9999 : Int))) = true) → (pr22 (Znode.version z) (0 : Int) (999 : Int))) ∧ ((tq (!!decide (inR (Znode.data z) (0 : Int) (9999 : Int)))) ∧ (((true = true) → (((!decide (inR (Znode.data z) (0 : Int) (9999 : Int))) = false) → ((!!decide (inR (Znode.data z) (0 : Int) (9999 : Int))) = true))) ∧ (∀ b : Bool, ((b = bif !decide (inR (Znode.data z) (0 : Int) (9999 : Int)) then true else !decide (inR (Znode.version z) (0 : Int) (999 : Int))) → ((tq (!b)) ∧ ((tq (!b)) ∧ ((((!b) = true) → (pr76 (Znode.owner z))) ∧ ((tq (!b)) ∧ (((true = true) → ((b = false) → ((!b) = true))) ∧ (∀ b_1 : Bool, ((b_1 = bif b then true else !decide (inR (Znode.owner z) (0 : Int) (9 : Int))) → ((tq (!b_1)) ∧ ((tq (!b_1)) ∧ ((((!b_1) = true) → (pr22 (Znode.next z) (0 : Int) (100 : Int))) ∧ ((tq (!b_1)) ∧ (((true = true) → ((b_1 = false) → ((!b_1) = true))) ∧ (∀ b_2 : Bool, ((b_2 = bif b_1 then true else !decide (inR (Znode.next z) (0 : Int) (100 : Int))) → (((b_2 = true) → (VLe (vi (3 : Int)) (vi (nodeF z)))) ∧ ((b_2 = false) → (VLe (vi (0 : Int)) (vi (nodeF z)))))))))))))))))))))))))))))) := by
    delta vi
    refine ⟨trivial, fun h => vle_int ?_, fun h => ?_⟩
    · have h1 : pathF z.path ≠ 0 := by simpa using h
      unfold nodeF
      rw [if_pos h1]
    have h1 : ¬ pathF z.path ≠ 0 := by simpa using h
    refine ⟨trivial, ?_⟩
    repeat (first | (refine And.intro (fun h _ => h) ?_) | (refine And.intro (fun _ h => h) ?_) | (refine And.intro ?aa ?_; case aa => (exact (tqI _))) | (refine And.intro ?aa ?_; case aa => (exact trivial)) | (refine And.intro ?aa ?_; case aa => (exact fun _ => trivial)) | (refine And.intro ?aa ?_; case aa => (intros; simp_all [pr19, pr75, pr22, pr76]; done)) | (refine And.intro ?aa ?_; case aa => (intros; exact inK64 (by omega))) | (refine And.intro ?aa ?_; case aa => (intros; simp only [decide_eq_true_eq] at *; omega)) | (intro q hq))
    have e0 : q = decide (¬ (inR z.data 0 9999 ∧ inR z.version 0 999 ∧ inR z.owner 0 9 ∧ inR z.next 0 100)) := by
      subst_vars
      rw [Bool.eq_iff_iff, decide_eq_true_eq]
      by_cases a1 : inR z.data 0 9999 <;> by_cases a2 : inR z.version 0 999 <;> by_cases a3 : inR z.owner 0 9 <;> by_cases a4 : inR z.next 0 100 <;> simp [a1, a2, a3, a4]
    clear hq
    rw [e0]
    refine ⟨fun h2 => vle_int ?_, fun h2 => vle_int ?_⟩
    · unfold nodeF
      rw [if_neg h1, if_pos (of_decide_eq_true h2)]
    · unfold nodeF
      rw [if_neg h1, if_neg (of_decide_eq_false h2)]
  exact Eq.mp (by kernel_rfl) key
theorem so62 : Sound Tryz.prog 62 sp62 := by
  refine sound_of_body hmix (pol := 0) Tryz.func62 rfl (by kernel_rfl) fun args bin ob r bout hDe hob => ?_
  unfold sp62 at hDe
  split at hDe
  · rename_i a0
    cases hDe
    exact ⟨rfl, rfl, Nat.le_of_ble_eq_true (by kernel_rfl), cx62 (decZnode a0), Eq.mp (by kernel_rfl) htt, Eq.mp (by kernel_rfl) da62, Eq.mp (by kernel_rfl) (noM_sound (P := Tryz.prog)), by kernel_rfl, [encZnode 1 ((decZnode a0))], args_of_vles (⟨hob.1, trivial⟩), Eq.mp (by kernel_rfl) (bd62 (decZnode a0) (hob.2))⟩
  · cases hDe

/-! ### spec.l2At -/
def pr44 (l : List Znode) (t : ByteArray) : Prop := l.length ≤ maxLen
noncomputable def rs44 (l : List Znode) (t : ByteArray) : V := .int .i64 (atN l t)
noncomputable def sp44 : FSpec := fun args bin => match args, bin with
  | [a0, .str a1], [] => some (VLe a0 (encL (encZnode 1) 1 (((decL decZnode) a0))) ∧ pr44 ((decL decZnode) a0) a1, rs44 ((decL decZnode) a0) a1, [])
  | _, _ => none
noncomputable def in44_2 (l : List Znode) (t : ByteArray) : LoopInv :=
  ⟨Nat, fun i => ⟨[(0, encL (encZnode 1) 1 l), (1, .str t), (5, .int .i64 i)], []⟩,
    fun i => i ≤ l.length ∧ ∀ j, j < i → isPath t (l.getD j default) = false, fun i => l.length - i⟩
noncomputable def iv44 (l : List Znode) (t : ByteArray) : Nat → Option LoopInv := fun rg_ => match rg_ with
  | 2 => some (in44_2 l t)
  | _ => none
noncomputable def D44 : Nat → Option (Bool × FSpec) := lk []
theorem da44 : SoundAll Tryz.prog D44 := soundAll_nil
noncomputable def cx44 (l : List Znode) (t : ByteArray) : Cx := ⟨tt, D44, Tryz.f44.ntmps, [0, 1, 4, 5, 9, 18], [(2, ⟨[(0, none), (1, none), (5, none)], []⟩)], [], iv44 l t, [], noM, []⟩
theorem bd44 (l : List Znode) (t : ByteArray) (hpre : pr44 l t) : bodyP (cx44 l t) Tryz.f44 0 [encL (encZnode 1) 1 (l), .str (t)] (fun rr => VLe rr (rs44 l t)) := by
  have key : ((∃ x : Nat, ((SLe (AS.mk [(0, encL (encZnode 1) 1 l), (1, V.str t), (5, vi (0 : Int))] []) (AS.mk [(0, encL (encZnode 1) 1 l), (1, V.str t), (5, vi (↑x : Int))] [])) ∧ ((x ≤ List.length l) ∧ (∀ j : Nat, ((j < x) → (isPath t (List.getD l j default) = false)))))) ∧ (∀ x : Nat, (((x ≤ List.length l) ∧ (∀ j : Nat, ((j < x) → (isPath t (List.getD l j default) = false)))) → (((decide ((↑x : Int) < (↑(List.length l) : Int)) = true) → ((((0 : Int) ≤ (↑x : Int)) ∧ ((↑x : Int) < (↑(List.length l) : Int))) ∧ (((strEq (Znode.path (List.getD l (Int.toNat (↑x : Int)) default)) t = true) → (VLe (vi (↑x : Int)) (vi (atN l t)))) ∧ ((strEq (Znode.path (List.getD l (Int.toNat (↑x : Int)) default)) t = false) → ((inK IntKind.i64 ((↑x : Int) + (1 : Int))) ∧ (∃ y : Nat, ((SLe (AS.mk [(0, encL (encZnode 1) 1 l), (1, V.str t), (5, vi ((↑x : Int) + (1 : Int)))] []) (AS.mk [(0, encL (encZnode 1) 1 l), (1, V.str t), (5, vi (↑y : Int))] [])) ∧ (((y ≤ List.length l) ∧ (∀ j : Nat, ((j < y) → (isPath t (List.getD l j default) = false)))) ∧ (List.length l - y < List.length l - x))))))))) ∧ ((decide ((↑x : Int) < (↑(List.length l) : Int)) = false) → (VLe (vi (-1 : Int)) (vi (atN l t)))))))) := by
    delta vi
    have hl : l.length ≤ maxLen := hpre
    unfold maxLen at hl
    refine ⟨⟨0, SLe.refl _, by omega, fun j hj => absurd hj (Nat.not_lt_zero j)⟩, ?_⟩
    rintro i ⟨hi, hj⟩
    refine ⟨fun h => ?_, fun h => ?_⟩
    · have hlt : i < l.length := by simpa using h
      rw [Int.toNat_natCast, strEq_dec]
      refine ⟨⟨by omega, by omega⟩, fun h2 => vle_int (idxF_some hlt hj h2).symm, fun h2 => ⟨inK64 (by omega), i + 1, SLe.refl _, ⟨by omega, fun j h3 => ?_⟩, by omega⟩⟩
      rcases Nat.lt_or_ge j i with h4 | h4
      · exact hj j h4
      · have : j = i := by omega
        subst this
        exact h2
    · have hge : i = l.length := by simp at h; omega
      exact vle_int (idxF_none fun j h3 => hj j (by omega)).symm
  exact Eq.mp (by kernel_rfl) key
theorem so44 : Sound Tryz.prog 44 sp44 := by
  refine sound_of_body hmix (pol := 0) Tryz.func44 rfl (by kernel_rfl) fun args bin ob r bout hDe hob => ?_
  unfold sp44 at hDe
  split at hDe
  · rename_i a0 a1
    cases hDe
    exact ⟨rfl, rfl, Nat.le_of_ble_eq_true (by kernel_rfl), cx44 ((decL decZnode) a0) a1, Eq.mp (by kernel_rfl) htt, Eq.mp (by kernel_rfl) da44, Eq.mp (by kernel_rfl) (noM_sound (P := Tryz.prog)), by kernel_rfl, [encL (encZnode 1) 1 (((decL decZnode) a0)), .str (a1)], args_of_vles (⟨hob.1, VLe.refl _, trivial⟩), Eq.mp (by kernel_rfl) (bd44 ((decL decZnode) a0) a1 (hob.2))⟩
  · cases hDe

theorem drop1Z {xs : List Znode} {k : Nat} (h : k < xs.tail.length) : dropg (gL (encZnode 1) xs) 1 k = encZnode 1 xs.tail[k] := by
  have h3 : k + 1 < xs.length := by rw [List.length_tail] at h; omega
  simp [dropg, gL, h3, List.getElem_tail, Nat.add_comm]

/-! ### impl.TreeFault -/
def pr37 (l : List Znode) : Prop := l.length ≤ maxLen
noncomputable def rs37 (l : List Znode) : V := .int .i64 (treeF l)
noncomputable def sp37 : FSpec := fun args bin => match args, bin with
  | [a0], [] => some (VLe a0 (encL (encZnode 1) 1 (((decL decZnode) a0))) ∧ pr37 ((decL decZnode) a0), rs37 ((decL decZnode) a0), [])
  | _, _ => none
noncomputable def in37_4 (l : List Znode) : LoopInv :=
  ⟨Nat, fun i => ⟨[(0, encL (encZnode 1) 1 l), (18, encL (encZnode 1) 1 l), (19, .int .i64 l.length), (20, .int .i64 i)], []⟩,
    fun i => i ≤ l.length ∧ scanE (treeE l) i = 0, fun i => l.length - i⟩
noncomputable def in37_17 (l : List Znode) : LoopInv :=
  ⟨Nat, fun i => ⟨[(0, encL (encZnode 1) 1 l), (8, .bool (ownTo l i)), (57, encL (encZnode 1) 1 l.tail), (58, .int .i64 l.tail.length), (59, .int .i64 i)], []⟩,
    fun i => i ≤ l.tail.length ∧ ∀ j, j < i → isZ l (upF (l.tail.getD j default).path) = true, fun i => l.tail.length - i⟩
noncomputable def iv37 (l : List Znode) : Nat → Option LoopInv := fun rg_ => match rg_ with
  | 4 => some (in37_4 l)
  | 17 => some (in37_17 l)
  | _ => none
noncomputable def D37 : Nat → Option (Bool × FSpec) := lk [(62, (false, sp62)), (50, (false, sp50)), (63, (false, sp63))]
theorem da37 : SoundAll Tryz.prog D37 := soundAll_cons so62 (soundAll_cons so50 (soundAll_cons so63 (soundAll_nil)))
noncomputable def cx37 (l : List Znode) : Cx := ⟨tt, D37, Tryz.f37.ntmps, [0, 2, 3, 4, 5, 7, 8, 10, 11, 13, 14, 17, 18, 19, 20, 21, 28, 42, 50, 57, 58, 59, 60, 76, 87], [(4, ⟨[(0, none), (18, none), (19, none), (20, none)], []⟩), (17, ⟨[(0, none), (8, none), (57, none), (58, none), (59, none)], []⟩)], [], iv37 l, [], noM, []⟩
noncomputable def k37_0 (l : List Znode) (x : Nat) : V := (encZnode 1 (List.getD l (Int.toNat (↑x : Int)) default))
theorem bd37 (l : List Znode) (hpre : pr37 l) : bodyP (cx37 l) Tryz.f37 0 [encL (encZnode 1) 1 (l)] (fun rr => VLe rr (rs37 l)) := by
  have key : (((decide ((↑(List.length l) : Int) > (20 : Int)) = true) → (VLe (vi (2 : Int)) (vi (treeF l)))) ∧ ((decide ((↑(List.length l) : Int) > (20 : Int)) = false) → ((∃ x : Nat, ((SLe (AS.mk [(0, encL (encZnode 1) 1 l), (18, encL (encZnode 1) 1 l), (19, vi (↑(List.length l) : Int)), (20, vi (0 : Int))] []) (AS.mk [(0, encL (encZnode 1) 1 l), (18, encL (encZnode 1) 1 l), (19, vi (↑(List.length l) : Int)), (20, vi (↑x : Int))] [])) ∧ ((x ≤ List.length l) ∧ (scanE (treeE l) x = (0 : Int))))) ∧ (∀ x : Nat, (((x ≤ List.length l) ∧ (scanE (treeE l) x = (0 : Int))) → (((decide ((↑x : Int) < (↑(List.length l) : Int)) = true) → ((((0 : Int) ≤ (↑x : Int)) ∧ ((↑x : Int) < (↑(List.length l) : Int))) ∧ (((VLe (k37_0 l x) (encZnode 1 (decZnode (k37_0 l x)))) ∧ (pr62 (decZnode (k37_0 l x)))) ∧ ((((nodeF (decZnode (k37_0 l x)) != (0 : Int)) = true) → (VLe (vi (nodeF (decZnode (k37_0 l x)))) (vi (treeF l)))) ∧ (((nodeF (decZnode (k37_0 l x)) != (0 : Int)) = false) → ((tq (decide ((↑x : Int) > (0 : Int)))) ∧ ((tq (decide ((↑x : Int) > (0 : Int)))) ∧ (((decide ((↑x : Int) > (0 : Int)) = true) → (inK IntKind.i64 ((↑x : Int) - (1 : Int)))) ∧ ((tq (decide ((↑x : Int) > (0 : Int)))) ∧ ((tq (decide ((↑x : Int) > (0 : Int)))) ∧ (((decide ((↑x : Int) > (0 : Int)) = true) → (((0 : Int) ≤ (↑x : Int) - (1 : Int)) ∧ ((↑x : Int) - (1 : Int) < (↑(List.length l) : Int)))) ∧ ((tq (decide ((↑x : Int) > (0 : Int)))) ∧ ((tq (decide ((↑x : Int) > (0 : Int)))) ∧ ((tq (decide ((↑x : Int) > (0 : Int)))) ∧ ((tq (decide ((↑x : Int) > (0 : Int)))) ∧ (((true = true) → ((decide ((↑x : Int) > (0 : Int)) = true) → (decide ((↑x : Int) > (0 : Int)) = true))) ∧ (∀ b : Bool, ((b = bif decide ((↑x : Int) > (0 : Int)) then strLt (Znode.path (List.getD l (Int.toNat (↑x : Int)) default)) (Znode.path (List.getD l (Int.toNat ((↑x : Int) - (1 : Int))) default)) || strEq (Znode.path (List.getD l (Int.toNat (↑x : Int)) default)) (Znode.path (List.getD l (Int.toNat ((↑x : Int) - (1 : Int))) default)) else false) → (((b = true) → (VLe (vi (1 : Int)) (vi (treeF l)))) ∧ ((b = false) → ((inK IntKind.i64 ((↑x : Int) + (1 : Int))) ∧ (∃ y : Nat, ((SLe (AS.mk [(0, encL (encZnode 1) 1 l), (18, encL (encZnode 1) 1 l), (19, vi (↑(List.length l) : Int)), (20, vi ((↑x : Int) + (1 : Int)))] []) (AS.mk [(0, encL (encZnode 1) 1 l), (18, encL (encZnode 1) 1 l), (19, vi (↑(List.length l) : Int)), (20, vi (↑y : Int))] [])) ∧ (((y ≤ List.length l) ∧ (scanE (treeE l) y = (0 : Int))) ∧ (List.length l - y < List.length l - x))))))))))))))))))))))))) ∧ ((decide ((↑x : Int) < (↑(List.length l) : Int)) = false) → (((VLe (encL (encZnode 1) 1 l) (encL (encZnode 1) 1 (decL decZnode (encL (encZnode 1) 1 l)))) ∧ (pr50 (decL decZnode (encL (encZnode 1) 1 l)) (ByteArray.mk #[(47 : UInt8)]))) ∧ ((((!isZ (decL decZnode (encL (encZnode 1) 1 l)) (ByteArray.mk #[(47 : UInt8)])) = true) → (VLe (vi (4 : Int)) (vi (treeF l)))) ∧ (((!isZ (decL decZnode (encL (encZnode 1) 1 l)) (ByteArray.mk #[(47 : UInt8)])) = false) → ((((0 : Int) ≤ (0 : Int)) ∧ ((0 : Int) < (↑(List.length l) : Int))) ∧ ((((0 : Int) ≤ Option.getD (some (1 : Int)) (0 : Int)) ∧ ((Option.getD (some (1 : Int)) (0 : Int) ≤ Option.getD none (↑(List.length l) : Int)) ∧ (Option.getD none (↑(List.length l) : Int) ≤ (↑(List.length l) : Int)))) ∧ ((sizedL 5 (List.length l) (gL (encZnode 1) l)) ∧ ((∃ x_1 : Nat, ((SLe (AS.mk [(0, encL (encZnode 1) 1 l), (8, V.bool (Znode.owner (List.getD l 0 default) != (0 : Int))), (57, V.sl (Int.toNat (Option.getD none (↑(List.length l) : Int)) - 1) (match (motive := Option Int → Nat → V) some (1 : Int) with | none => gL (encZnode 1) l | some val => dropg (gL (encZnode 1) l) 1) 1), (58, vi (↑(Int.toNat (Option.getD none (↑(List.length l) : Int)) - 1) : Int)), (59, vi (0 : Int))] []) (AS.mk [(0, encL (encZnode 1) 1 l), (8, V.bool (ownTo l x_1)), (57, encL (encZnode 1) 1 (List.tail l)), (58, vi (↑(List.length (List.tail l)) : Int)), (59, vi (↑x_1 : Int))] [])) ∧ ((x_1 ≤ List.length (List.tail l)) ∧ (∀ j : Nat, ((j < x_1) → (isZ l (upF (Znode.path (List.getD (List.tail l) j default))) = true)))))) ∧ (∀ x_1 : Nat, (((x_1 ≤ List.length (List.tail l)) ∧ (∀ j : Nat, ((j < x_1) → (isZ l (upF (Znode.path (List.getD (List.tail l) j default))) = true)))) → (((decide ((↑x_1 : Int) < (↑(List.length (List.tail l)) : Int)) = true) → ((((0 : Int) ≤ (↑x_1 : Int)) ∧ ((↑x_1 : Int) < (↑(List.length (List.tail l)) : Int))) ∧ ((pr63 (Znode.path (List.getD (List.tail l) (Int.toNat (↑x_1 : Int)) default))) ∧ (((VLe (encL (encZnode 1) 1 l) (encL (encZnode 1) 1 (decL decZnode (encL (encZnode 1) 1 l)))) ∧ (pr50 (decL decZnode (encL (encZnode 1) 1 l)) (upF (Znode.path (List.getD (List.tail l) (Int.toNat (↑x_1 : Int)) default))))) ∧ ((((!isZ (decL decZnode (encL (encZnode 1) 1 l)) (upF (Znode.path (List.getD (List.tail l) (Int.toNat (↑x_1 : Int)) default)))) = true) → (VLe (vi (4 : Int)) (vi (treeF l)))) ∧ (((!isZ (decL decZnode (encL (encZnode 1) 1 l)) (upF (Znode.path (List.getD (List.tail l) (Int.toNat (↑x_1 : Int)) default)))) = false) → ((tq (!ownTo l x_1)) ∧ ((tq (!ownTo l x_1)) ∧ ((((!ownTo l x_1) = true) → (((0 : Int) ≤ (↑(posZ (decL decZnode (encL (encZnode 1) 1 l)) (upF (Znode.path (List.getD (List.tail l) (Int.toNat (↑x_1 : Int)) default)))) : Int)) ∧ ((↑(posZ (decL decZnode (encL (encZnode 1) 1 l)) (upF (Znode.path (List.getD (List.tail l) (Int.toNat (↑x_1 : Int)) default)))) : Int) < (↑(List.length l) : Int)))) ∧ ((tq (!ownTo l x_1)) ∧ ((tq (!ownTo l x_1)) ∧ ((tq (!ownTo l x_1)) ∧ (((true = true) → ((ownTo l x_1 = false) → ((!ownTo l x_1) = true))) ∧ (∀ b : Bool, ((b = bif ownTo l x_1 then true else Znode.owner (List.getD l (Int.toNat (↑(posZ (decL decZnode (encL (encZnode 1) 1 l)) (upF (Znode.path (List.getD (List.tail l) (Int.toNat (↑x_1 : Int)) default)))) : Int)) default) != (0 : Int)) → ((inK IntKind.i64 ((↑x_1 : Int) + (1 : Int))) ∧ (∃ y : Nat, ((SLe (AS.mk [(0, encL (encZnode 1) 1 l), (8, V.bool b), (57, encL (encZnode 1) 1 (List.tail l)), (58, vi (↑(List.length (List.tail l)) : Int)), (59, vi ((↑x_1 : Int) + (1 : Int)))] []) (AS.mk [(0, encL (encZnode 1) 1 l), (8, V.bool (ownTo l y)), (57, encL (encZnode 1) 1 (List.tail l)), (58, vi (↑(List.length (List.tail l)) : Int)), (59, vi (↑y : Int))] [])) ∧ (((y ≤ List.length (List.tail l)) ∧ (∀ j : Nat, ((j < y) → (isZ l (upF (Znode.path (List.getD (List.tail l) j default))) = true)))) ∧ (List.length (List.tail l) - y < List.length (List.tail l) - x_1)))))))))))))))))))) ∧ ((decide ((↑x_1 : Int) < (↑(List.length (List.tail l)) : Int)) = false) → (((ownTo l x_1 = true) → (VLe (vi (1 : Int)) (vi (treeF l)))) ∧ ((ownTo l x_1 = false) → (VLe (vi (0 : Int)) (vi (treeF l))))))))))))))))))))))) := by
    delta k37_0; delta vi
    have hl : l.length ≤ maxLen := hpre
    unfold maxLen at hl
    simp only [dec_encZnode, decL_Znode, strLt_dec, strEq_dec]
    refine ⟨fun h => ?_, fun h => ?_⟩
    · have h1 : 20 < l.length := by have := of_decide_eq_true h; omega
      exact vle_int (by unfold treeF; rw [if_pos h1])
    have h1 : ¬ 20 < l.length := by have := of_decide_eq_false h; omega
    have e1 : treeF l = if scanE (treeE l) l.length ≠ 0 then scanE (treeE l) l.length else if atN l top < 0 then 4 else if noUp l then 4 else if badUp l then 1 else 0 := if_neg h1
    refine ⟨⟨0, SLe.refl _, by omega, rfl⟩, ?_⟩
    rintro i ⟨hi, hz⟩
    refine ⟨fun h2 => ?_, fun h2 => ?_⟩
    · have hlt : i < l.length := by have := of_decide_eq_true h2; omega
      simp only [Int.toNat_natCast]
      have stop : ∀ c, c = treeE l i → c ≠ 0 → VLe (.int .i64 c) (.int .i64 (treeF l)) := fun c hc h0 => vle_int (by
        have := scanE_stop hz (by rw [← hc]; exact h0) _ hlt
        rw [e1, if_pos (by rw [this, ← hc]; exact h0), this, hc])
      refine ⟨⟨by omega, by omega⟩, ⟨VLe.refl _, trivial⟩, fun h3 => ?_, fun h3 => ?_⟩
      · have h4 : nodeF (l.getD i default) ≠ 0 := by simpa using h3
        exact stop _ (by unfold treeE; rw [if_pos h4]) h4
      have h4 : ¬ nodeF (l.getD i default) ≠ 0 := by simpa using h3
      have e2 : treeE l i = if 0 < i ∧ ¬ lt (atZ l (i - 1)).path (atZ l i).path then 1 else 0 := if_neg h4
      repeat (first | (refine And.intro (fun h _ => h) ?_) | (refine And.intro (fun _ h => h) ?_) | (refine And.intro ?aa ?_; case aa => (exact (tqI _))) | (refine And.intro ?aa ?_; case aa => (exact (fun h => inK64 (by omega)))) | (refine And.intro ?aa ?_; case aa => (exact (fun h => ⟨by have := of_decide_eq_true h; omega, by omega⟩))) | (refine And.intro ?aa ?_; case aa => (intros; simp_all [pr62, pr50, pr63]; done)) | (refine And.intro ?aa ?_; case aa => (intros; exact inK64 (by omega))) | (refine And.intro ?aa ?_; case aa => (intros; simp only [decide_eq_true_eq] at *; omega)) | (intro q hq))
      have e3 : q = decide (0 < i ∧ ¬ lt (atZ l (i - 1)).path (atZ l i).path) := by
        rw [hq, Bool.eq_iff_iff, decide_eq_true_eq]
        by_cases a1 : 0 < i
        · have n1 : ((i : Int) - 1).toNat = i - 1 := by omega
          have a2 : decide ((i : Int) > 0) = true := decide_eq_true (by omega)
          rw [a2, n1]
          simp only [cond_true, Bool.or_eq_true, decide_eq_true_eq, a1, true_and]
          refine ⟨fun g => g.elim lt_asymm (fun g => by
            show ¬ lt _ (l.getD i default).path
            rw [g]
            exact lt_irrefl _), fun g => Classical.byContradiction fun k => ?_⟩
          exact k (Or.inr (lt_total (fun g2 => k (Or.inl g2)) g))
        · have a2 : decide ((i : Int) > 0) = false := decide_eq_false (by omega)
          rw [a2]
          simp [a1]
      refine ⟨fun h5 => ?_, fun h5 => ?_⟩
      · rw [e3] at h5
        exact stop _ (by rw [e2, if_pos (of_decide_eq_true h5)]) (by decide)
      · rw [e3] at h5
        exact ⟨inK64 (by omega), i + 1, SLe.refl _, ⟨by omega, scanE_next hz (by rw [e2, if_neg (of_decide_eq_false h5)])⟩, by omega⟩
    · have hge : i = l.length := by have := of_decide_eq_false h2; omega
      rw [hge] at hz
      have hr := rising_scan hz
      have e2 : treeF l = if atN l top < 0 then 4 else if noUp l then 4 else if badUp l then 1 else 0 := by rw [e1, if_neg (not_not_intro hz)]
      refine ⟨⟨VLe.refl _, hr, by omega⟩, fun h3 => ?_, fun h3 => ?_⟩
      · have : isZ l top = false := by simpa using h3
        exact vle_int (by rw [e2, if_pos ((atN_lt0 hr _).2 this)])
      have ht : isZ l top = true := by simpa using h3
      obtain ⟨f1, f2⟩ := first_top hz ht
      have e3 : treeF l = if noUp l then 4 else if badUp l then 1 else 0 := by
        rw [e2, if_neg]
        intro g
        rw [(atN_lt0 hr _).1 g] at ht
        cases ht
      have hlt0 : l.tail.length = l.length - 1 := List.length_tail
      refine ⟨⟨by omega, by omega⟩, ⟨by simp, by simp; omega, by simp⟩, fun k hk => ⟨rfl, rfl⟩, ⟨0, ?_, by omega, fun j hj => by omega⟩, ?_⟩
      · exact sle_of ⟨rfl, VLe.refl _, rfl, VLe.refl _, rfl, vle_encL_eq (by simp) (fun k hk => drop1Z hk) (Or.inl rfl), rfl, vle_int (by simp), rfl, VLe.refl _, trivial⟩ trivial
      rintro i ⟨hi, hj⟩
      refine ⟨fun h5 => ?_, fun h5 => ?_⟩
      · have hlt : i < l.tail.length := by have := of_decide_eq_true h5; omega
        simp only [Int.toNat_natCast]
        have hn : nodeF (l.tail.getD i default) = 0 := by
          rw [tail_getD]
          exact node_scan hz (by omega)
        have hp := node_path hn
        refine ⟨⟨by omega, by omega⟩, ⟨by have := path_size hp; omega, path_headed hp⟩, ⟨VLe.refl _, hr, by omega⟩, fun h6 => ?_, fun h6 => ?_⟩
        · have h7 : isZ l (upF (l.tail.getD i default).path) = false := by
            cases hc : isZ l (upF (l.tail.getD i default).path) with
            | false => rfl
            | true => rw [hc] at h6; cases h6
          exact vle_int (by rw [e3, if_pos ((noUp_iff hz ht).2 ⟨i, hlt, h7⟩)])
        have h7 : isZ l (upF (l.tail.getD i default).path) = true := by
          cases hc : isZ l (upF (l.tail.getD i default).path) with
          | true => rfl
          | false => rw [hc] at h6; cases h6
        have h8 := (atN_pos hr h7).2.1
        repeat (first | (refine And.intro (fun h _ => h) ?_) | (refine And.intro (fun _ h => h) ?_) | (refine And.intro ?aa ?_; case aa => (exact (tqI _))) | (refine And.intro ?aa ?_; case aa => (exact (fun _ => ⟨by omega, by omega⟩))) | (refine And.intro ?aa ?_; case aa => (intros; simp_all [pr62, pr50, pr63]; done)) | (refine And.intro ?aa ?_; case aa => (intros; exact inK64 (by omega))) | (refine And.intro ?aa ?_; case aa => (intros; simp only [decide_eq_true_eq] at *; omega)) | (intro q hq))
        refine ⟨i + 1, ?_, ⟨by omega, fun j h9 => ?_⟩, by omega⟩
        · rw [hq]
          exact SLe.refl _
        · by_cases e : j = i
          · rw [e]; exact h7
          · exact hj j (by omega)
      · have hge : i = l.tail.length := by have := of_decide_eq_false h5; omega
        subst hge
        have hb := badUp_iff hz ht hj
        have e4 : treeF l = if badUp l then 1 else 0 := by
          rw [e3, if_neg]
          intro g
          obtain ⟨j, h, k⟩ := (noUp_iff hz ht).1 g
          rw [hj j h] at k
          cases k
        refine ⟨fun h => vle_int (by rw [e4, if_pos (hb.2 h)]), fun h => vle_int ?_⟩
        rw [e4, if_neg]
        intro g
        rw [hb.1 g] at h
        cases h
  exact Eq.mp (by kernel_rfl) key
theorem so37 : Sound Tryz.prog 37 sp37 := by
  refine sound_of_body hmix (pol := 0) Tryz.func37 rfl (by kernel_rfl) fun args bin ob r bout hDe hob => ?_
  unfold sp37 at hDe
  split at hDe
  · rename_i a0
    cases hDe
    exact ⟨rfl, rfl, Nat.le_of_ble_eq_true (by kernel_rfl), cx37 ((decL decZnode) a0), Eq.mp (by kernel_rfl) htt, Eq.mp (by kernel_rfl) da37, Eq.mp (by kernel_rfl) (noM_sound (P := Tryz.prog)), by kernel_rfl, [encL (encZnode 1) 1 (((decL decZnode) a0))], args_of_vles (⟨hob.1, trivial⟩), Eq.mp (by kernel_rfl) (bd37 ((decL decZnode) a0) (hob.2))⟩
  · cases hDe

/-! ### spec.l2Fault -/
def pr17 (l : List Znode) : Prop := l.length ≤ maxLen
noncomputable def rs17 (l : List Znode) : V := .int .i64 (treeF l)
noncomputable def sp17 : FSpec := fun args bin => match args, bin with
  | [a0], [] => some (VLe a0 (encL (encZnode 1) 1 (((decL decZnode) a0))) ∧ pr17 ((decL decZnode) a0), rs17 ((decL decZnode) a0), [])
  | _, _ => none
noncomputable def in17_4 (l : List Znode) : LoopInv :=
  ⟨Nat, fun i => ⟨[(0, encL (encZnode 1) 1 l), (3, .int .i64 i)], []⟩,
    fun i => i ≤ l.length ∧ scanE (treeE l) i = 0, fun i => l.length - i⟩
noncomputable def in17_17 (l : List Znode) : LoopInv :=
  ⟨Nat, fun i => ⟨[(0, encL (encZnode 1) 1 l), (6, .int .i64 i)], []⟩,
    fun i => i ≤ l.length ∧ ∀ j, j < i → ¬ atN l (upF (atZ l j).path) < 0, fun i => l.length - i⟩
noncomputable def in17_22 (l : List Znode) : LoopInv :=
  ⟨Nat, fun i => ⟨[(0, encL (encZnode 1) 1 l), (7, .int .i64 i)], []⟩,
    fun i => i ≤ l.length ∧ ∀ j, j < i → (atZ l (atN l (upF (atZ l j).path)).toNat).owner = 0, fun i => l.length - i⟩
noncomputable def iv17 (l : List Znode) : Nat → Option LoopInv := fun rg_ => match rg_ with
  | 4 => some (in17_4 l)
  | 17 => some (in17_17 l)
  | 22 => some (in17_22 l)
  | _ => none
noncomputable def D17 : Nat → Option (Bool × FSpec) := lk [(40, (false, sp40)), (41, (false, sp41)), (42, (false, sp42)), (43, (false, sp43)), (44, (false, sp44)), (45, (false, sp45))]
theorem da17 : SoundAll Tryz.prog D17 := soundAll_cons so40 (soundAll_cons so41 (soundAll_cons so42 (soundAll_cons so43 (soundAll_cons so44 (soundAll_cons so45 (soundAll_nil))))))
noncomputable def cx17 (l : List Znode) : Cx := ⟨tt, D17, Tryz.f17.ntmps, [0, 2, 3, 4, 5, 6, 7, 10, 14, 26, 57, 72, 75, 79, 90, 94, 109], [(4, ⟨[(0, none), (3, none)], []⟩), (17, ⟨[(0, none), (6, none)], []⟩), (22, ⟨[(0, none), (7, none)], []⟩)], [], iv17 l, [], noM, []⟩
noncomputable def k17_0 (l : List Znode) : Prop := (VLe (encL (encZnode 1) 1 l) (encL (encZnode 1) 1 (decL decZnode (encL (encZnode 1) 1 l))))
theorem bd17 (l : List Znode) (hpre : pr17 l) : bodyP (cx17 l) Tryz.f17 0 [encL (encZnode 1) 1 (l)] (fun rr => VLe rr (rs17 l)) := by
  have key : (((decide ((↑(List.length l) : Int) > (20 : Int)) = true) → (VLe (vi (2 : Int)) (vi (treeF l)))) ∧ ((decide ((↑(List.length l) : Int) > (20 : Int)) = false) → ((∃ x : Nat, ((SLe (AS.mk [(0, encL (encZnode 1) 1 l), (3, vi (0 : Int))] []) (AS.mk [(0, encL (encZnode 1) 1 l), (3, vi (↑x : Int))] [])) ∧ ((x ≤ List.length l) ∧ (scanE (treeE l) x = (0 : Int))))) ∧ (∀ x : Nat, (((x ≤ List.length l) ∧ (scanE (treeE l) x = (0 : Int))) → (((decide ((↑x : Int) < (↑(List.length l) : Int)) = true) → ((((0 : Int) ≤ (↑x : Int)) ∧ ((↑x : Int) < (↑(List.length l) : Int))) ∧ ((pr40 (Znode.path (List.getD l (Int.toNat (↑x : Int)) default))) ∧ ((((pathF (Znode.path (List.getD l (Int.toNat (↑x : Int)) default)) != (0 : Int)) = true) → (VLe (vi (pathF (Znode.path (List.getD l (Int.toNat (↑x : Int)) default)))) (vi (treeF l)))) ∧ (((pathF (Znode.path (List.getD l (Int.toNat (↑x : Int)) default)) != (0 : Int)) = false) → ((pr41 (Znode.data (List.getD l (Int.toNat (↑x : Int)) default))) ∧ ((tq (!!decide (inR (Znode.data (List.getD l (Int.toNat (↑x : Int)) default)) (0 : Int) (9999 : Int)))) ∧ ((tq (!!decide (inR (Znode.data (List.getD l (Int.toNat (↑x : Int)) default)) (0 : Int) (9999 : Int)))) ∧ ((tq (!!decide (inR (Znode.data (List.getD l (Int.toNat (↑x : Int)) default)) (0 : Int) (9999 : Int)))) ∧ ((tq (!!decide (inR (Znode.data (List.getD l (Int.toNat (↑x : Int)) default)) (0 : Int) (9999 : Int)))) ∧ ((((!!decide (inR (Znode.data (List.getD l (Int.toNat (↑x : Int)) default)) (0 : Int) (9999 : Int))) = true) → (pr42 (Znode.version (List.getD l (Int.toNat (↑x : Int)) default)) (0 : Int) (999 : Int))) ∧ ((tq (!!decide (inR (Znode.data (List.getD l (Int.toNat (↑x : Int)) default)) (0 : Int) (9999 : Int)))) ∧ (((true = true) → (((!decide (inR (Znode.data (List.getD l (Int.toNat (↑x : Int)) default)) (0 : Int) (9999 : Int))) = false) → ((!!decide (inR (Znode.data (List.getD l (Int.toNat (↑x : Int)) default)) (0 : Int) (9999 : Int))) = true))) ∧ (∀ b : Bool, ((b = bif !decide (inR (Znode.data (List.getD l (Int.toNat (↑x : Int)) default)) (0 : Int) (9999 : Int)) then true else !decide (inR (Znode.version (List.getD l (Int.toNat (↑x : Int)) default)) (0 : Int) (999 : Int))) → ((tq (!b)) ∧ ((tq (!b)) ∧ ((tq (!b)) ∧ ((tq (!b)) ∧ ((((!b) = true) → (pr43 (Znode.owner (List.getD l (Int.toNat (↑x : Int)) default)))) ∧ ((tq (!b)) ∧ (((true = true) → ((b = false) → ((!b) = true))) ∧ (∀ b_1 : Bool, ((b_1 = bif b then true else !decide (inR (Znode.owner (List.getD l (Int.toNat (↑x : Int)) default)) (0 : Int) (9 : Int))) → ((tq (!b_1)) ∧ ((tq (!b_1)) ∧ ((tq (!b_1)) ∧ ((tq (!b_1)) ∧ ((((!b_1) = true) → (pr42 (Znode.next (List.getD l (Int.toNat (↑x : Int)) default)) (0 : Int) (100 : Int))) ∧ ((tq (!b_1)) ∧ (((true = true) → ((b_1 = false) → ((!b_1) = true))) ∧ (∀ b_2 : Bool, ((b_2 = bif b_1 then true else !decide (inR (Znode.next (List.getD l (Int.toNat (↑x : Int)) default)) (0 : Int) (100 : Int))) → (((b_2 = true) → (VLe (vi (3 : Int)) (vi (treeF l)))) ∧ ((b_2 = false) → ((tq (decide ((↑x : Int) > (0 : Int)))) ∧ ((tq (decide ((↑x : Int) > (0 : Int)))) ∧ ((tq (decide ((↑x : Int) > (0 : Int)))) ∧ ((tq (decide ((↑x : Int) > (0 : Int)))) ∧ (((decide ((↑x : Int) > (0 : Int)) = true) → (inK IntKind.i64 ((↑x : Int) - (1 : Int)))) ∧ ((tq (decide ((↑x : Int) > (0 : Int)))) ∧ ((tq (decide ((↑x : Int) > (0 : Int)))) ∧ (((decide ((↑x : Int) > (0 : Int)) = true) → (((0 : Int) ≤ (↑x : Int) - (1 : Int)) ∧ ((↑x : Int) - (1 : Int) < (↑(List.length l) : Int)))) ∧ ((tq (decide ((↑x : Int) > (0 : Int)))) ∧ ((tq (decide ((↑x : Int) > (0 : Int)))) ∧ ((tq (decide ((↑x : Int) > (0 : Int)))) ∧ ((tq (decide ((↑x : Int) > (0 : Int)))) ∧ (((true = true) → ((decide ((↑x : Int) > (0 : Int)) = true) → (decide ((↑x : Int) > (0 : Int)) = true))) ∧ (∀ b_3 : Bool, ((b_3 = bif decide ((↑x : Int) > (0 : Int)) then strLt (Znode.path (List.getD l (Int.toNat (↑x : Int)) default)) (Znode.path (List.getD l (Int.toNat ((↑x : Int) - (1 : Int))) default)) || strEq (Znode.path (List.getD l (Int.toNat (↑x : Int)) default)) (Znode.path (List.getD l (Int.toNat ((↑x : Int) - (1 : Int))) default)) else false) → (((b_3 = true) → (VLe (vi (1 : Int)) (vi (treeF l)))) ∧ ((b_3 = false) → ((inK IntKind.i64 ((↑x : Int) + (1 : Int))) ∧ (∃ y : Nat, ((SLe (AS.mk [(0, encL (encZnode 1) 1 l), (3, vi ((↑x : Int) + (1 : Int)))] []) (AS.mk [(0, encL (encZnode 1) 1 l), (3, vi (↑y : Int))] [])) ∧ (((y ≤ List.length l) ∧ (scanE (treeE l) y = (0 : Int))) ∧ (List.length l - y < List.length l - x))))))))))))))))))))))))))))))))))))))))))))))))))))))))) ∧ ((decide ((↑x : Int) < (↑(List.length l) : Int)) = false) → (((k17_0 l) ∧ (pr44 (decL decZnode (encL (encZnode 1) 1 l)) (ByteArray.mk #[(47 : UInt8)]))) ∧ (((decide (atN (decL decZnode (encL (encZnode 1) 1 l)) (ByteArray.mk #[(47 : UInt8)]) < (0 : Int)) = true) → (VLe (vi (4 : Int)) (vi (treeF l)))) ∧ ((decide (atN (decL decZnode (encL (encZnode 1) 1 l)) (ByteArray.mk #[(47 : UInt8)]) < (0 : Int)) = false) → ((∃ x_1 : Nat, ((SLe (AS.mk [(0, encL (encZnode 1) 1 l), (6, vi (0 : Int))] []) (AS.mk [(0, encL (encZnode 1) 1 l), (6, vi (↑x_1 : Int))] [])) ∧ ((x_1 ≤ List.length l) ∧ (∀ j : Nat, ((j < x_1) → (¬atN l (upF (Znode.path (atZ l j))) < (0 : Int))))))) ∧ (∀ x_1 : Nat, (((x_1 ≤ List.length l) ∧ (∀ j : Nat, ((j < x_1) → (¬atN l (upF (Znode.path (atZ l j))) < (0 : Int))))) → (((decide ((↑x_1 : Int) < (↑(List.length l) : Int)) = true) → ((((0 : Int) ≤ (↑x_1 : Int)) ∧ ((↑x_1 : Int) < (↑(List.length l) : Int))) ∧ ((pr45 (Znode.path (List.getD l (Int.toNat (↑x_1 : Int)) default))) ∧ (((k17_0 l) ∧ (pr44 (decL decZnode (encL (encZnode 1) 1 l)) (upF (Znode.path (List.getD l (Int.toNat (↑x_1 : Int)) default))))) ∧ (((decide (atN (decL decZnode (encL (encZnode 1) 1 l)) (upF (Znode.path (List.getD l (Int.toNat (↑x_1 : Int)) default))) < (0 : Int)) = true) → (VLe (vi (4 : Int)) (vi (treeF l)))) ∧ ((decide (atN (decL decZnode (encL (encZnode 1) 1 l)) (upF (Znode.path (List.getD l (Int.toNat (↑x_1 : Int)) default))) < (0 : Int)) = false) → ((inK IntKind.i64 ((↑x_1 : Int) + (1 : Int))) ∧ (∃ y : Nat, ((SLe (AS.mk [(0, encL (encZnode 1) 1 l), (6, vi ((↑x_1 : Int) + (1 : Int)))] []) (AS.mk [(0, encL (encZnode 1) 1 l), (6, vi (↑y : Int))] [])) ∧ (((y ≤ List.length l) ∧ (∀ j : Nat, ((j < y) → (¬atN l (upF (Znode.path (atZ l j))) < (0 : Int))))) ∧ (List.length l - y < List.length l - x_1))))))))))) ∧ ((decide ((↑x_1 : Int) < (↑(List.length l) : Int)) = false) → ((∃ x_2 : Nat, ((SLe (AS.mk [(0, encL (encZnode 1) 1 l), (7, vi (0 : Int))] []) (AS.mk [(0, encL (encZnode 1) 1 l), (7, vi (↑x_2 : Int))] [])) ∧ ((x_2 ≤ List.length l) ∧ (∀ j : Nat, ((j < x_2) → (Znode.owner (atZ l (Int.toNat (atN l (upF (Znode.path (atZ l j)))))) = (0 : Int))))))) ∧ (∀ x_2 : Nat, (((x_2 ≤ List.length l) ∧ (∀ j : Nat, ((j < x_2) → (Znode.owner (atZ l (Int.toNat (atN l (upF (Znode.path (atZ l j)))))) = (0 : Int))))) → (((decide ((↑x_2 : Int) < (↑(List.length l) : Int)) = true) → ((((0 : Int) ≤ (↑x_2 : Int)) ∧ ((↑x_2 : Int) < (↑(List.length l) : Int))) ∧ ((pr45 (Znode.path (List.getD l (Int.toNat (↑x_2 : Int)) default))) ∧ (((k17_0 l) ∧ (pr44 (decL decZnode (encL (encZnode 1) 1 l)) (upF (Znode.path (List.getD l (Int.toNat (↑x_2 : Int)) default))))) ∧ ((((0 : Int) ≤ atN (decL decZnode (encL (encZnode 1) 1 l)) (upF (Znode.path (List.getD l (Int.toNat (↑x_2 : Int)) default)))) ∧ (atN (decL decZnode (encL (encZnode 1) 1 l)) (upF (Znode.path (List.getD l (Int.toNat (↑x_2 : Int)) default))) < (↑(List.length l) : Int))) ∧ ((((Znode.owner (List.getD l (Int.toNat (atN (decL decZnode (encL (encZnode 1) 1 l)) (upF (Znode.path (List.getD l (Int.toNat (↑x_2 : Int)) default))))) default) != (0 : Int)) = true) → (VLe (vi (1 : Int)) (vi (treeF l)))) ∧ (((Znode.owner (List.getD l (Int.toNat (atN (decL decZnode (encL (encZnode 1) 1 l)) (upF (Znode.path (List.getD l (Int.toNat (↑x_2 : Int)) default))))) default) != (0 : Int)) = false) → ((inK IntKind.i64 ((↑x_2 : Int) + (1 : Int))) ∧ (∃ y : Nat, ((SLe (AS.mk [(0, encL (encZnode 1) 1 l), (7, vi ((↑x_2 : Int) + (1 : Int)))] []) (AS.mk [(0, encL (encZnode 1) 1 l), (7, vi (↑y : Int))] [])) ∧ (((y ≤ List.length l) ∧ (∀ j : Nat, ((j < y) → (Znode.owner (atZ l (Int.toNat (atN l (upF (Znode.path (atZ l j)))))) = (0 : Int))))) ∧ (List.length l - y < List.length l - x_2)))))))))))) ∧ ((decide ((↑x_2 : Int) < (↑(List.length l) : Int)) = false) → (VLe (vi (0 : Int)) (vi (treeF l))))))))))))))))))))))) := by
    delta k17_0; delta vi
    have hl : l.length ≤ maxLen := hpre
    unfold maxLen at hl
    simp only [dec_encZnode, decL_Znode, strLt_dec, strEq_dec]
    refine ⟨fun h => ?_, fun h => ?_⟩
    · have h1 : 20 < l.length := by have := of_decide_eq_true h; omega
      exact vle_int (by unfold treeF; rw [if_pos h1])
    have h1 : ¬ 20 < l.length := by have := of_decide_eq_false h; omega
    have e1 : treeF l = if scanE (treeE l) l.length ≠ 0 then scanE (treeE l) l.length else if atN l top < 0 then 4 else if noUp l then 4 else if badUp l then 1 else 0 := if_neg h1
    refine ⟨⟨0, SLe.refl _, by omega, rfl⟩, ?_⟩
    rintro i ⟨hi, hz⟩
    refine ⟨fun h2 => ?_, fun h2 => ?_⟩
    · have hlt : i < l.length := by have := of_decide_eq_true h2; omega
      simp only [Int.toNat_natCast]
      have stop : ∀ c, c = treeE l i → c ≠ 0 → VLe (.int .i64 c) (.int .i64 (treeF l)) := fun c hc h0 => vle_int (by
        have := scanE_stop hz (by rw [← hc]; exact h0) _ hlt
        rw [e1, if_pos (by rw [this, ← hc]; exact h0), this, hc])
      refine ⟨⟨by omega, by omega⟩, trivial, fun h3 => ?_, fun h3 => ?_⟩
      · have h4 : pathF (l.getD i default).path ≠ 0 := by simpa using h3
        have h5 : nodeF (l.getD i default) = pathF (l.getD i default).path := if_pos h4
        exact stop _ (by unfold treeE; rw [if_pos (by rw [h5]; exact h4), h5]) h4
      have h4 : ¬ pathF (l.getD i default).path ≠ 0 := by simpa using h3
      have n0 : nodeF (l.getD i default) = if ¬ (inR (l.getD i default).data 0 9999 ∧ inR (l.getD i default).version 0 999 ∧ inR (l.getD i default).owner 0 9 ∧ inR (l.getD i default).next 0 100) then 3 else 0 := if_neg h4
      refine ⟨trivial, ?_⟩
      repeat (first | (refine And.intro (fun h _ => h) ?_) | (refine And.intro (fun _ h => h) ?_) | (refine And.intro ?aa ?_; case aa => (exact (tqI _))) | (refine And.intro ?aa ?_; case aa => (exact trivial)) | (refine And.intro ?aa ?_; case aa => (exact fun _ => trivial)) | (refine And.intro ?aa ?_; case aa => (intros; simp_all [pr40, pr41, pr42, pr43, pr44, pr45]; done)) | (refine And.intro ?aa ?_; case aa => (intros; exact inK64 (by omega))) | (refine And.intro ?aa ?_; case aa => (intros; simp only [decide_eq_true_eq] at *; omega)) | (intro q hq))
      have e0 : q = decide (¬ (inR (l.getD i default).data 0 9999 ∧ inR (l.getD i default).version 0 999 ∧ inR (l.getD i default).owner 0 9 ∧ inR (l.getD i default).next 0 100)) := by
        rw [hq]
        simp only [*]
        rw [Bool.eq_iff_iff, decide_eq_true_eq]
        by_cases a1 : inR (l.getD i default).data 0 9999 <;> by_cases a2 : inR (l.getD i default).version 0 999 <;> by_cases a3 : inR (l.getD i default).owner 0 9 <;> by_cases a4 : inR (l.getD i default).next 0 100 <;> simp only [a1, a2, a3, a4, decide_true, decide_false, Bool.not_true, Bool.not_false, cond_true, cond_false, and_true, true_and, and_false, false_and, not_true_eq_false, not_false_eq_true, Bool.false_eq_true]
      clear hq
      rw [e0]
      refine ⟨fun h5 => ?_, fun h5 => ?_⟩
      · have h6 : nodeF (l.getD i default) = 3 := by rw [n0, if_pos (of_decide_eq_true h5)]
        exact stop _ (by unfold treeE; rw [if_pos (by rw [h6]; decide), h6]) (by decide)
      have h6 : nodeF (l.getD i default) = 0 := by rw [n0, if_neg (of_decide_eq_false h5)]
      have e2 : treeE l i = if 0 < i ∧ ¬ lt (atZ l (i - 1)).path (atZ l i).path then 1 else 0 := if_neg (not_not_intro h6)
      clear e0
      repeat (first | (refine And.intro (fun h _ => h) ?_) | (refine And.intro (fun _ h => h) ?_) | (refine And.intro ?aa ?_; case aa => (exact (tqI _))) | (refine And.intro ?aa ?_; case aa => (exact (fun h => inK64 (by omega)))) | (refine And.intro ?aa ?_; case aa => (exact (fun h => ⟨by have := of_decide_eq_true h; omega, by omega⟩))) | (refine And.intro ?aa ?_; case aa => (intros; simp_all [pr40, pr41, pr42, pr43, pr44, pr45]; done)) | (refine And.intro ?aa ?_; case aa => (intros; exact inK64 (by omega))) | (refine And.intro ?aa ?_; case aa => (intros; simp only [decide_eq_true_eq] at *; omega)) | (intro q hq))
      have e3 : q = decide (0 < i ∧ ¬ lt (atZ l (i - 1)).path (atZ l i).path) := by
        rw [hq, Bool.eq_iff_iff, decide_eq_true_eq]
        by_cases a1 : 0 < i
        · have n1 : ((i : Int) - 1).toNat = i - 1 := by omega
          have a2 : decide ((i : Int) > 0) = true := decide_eq_true (by omega)
          rw [a2, n1]
          simp only [cond_true, Bool.or_eq_true, decide_eq_true_eq, a1, true_and]
          refine ⟨fun g => g.elim lt_asymm (fun g => by
            show ¬ lt _ (l.getD i default).path
            rw [g]
            exact lt_irrefl _), fun g => Classical.byContradiction fun k => ?_⟩
          exact k (Or.inr (lt_total (fun g2 => k (Or.inl g2)) g))
        · have a2 : decide ((i : Int) > 0) = false := decide_eq_false (by omega)
          rw [a2]
          simp [a1]
      refine ⟨fun h5 => ?_, fun h5 => ?_⟩
      · rw [e3] at h5
        exact stop _ (by rw [e2, if_pos (of_decide_eq_true h5)]) (by decide)
      · rw [e3] at h5
        exact ⟨inK64 (by omega), i + 1, SLe.refl _, ⟨by omega, scanE_next hz (by rw [e2, if_neg (of_decide_eq_false h5)])⟩, by omega⟩
    · have hge : i = l.length := by have := of_decide_eq_false h2; omega
      rw [hge] at hz
      have hr := rising_scan hz
      have e2 : treeF l = if atN l top < 0 then 4 else if noUp l then 4 else if badUp l then 1 else 0 := by rw [e1, if_neg (not_not_intro hz)]
      have hsz : ∀ j, j < l.length → (atZ l j).path.size ≤ 1000 := fun j hj => by
        have := path_size (node_path (node_scan hz hj)); omega
      refine ⟨⟨VLe.refl _, hpre⟩, fun h3 => ?_, fun h3 => ?_⟩
      · exact vle_int (by rw [e2, if_pos (of_decide_eq_true h3)])
      have e3 : treeF l = if noUp l then 4 else if badUp l then 1 else 0 := by rw [e2, if_neg (of_decide_eq_false h3)]
      refine ⟨⟨0, SLe.refl _, by omega, fun j hj => absurd hj (Nat.not_lt_zero j)⟩, ?_⟩
      rintro i ⟨hi, hj⟩
      refine ⟨fun h5 => ?_, fun h5 => ?_⟩
      · have hlt : i < l.length := by have := of_decide_eq_true h5; omega
        simp only [Int.toNat_natCast]
        refine ⟨⟨by omega, by omega⟩, hsz i hlt, ⟨VLe.refl _, hpre⟩, fun h6 => ?_, fun h6 => ⟨inK64 (by omega), i + 1, SLe.refl _, ⟨by omega, fun j h7 => ?_⟩, by omega⟩⟩
        · exact vle_int (by rw [e3, if_pos ⟨_, atZ_mem hlt, of_decide_eq_true h6⟩])
        · by_cases e : j = i
          · rw [e]; exact of_decide_eq_false h6
          · exact hj j (by omega)
      have hge : i = l.length := by have := of_decide_eq_false h5; omega
      subst hge
      have hn : ¬ noUp l := by
        rintro ⟨z, h6, h7⟩
        obtain ⟨k, hk, rfl⟩ := mem_atZ h6
        exact hj k hk h7
      have e4 : treeF l = if badUp l then 1 else 0 := by rw [e3, if_neg hn]
      refine ⟨⟨0, SLe.refl _, by omega, fun j hj => absurd hj (Nat.not_lt_zero j)⟩, ?_⟩
      rintro i ⟨hi, hk⟩
      refine ⟨fun h5 => ?_, fun h5 => ?_⟩
      · have hlt : i < l.length := by have := of_decide_eq_true h5; omega
        simp only [Int.toNat_natCast]
        have h8 : ¬ atN l (upF (l.getD i default).path) < 0 := hj i hlt
        have h9 : atN l (upF (l.getD i default).path) < l.length := (idxF_lt (isPath (upF (l.getD i default).path)) l).elim id fun g => absurd (show atN l (upF (l.getD i default).path) = -1 from g) (by omega)
        refine ⟨⟨by omega, by omega⟩, hsz i hlt, ⟨VLe.refl _, hpre⟩, ⟨by omega, by omega⟩, fun h6 => ?_, fun h6 => ⟨inK64 (by omega), i + 1, SLe.refl _, ⟨by omega, fun j h7 => ?_⟩, by omega⟩⟩
        · exact vle_int (by rw [e4, if_pos ⟨_, atZ_mem hlt, by simpa using h6⟩])
        · by_cases e : j = i
          · rw [e]; exact by simpa using h6
          · exact hk j (by omega)
      · have hge : i = l.length := by have := of_decide_eq_false h5; omega
        subst hge
        refine vle_int ?_
        rw [e4, if_neg]
        rintro ⟨z, h6, h7⟩
        obtain ⟨k, hk2, rfl⟩ := mem_atZ h6
        exact h7 (hk k hk2)
  exact Eq.mp (by kernel_rfl) key
theorem so17 : Sound Tryz.prog 17 sp17 := by
  refine sound_of_body hmix (pol := 0) Tryz.func17 rfl (by kernel_rfl) fun args bin ob r bout hDe hob => ?_
  unfold sp17 at hDe
  split at hDe
  · rename_i a0
    cases hDe
    exact ⟨rfl, rfl, Nat.le_of_ble_eq_true (by kernel_rfl), cx17 ((decL decZnode) a0), Eq.mp (by kernel_rfl) htt, Eq.mp (by kernel_rfl) da17, Eq.mp (by kernel_rfl) (noM_sound (P := Tryz.prog)), by kernel_rfl, [encL (encZnode 1) 1 (((decL decZnode) a0))], args_of_vles (⟨hob.1, trivial⟩), Eq.mp (by kernel_rfl) (bd17 ((decL decZnode) a0) (hob.2))⟩
  · cases hDe

end Go.Av
