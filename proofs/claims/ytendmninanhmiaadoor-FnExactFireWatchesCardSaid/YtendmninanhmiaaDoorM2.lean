/- A watch behind the others; the law. -/
import Derived.Test.YtendmninanhmiaaDoorM1
namespace Go.Av
open Go.Proofs
set_option maxRecDepth 100000
set_option maxHeartbeats 2000000
set_option linter.unusedVariables false
set_option linter.unusedSimpArgs false

theorem szS_top' {α : Type} {f : α → Int → Int} (hf : ∀ x v, f x v ≤ v ∨ f x v < 0) (xs : List α) (v : Int) : szS f xs v ≤ v ∨ szS f xs v < 0 := by
  have key : ∀ (l : List α) (v : Int), szA f l v ≤ v ∨ szA f l v < 0 := by
    intro l
    induction l with
    | nil => intro v; exact Or.inl (Int.le_refl _)
    | cons x r ih =>
      intro v
      unfold szA
      split
      · exact Or.inr (by decide)
      · have := ih (f x v)
        have := hf x v
        omega
  unfold szS
  split
  · exact Or.inr (by decide)
  · have := key xs (v - xs.length)
    omega
noncomputable def addF (l : List Watch) (w : Watch) : WatchResult :=
  if watchesF l ≠ 0 then ⟨watchesF l, [], []⟩ else if watchF w ≠ 0 then ⟨watchF w, [], []⟩ else if w ∈ l then ⟨0, l, []⟩ else if l.length = 20 then ⟨2, [], []⟩ else ⟨0, l ++ [w], []⟩
theorem watches_len {l : List Watch} (h : watchesF l = 0) : l.length ≤ 20 := by
  unfold watchesF at h
  split at h
  · cases h
  · omega
theorem addF_len (l : List Watch) (w : Watch) : (addF l w).watches.length ≤ 21 ∧ (addF l w).events.length = 0 := by
  unfold addF
  split
  · simp
  rename_i h
  have := watches_len (Classical.not_not.1 h)
  split
  · simp
  split
  · exact ⟨by simp only; omega, rfl⟩
  split
  · simp
  · exact ⟨by simp only [List.length_append, List.length_singleton]; omega, rfl⟩
theorem atW_in (l : List Watch) (w : Watch) : (decide (0 ≤ atW l w)) = decide (w ∈ l) := by
  have := idxF_nonneg (isW w) l
  show decide (0 ≤ idxF (isW w) l) = _
  rw [this, Bool.eq_iff_iff, decide_eq_true_eq, List.any_eq_true]
  unfold isW
  constructor
  · rintro ⟨x, hx, h⟩
    rw [← of_decide_eq_true h]
    exact hx
  · intro h
    exact ⟨w, h, decide_eq_true rfl⟩
theorem appg0 {g h : Nat → V} : appg 0 g h = h := by funext i; simp [appg]

/-! ### laws.toWatchS%o -/
def pr13o (xs : List Watch) : Prop := xs.length ≤ most ∧ ∀ x ∈ xs, pr23 x
noncomputable def ro13o (xs : List Watch) : List Watch := xs
noncomputable def rb13o (xs : List Watch) : List Blk := [(.arr 2 (ro13o xs).length (gL (encWatch 1) (ro13o xs)) tagS)]
noncomputable def rs13o (xs : List Watch) : V := .osl 0 (ro13o xs).length
noncomputable def sp13o : FSpec := fun args bin => match args, bin with
  | [a0], [] => some (VLe a0 (encL (encWatch 1) 1 (((decL decWatch) a0))) ∧ pr13o ((decL decWatch) a0), rs13o ((decL decWatch) a0), rb13o ((decL decWatch) a0))
  | _, _ => none
noncomputable def in13o_3 (xs : List Watch) : LoopInv :=
  ⟨Nat × List Watch, fun p => ⟨[(0, encL (encWatch 1) 1 xs), (3, .osl (canonT 3) xs.length), (4, .int .i64 p.1)], [(canonT 3, .arr 2 xs.length (gL (encWatch 1) p.2) tagS)]⟩,
    fun p => p.1 ≤ xs.length ∧ p.2.length = xs.length ∧ ∀ j, j < p.1 → p.2.getD j default = xs.getD j default, fun p => xs.length - p.1⟩
noncomputable def iv13o (xs : List Watch) : Nat → Option LoopInv := fun rg_ => match rg_ with
  | 3 => some (in13o_3 xs)
  | _ => none
noncomputable def D13o : Nat → Option (Bool × FSpec) := lk [(23, (false, sp23))]
theorem da13o : SoundAll Tryd.prog D13o := soundAll_cons so23 (soundAll_nil)
noncomputable def cx13o (xs : List Watch) : Cx := ⟨tt, D13o, Tryd.f13.ntmps, [0, 2, 3, 4, 11], [(3, ⟨[(0, none), (3, some 2), (4, none)], []⟩)], [], iv13o xs, [], noM, []⟩
theorem bd13o (xs : List Watch) (hpre : pr13o xs) : bodyO (cx13o xs) Tryd.f13 [(0, 2)] [encL (encWatch 1) 1 (xs)] [] (fun rr bs => VLe rr (rs13o xs) ∧ BinLe bs (rb13o xs)) := by
  have key :
      ((((0 : Int) ≤ (↑(List.length xs) : Int)) ∧
   (((↑(List.length xs) : Int) ≤ (↑(List.length xs) : Int)) ∧
   ((↑(List.length xs) : Int) ≤ (↑1073741824 : Int)))) ∧
   ((∃ x : Nat × List Watch, ((SLe
   (AS.mk
   [(0, encL (encWatch 1) 1 xs),
   (3, V.osl 32000256 (Int.toNat (↑(List.length xs) : Int))),
   (4, V.int IntKind.i64 (0 : Int))]
   [(32000256,
   Blk.arr 2 (Int.toNat (↑(List.length xs) : Int))
   (fun (x : Nat) ↦ V.agg [V.int IntKind.i64 (0 : Int), V.str (ByteArray.mk #[])]) 100)])
   (AS.mk
   [(0, encL (encWatch 1) 1 xs), (3, V.osl 32000256 (List.length xs)),
   (4, V.int IntKind.i64 (↑(Prod.fst x) : Int))]
   [(32000256, Blk.arr 2 (List.length xs) (gL (encWatch 1) (Prod.snd x)) 100)])) ∧
   ((Prod.fst x ≤ List.length xs) ∧
   ((List.length (Prod.snd x) = List.length xs) ∧
   (∀ j : Nat,
   ((j < Prod.fst x) →
   (List.getD (Prod.snd x) j default = List.getD xs j default))))))) ∧
   (∀ x : Nat × List Watch,
   (((Prod.fst x ≤ List.length xs) ∧
   ((List.length (Prod.snd x) = List.length xs) ∧
   (∀ j : Nat,
   ((j < Prod.fst x) →
   (List.getD (Prod.snd x) j default = List.getD xs j default))))) →
   (((decide ((↑(Prod.fst x) : Int) < (↑(List.length xs) : Int)) = true) →
   ((((0 : Int) ≤ (↑(Prod.fst x) : Int)) ∧
   ((↑(Prod.fst x) : Int) < (↑(List.length xs) : Int))) ∧
   (((VLe (encWatch 1 (List.getD xs (Int.toNat (↑(Prod.fst x) : Int)) default))
   (encWatch 1 (decWatch (encWatch 1 (List.getD xs (Int.toNat (↑(Prod.fst x) : Int)) default))))) ∧
   (pr23 (decWatch (encWatch 1 (List.getD xs (Int.toNat (↑(Prod.fst x) : Int)) default))))) ∧
   ((((0 : Int) ≤ (↑(Prod.fst x) : Int)) ∧
   ((↑(Prod.fst x) : Int) < (↑(List.length xs) : Int))) ∧
   ((Int.toNat (↑(Prod.fst x) : Int) < List.length xs) ∧
   ((inK IntKind.i64 ((↑(Prod.fst x) : Int) + (1 : Int))) ∧
   (∃ y : Nat × List Watch, ((SLe
   (AS.mk
   [(0, encL (encWatch 1) 1 xs), (3, V.osl 32000256 (List.length xs)),
   (4, V.int IntKind.i64 ((↑(Prod.fst x) : Int) + (1 : Int)))]
   [(32000256,
   Blk.arr 2 (List.length xs)
   (setg (gL (encWatch 1) (Prod.snd x)) (Int.toNat (↑(Prod.fst x) : Int))
   (encWatch 1
   (decWatch (encWatch 1 (List.getD xs (Int.toNat (↑(Prod.fst x) : Int)) default)))))
   100)])
   (AS.mk
   [(0, encL (encWatch 1) 1 xs), (3, V.osl 32000256 (List.length xs)),
   (4, V.int IntKind.i64 (↑(Prod.fst y) : Int))]
   [(32000256, Blk.arr 2 (List.length xs) (gL (encWatch 1) (Prod.snd y)) 100)])) ∧
   (((Prod.fst y ≤ List.length xs) ∧
   ((List.length (Prod.snd y) = List.length xs) ∧
   (∀ j : Nat,
   ((j < Prod.fst y) →
   (List.getD (Prod.snd y) j default = List.getD xs j default))))) ∧
   (List.length xs - Prod.fst y < List.length xs - Prod.fst x)))))))))) ∧
   ((decide ((↑(Prod.fst x) : Int) < (↑(List.length xs) : Int)) = false) →
   ((VLe (V.osl 0 (List.length xs)) (V.osl 0 (List.length (ro13o xs)))) ∧
   ((BLe (Blk.arr 2 (List.length xs) (gL (encWatch 1) (Prod.snd x)) 100)
   (Blk.arr 2 (List.length (ro13o xs)) (gL (encWatch 1) (ro13o xs)) 100)) ∧
   (True))))))))) := by
    unfold pr13o most at hpre
    obtain ⟨hpre, hel⟩ := hpre
    refine ⟨⟨by omega, by omega, by omega⟩, ⟨(0, List.replicate xs.length default), ?_, by simp, by simp, fun j hj => absurd hj (Nat.not_lt_zero j)⟩, ?_⟩
    · refine sle_of ⟨rfl, VLe.refl _, rfl, VLe.refl _, rfl, VLe.refl _, trivial⟩ ⟨rfl, ?_, trivial⟩
      refine ble_arr (fun i hi => ?_) (Or.inl rfl)
      have hi' : i < xs.length := hi
      have e1 : gL (encWatch 1) (List.replicate xs.length default) i = (encWatch 1) default := by simp [gL, hi']
      rw [e1]
      exact zele_Watch
    · rintro ⟨i, ys⟩ ⟨hi, hl, hj⟩
      simp only at hi hl hj ⊢
      refine ⟨fun h => ?_, fun h => ?_⟩
      · have hlt : i < xs.length := by simpa using h
        have hin : xs.getD i default ∈ xs := by simp [hlt]
        simp only [dec_encWatch, Int.toNat_natCast]
        refine ⟨⟨by omega, by omega⟩, ⟨VLe.refl _, hel _ hin⟩, ⟨by omega, by omega⟩, by simpa using hlt, inK64 (by omega), (i + 1, ys.set i (xs.getD i default)), ?_, ⟨by simp only; omega, by simpa using hl, fun j h2 => ?_⟩, by simp only; omega⟩
        · refine sle_of ⟨rfl, VLe.refl _, rfl, VLe.refl _, rfl, vle_int (by simp), trivial⟩ ⟨rfl, ?_, trivial⟩
          refine ble_arr (fun k hk => ?_) (Or.inl rfl)
          simp only [setg, gL, Int.toNat_natCast]
          by_cases e : k = i
          · subst e
            rw [if_pos rfl, getD_set_eq _ _ _ _ (by omega)]
            exact ele_Watch _ _ _
          · rw [if_neg e, getD_set_ne _ _ _ _ e]
            exact ELe.refl _
        · simp only at h2 ⊢
          by_cases e : j = i
          · subst e; rw [getD_set_eq _ _ _ _ (by omega)]
          · rw [getD_set_ne _ _ _ _ e]; exact hj j (by omega)
      · have hge : i = xs.length := by simp at h; omega
        refine ⟨VLe.refl _, ble_arr (fun k hk => ?_) (Or.inl rfl), trivial⟩
        show ELe _ (gL (encWatch 1) xs k)
        simp only [gL]
        rw [hj k (by omega)]
        exact ELe.refl _
  exact Eq.mp (by kernel_rfl) key
theorem so13o : Sound Tryd.prog 13 sp13o := by
  refine sound_of_bodyO hmix (tpl := [(0, 2)]) Tryd.func13 rfl (by kernel_rfl) fun args bin ob r bout hDe hob => ?_
  unfold sp13o at hDe
  split at hDe
  · rename_i a0
    cases hDe
    exact ⟨Nat.le_of_ble_eq_true (by kernel_rfl), cx13o ((decL decWatch) a0), Eq.mp (by kernel_rfl) htt, Eq.mp (by kernel_rfl) da13o, Eq.mp (by kernel_rfl) (noM_sound (P := Tryd.prog)), by kernel_rfl, [encL (encWatch 1) 1 (((decL decWatch) a0))], [], args_of_vles (⟨hob.1, trivial⟩), trivial, Eq.mp (by kernel_rfl) (bd13o ((decL decWatch) a0) (hob.2))⟩
  · cases hDe

/-! ### slices.Clone(()loop.example/g00369/impl.Watch,loop.example/g00369/impl.Watch)%o -/
def pr60o (xs : List Watch) : Prop := xs.length ≤ 1048576
noncomputable def ro60o (xs : List Watch) : List Watch := xs
noncomputable def rb60o (xs : List Watch) : List Blk := [(.arr 2 (ro60o xs).length (gL (encWatch 1) (ro60o xs)) tagS)]
noncomputable def rs60o (xs : List Watch) : V := .osl 0 (ro60o xs).length
noncomputable def sp60o : FSpec := fun args bin => match args, bin with
  | [a0], [] => some (VLe a0 (encL (encWatch 1) 1 (((decL decWatch) a0))) ∧ pr60o ((decL decWatch) a0), rs60o ((decL decWatch) a0), rb60o ((decL decWatch) a0))
  | _, _ => none
noncomputable def D60o : Nat → Option (Bool × FSpec) := lk []
theorem da60o : SoundAll Tryd.prog D60o := soundAll_nil
noncomputable def cx60o (xs : List Watch) : Cx := ⟨tt, D60o, Tryd.f60.ntmps, [0, 2, 4], [], [], fun _ => none, [1], noM, []⟩
theorem bd60o (xs : List Watch) (hpre : pr60o xs) : bodyO (cx60o xs) Tryd.f60 [(0, 2)] [encL (encWatch 1) 1 (xs)] [] (fun rr bs => VLe rr (rs60o xs) ∧ BinLe bs (rb60o xs)) := by
  have key :
      (∀ b : Bool,
   (((b = true) →
   (List.length xs = 0)) →
   (((b = true) →
   ((VLe (V.osl 0 0) (V.osl 0 (List.length (ro60o xs)))) ∧
   ((BLe (Blk.arr 2 0 (fun (x : Nat) ↦ V.undef) 100)
   (Blk.arr 2 (List.length (ro60o xs)) (gL (encWatch 1) (ro60o xs)) 100)) ∧
   (True)))) ∧
   ((b = false) →
   ((0 = 0) ∧
   ((0 + List.length xs ≤ 1073741824) ∧
   ((sizedL 2 (List.length xs) (gL (encWatch 1) xs)) ∧
   ((∀ i : Nat,
   ((i < List.length xs) →
   (flatV (encWatch 1 (List.getD xs i default)) = true))) ∧
   ((VLe (V.osl 0 (0 + List.length xs)) (V.osl 0 (List.length (ro60o xs)))) ∧
   ((BLe (Blk.arr 2 (0 + List.length xs) (appg 0 (rowg []) (gL (encWatch 1) xs)) 100)
   (Blk.arr 2 (List.length (ro60o xs)) (gL (encWatch 1) (ro60o xs)) 100)) ∧
   (True))))))))))) := by
    have hl : xs.length ≤ 1048576 := hpre
    unfold ro60o
    refine fun b hb => ⟨fun h => ?_, fun h => ⟨rfl, by omega, fun k hk => ⟨rfl, rfl⟩, fun k hk => rfl, ?_⟩⟩
    · have : xs = [] := List.length_eq_zero_iff.1 (hb h)
      subst this
      exact ⟨VLe.refl _, ble_nil _, trivial⟩
    · rw [Nat.zero_add, appg0]
      exact ⟨VLe.refl _, BLe.refl _, trivial⟩
  exact Eq.mp (by kernel_rfl) key
theorem so60o : Sound Tryd.prog 60 sp60o := by
  refine sound_of_bodyO hmix (tpl := [(0, 2)]) Tryd.func60 rfl (by kernel_rfl) fun args bin ob r bout hDe hob => ?_
  unfold sp60o at hDe
  split at hDe
  · rename_i a0
    cases hDe
    exact ⟨Nat.le_of_ble_eq_true (by kernel_rfl), cx60o ((decL decWatch) a0), Eq.mp (by kernel_rfl) htt, Eq.mp (by kernel_rfl) da60o, Eq.mp (by kernel_rfl) (noM_sound (P := Tryd.prog)), by kernel_rfl, [encL (encWatch 1) 1 (((decL decWatch) a0))], [], args_of_vles (⟨hob.1, trivial⟩), trivial, Eq.mp (by kernel_rfl) (bd60o ((decL decWatch) a0) (hob.2))⟩
  · cases hDe

theorem add_e1 {l : List Watch} {w : Watch} (h : watchesF l ≠ 0) : addF l w = ⟨watchesF l, [], []⟩ := if_pos h
theorem add_e2 {l : List Watch} {w : Watch} (h : watchesF l = 0) (h2 : watchF w ≠ 0) : addF l w = ⟨watchF w, [], []⟩ := by
  unfold addF
  rw [if_neg (not_not_intro h), if_pos h2]
theorem add_e3 {l : List Watch} {w : Watch} (h : watchesF l = 0) (h2 : watchF w = 0) (h3 : w ∈ l) : addF l w = ⟨0, l, []⟩ := by
  unfold addF
  rw [if_neg (not_not_intro h), if_neg (not_not_intro h2), if_pos h3]
theorem add_e4 {l : List Watch} {w : Watch} (h : watchesF l = 0) (h2 : watchF w = 0) (h3 : ¬ w ∈ l) (h4 : l.length = 20) : addF l w = ⟨2, [], []⟩ := by
  unfold addF
  rw [if_neg (not_not_intro h), if_neg (not_not_intro h2), if_neg h3, if_pos h4]
theorem add_e5 {l : List Watch} {w : Watch} (h : watchesF l = 0) (h2 : watchF w = 0) (h3 : ¬ w ∈ l) (h4 : ¬ l.length = 20) : addF l w = ⟨0, l ++ [w], []⟩ := by
  unfold addF
  rw [if_neg (not_not_intro h), if_neg (not_not_intro h2), if_neg h3, if_neg h4]
theorem nz {c : Int} (h : (c != 0) = true) : c ≠ 0 := by simpa using h
theorem ez {c : Int} (h : (c != 0) = false) : c = 0 := by simpa using h

/-! ### impl.AddWatch%o -/
def pr24o (l : List Watch) (w : Watch) : Prop := l.length ≤ 1048576
noncomputable def ro24o (l : List Watch) (w : Watch) : WatchResult := addF l w
noncomputable def rb24o (l : List Watch) (w : Watch) : List Blk := [(.arr 2 ((ro24o l w).watches).length (gL (encWatch 1) ((ro24o l w).watches)) tagS), (.arr 3 ((ro24o l w).events).length (gL (encTEvent 1) ((ro24o l w).events)) tagS)]
noncomputable def rs24o (l : List Watch) (w : Watch) : V := .agg [.int .i64 ((ro24o l w).code), .osl 0 ((ro24o l w).watches).length, .osl 1 ((ro24o l w).events).length]
noncomputable def sp24o : FSpec := fun args bin => match args, bin with
  | [a0, a1], [] => some (VLe a0 (encL (encWatch 1) 1 (((decL decWatch) a0))) ∧ VLe a1 (encWatch 1 ((decWatch a1))) ∧ pr24o ((decL decWatch) a0) (decWatch a1), rs24o ((decL decWatch) a0) (decWatch a1), rb24o ((decL decWatch) a0) (decWatch a1))
  | _, _ => none
noncomputable def D24o : Nat → Option (Bool × FSpec) := lk [(14, (false, sp14)), (49, (false, sp49)), (50, (false, sp50)), (60, (false, sp60o))]
theorem da24o : SoundAll Tryd.prog D24o := soundAll_cons so14 (soundAll_cons so49 (soundAll_cons so50 (soundAll_cons so60o (soundAll_nil))))
noncomputable def cx24o (l : List Watch) (w : Watch) : Cx := ⟨tt, D24o, Tryd.f24.ntmps, [0, 1, 3, 4, 5, 6, 7, 11, 17, 22, 28], [], [], fun _ => none, [], noM, []⟩
theorem bd24o (l : List Watch) (w : Watch) (hpre : pr24o l w) : bodyO (cx24o l w) Tryd.f24 [(1, 2), (2, 3)] [encL (encWatch 1) 1 (l), encWatch 1 (w)] [] (fun rr bs => VLe rr (rs24o l w) ∧ BinLe bs (rb24o l w)) := by
  have key :
      (((VLe (encL (encWatch 1) 1 l)
   (encL (encWatch 1) 1 (decL decWatch (encL (encWatch 1) 1 l)))) ∧
   (pr14 (decL decWatch (encL (encWatch 1) 1 l)))) ∧
   ((((watchesF (decL decWatch (encL (encWatch 1) 1 l)) != (0 : Int)) = true) →
   ((VLe
   (V.agg
   [V.int IntKind.i64 (watchesF (decL decWatch (encL (encWatch 1) 1 l))), V.osl 0 0,
   V.osl 1 0])
   (V.agg
   [V.int IntKind.i64 (WatchResult.code (ro24o l w)), V.osl 0 (List.length (WatchResult.watches (ro24o l w))),
   V.osl 1 (List.length (WatchResult.events (ro24o l w)))])) ∧
   ((BLe (Blk.arr 2 0 (fun (x : Nat) ↦ V.undef) 100)
   (Blk.arr 2 (List.length (WatchResult.watches (ro24o l w)))
   (gL (encWatch 1) (WatchResult.watches (ro24o l w))) 100)) ∧
   ((BLe (Blk.arr 3 0 (fun (x : Nat) ↦ V.undef) 100)
   (Blk.arr 3 (List.length (WatchResult.events (ro24o l w)))
   (gL (encTEvent 1) (WatchResult.events (ro24o l w))) 100)) ∧
   (True))))) ∧
   (((watchesF (decL decWatch (encL (encWatch 1) 1 l)) != (0 : Int)) = false) →
   (((VLe (encWatch 1 w) (encWatch 1 (decWatch (encWatch 1 w)))) ∧
   (pr49 (decWatch (encWatch 1 w)))) ∧
   ((((watchF (decWatch (encWatch 1 w)) != (0 : Int)) = true) →
   ((VLe
   (V.agg
   [V.int IntKind.i64 (watchF (decWatch (encWatch 1 w))), V.osl 0 0,
   V.osl 1 0])
   (V.agg
   [V.int IntKind.i64 (WatchResult.code (ro24o l w)), V.osl 0 (List.length (WatchResult.watches (ro24o l w))),
   V.osl 1 (List.length (WatchResult.events (ro24o l w)))])) ∧
   ((BLe (Blk.arr 2 0 (fun (x : Nat) ↦ V.undef) 100)
   (Blk.arr 2 (List.length (WatchResult.watches (ro24o l w)))
   (gL (encWatch 1) (WatchResult.watches (ro24o l w))) 100)) ∧
   ((BLe (Blk.arr 3 0 (fun (x : Nat) ↦ V.undef) 100)
   (Blk.arr 3 (List.length (WatchResult.events (ro24o l w)))
   (gL (encTEvent 1) (WatchResult.events (ro24o l w))) 100)) ∧
   (True))))) ∧
   (((watchF (decWatch (encWatch 1 w)) != (0 : Int)) = false) →
   (((VLe (encL (encWatch 1) 1 l)
   (encL (encWatch 1) 1 (decL decWatch (encL (encWatch 1) 1 l)))) ∧
   (pr60o (decL decWatch (encL (encWatch 1) 1 l)))) ∧
   (((VLe (encL (encWatch 1) 1 l)
   (encL (encWatch 1) 1 (decL decWatch (encL (encWatch 1) 1 l)))) ∧
   ((VLe (encWatch 1 w) (encWatch 1 (decWatch (encWatch 1 w)))) ∧
   (pr50 (decL decWatch (encL (encWatch 1) 1 l)) (decWatch (encWatch 1 w))))) ∧
   (((decide (decWatch (encWatch 1 w) ∈ decL decWatch (encL (encWatch 1) 1 l)) = true) →
   ((VLe
   (V.agg
   [V.int IntKind.i64 (0 : Int),
   V.osl 0 (List.length (ro60o (decL decWatch (encL (encWatch 1) 1 l)))),
   V.osl 1 0])
   (V.agg
   [V.int IntKind.i64 (WatchResult.code (ro24o l w)), V.osl 0 (List.length (WatchResult.watches (ro24o l w))),
   V.osl 1 (List.length (WatchResult.events (ro24o l w)))])) ∧
   ((BLe
   (Blk.arr 2 (List.length (ro60o (decL decWatch (encL (encWatch 1) 1 l))))
   (gL (encWatch 1) (ro60o (decL decWatch (encL (encWatch 1) 1 l)))) 100)
   (Blk.arr 2 (List.length (WatchResult.watches (ro24o l w)))
   (gL (encWatch 1) (WatchResult.watches (ro24o l w))) 100)) ∧
   ((BLe (Blk.arr 3 0 (fun (x : Nat) ↦ V.undef) 100)
   (Blk.arr 3 (List.length (WatchResult.events (ro24o l w)))
   (gL (encTEvent 1) (WatchResult.events (ro24o l w))) 100)) ∧
   (True))))) ∧
   ((decide (decWatch (encWatch 1 w) ∈ decL decWatch (encL (encWatch 1) 1 l)) = false) →
   (((((↑(List.length l) : Int) == (20 : Int)) = true) →
   ((VLe (V.agg [V.int IntKind.i64 (2 : Int), V.osl 0 0, V.osl 1 0])
   (V.agg
   [V.int IntKind.i64 (WatchResult.code (ro24o l w)), V.osl 0 (List.length (WatchResult.watches (ro24o l w))),
   V.osl 1 (List.length (WatchResult.events (ro24o l w)))])) ∧
   ((BLe (Blk.arr 2 0 (fun (x : Nat) ↦ V.undef) 100)
   (Blk.arr 2 (List.length (WatchResult.watches (ro24o l w)))
   (gL (encWatch 1) (WatchResult.watches (ro24o l w))) 100)) ∧
   ((BLe (Blk.arr 3 0 (fun (x : Nat) ↦ V.undef) 100)
   (Blk.arr 3 (List.length (WatchResult.events (ro24o l w)))
   (gL (encTEvent 1) (WatchResult.events (ro24o l w))) 100)) ∧
   (True))))) ∧
   ((((↑(List.length l) : Int) == (20 : Int)) = false) →
   ((List.length (ro60o (decL decWatch (encL (encWatch 1) 1 l))) =
   List.length (ro60o (decL decWatch (encL (encWatch 1) 1 l)))) ∧
   ((List.length (ro60o (decL decWatch (encL (encWatch 1) 1 l))) + 1 ≤ 1073741824) ∧
   ((sizedL 2 1 (rowg [encWatch 1 w])) ∧
   ((VLe
   (V.agg
   [V.int IntKind.i64 (0 : Int),
   V.osl 0 (List.length (ro60o (decL decWatch (encL (encWatch 1) 1 l))) + 1),
   V.osl 1 0])
   (V.agg
   [V.int IntKind.i64 (WatchResult.code (ro24o l w)), V.osl 0 (List.length (WatchResult.watches (ro24o l w))),
   V.osl 1 (List.length (WatchResult.events (ro24o l w)))])) ∧
   ((BLe
   (Blk.arr 2 (List.length (ro60o (decL decWatch (encL (encWatch 1) 1 l))) + 1)
   (appg (List.length (ro60o (decL decWatch (encL (encWatch 1) 1 l))))
   (gL (encWatch 1) (ro60o (decL decWatch (encL (encWatch 1) 1 l))))
   (rowg [encWatch 1 w]))
   100)
   (Blk.arr 2 (List.length (WatchResult.watches (ro24o l w)))
   (gL (encWatch 1) (WatchResult.watches (ro24o l w))) 100)) ∧
   ((BLe (Blk.arr 3 0 (fun (x : Nat) ↦ V.undef) 100)
   (Blk.arr 3 (List.length (WatchResult.events (ro24o l w)))
   (gL (encTEvent 1) (WatchResult.events (ro24o l w))) 100)) ∧
   (True))))))))))))))))))) := by
    have hl : l.length ≤ 1048576 := hpre
    have hm : l.length ≤ maxLen := by unfold maxLen; omega
    simp only [decL_Watch, dec_encWatch, ro60o, ro24o]
    refine ⟨⟨VLe.refl _, hm⟩, fun h => ?_, fun h => ⟨⟨VLe.refl _, trivial⟩, fun h2 => ?_, fun h2 => ⟨⟨VLe.refl _, hl⟩, ⟨VLe.refl _, VLe.refl _, hm⟩, fun h3 => ?_, fun h3 => ⟨fun h4 => ?_, fun h4 => ⟨trivial, by omega, ?_, ?_⟩⟩⟩⟩⟩
    · rw [add_e1 (nz h)]
      exact ⟨VLe.refl _, ble_nil _, ble_nil _, trivial⟩
    · rw [add_e2 (ez h) (nz h2)]
      exact ⟨VLe.refl _, ble_nil _, ble_nil _, trivial⟩
    · rw [add_e3 (ez h) (ez h2) (of_decide_eq_true h3)]
      exact ⟨VLe.refl _, BLe.refl _, ble_nil _, trivial⟩
    · rw [add_e4 (ez h) (ez h2) (of_decide_eq_false h3) (by simp at h4; omega)]
      exact ⟨VLe.refl _, ble_nil _, ble_nil _, trivial⟩
    · intro k hk
      have : k = 0 := by omega
      subst this
      exact ⟨rfl, rfl⟩
    · rw [add_e5 (ez h) (ez h2) (of_decide_eq_false h3) (by simp at h4; omega), List.length_append, List.length_singleton]
      exact ⟨VLe.refl _, ble_push rfl rfl, ble_nil _, trivial⟩
  exact Eq.mp (by kernel_rfl) key
theorem so24o : Sound Tryd.prog 24 sp24o := by
  refine sound_of_bodyO hmix (tpl := [(1, 2), (2, 3)]) Tryd.func24 rfl (by kernel_rfl) fun args bin ob r bout hDe hob => ?_
  unfold sp24o at hDe
  split at hDe
  · rename_i a0 a1
    cases hDe
    exact ⟨Nat.le_of_ble_eq_true (by kernel_rfl), cx24o ((decL decWatch) a0) (decWatch a1), Eq.mp (by kernel_rfl) htt, Eq.mp (by kernel_rfl) da24o, Eq.mp (by kernel_rfl) (noM_sound (P := Tryd.prog)), by kernel_rfl, [encL (encWatch 1) 1 (((decL decWatch) a0)), encWatch 1 ((decWatch a1))], [], args_of_vles (⟨hob.1, hob.2.1, trivial⟩), trivial, Eq.mp (by kernel_rfl) (bd24o ((decL decWatch) a0) (decWatch a1) (hob.2.2))⟩
  · cases hDe

/-! ### spec.AddWatch%o -/
def pr22o (l : List Watch) (w : Watch) : Prop := l.length ≤ 1048576
noncomputable def ro22o (l : List Watch) (w : Watch) : WatchResult := addF l w
noncomputable def rb22o (l : List Watch) (w : Watch) : List Blk := [(.arr 2 ((ro22o l w).watches).length (gL (encWatch 1) ((ro22o l w).watches)) tagS), (.arr 3 ((ro22o l w).events).length (gL (encTEvent 1) ((ro22o l w).events)) tagS)]
noncomputable def rs22o (l : List Watch) (w : Watch) : V := .agg [.int .i64 ((ro22o l w).code), .osl 0 ((ro22o l w).watches).length, .osl 1 ((ro22o l w).events).length]
noncomputable def sp22o : FSpec := fun args bin => match args, bin with
  | [a0, a1], [] => some (VLe a0 (encL (encWatch 1) 1 (((decL decWatch) a0))) ∧ VLe a1 (encWatch 1 ((decWatch a1))) ∧ pr22o ((decL decWatch) a0) (decWatch a1), rs22o ((decL decWatch) a0) (decWatch a1), rb22o ((decL decWatch) a0) (decWatch a1))
  | _, _ => none
noncomputable def D22o : Nat → Option (Bool × FSpec) := lk [(48, (false, sp48)), (58, (false, sp58)), (59, (false, sp59))]
theorem da22o : SoundAll Tryd.prog D22o := soundAll_cons so48 (soundAll_cons so58 (soundAll_cons so59 (soundAll_nil)))
noncomputable def cx22o (l : List Watch) (w : Watch) : Cx := ⟨tt, D22o, Tryd.f22.ntmps, [0, 1, 3, 4, 5, 6, 7, 11, 16, 25, 30], [], [], fun _ => none, [], noM, []⟩
theorem bd22o (l : List Watch) (w : Watch) (hpre : pr22o l w) : bodyO (cx22o l w) Tryd.f22 [(1, 2), (2, 3)] [encL (encWatch 1) 1 (l), encWatch 1 (w)] [] (fun rr bs => VLe rr (rs22o l w) ∧ BinLe bs (rb22o l w)) := by
  have key :
      (((VLe (encL (encWatch 1) 1 l)
   (encL (encWatch 1) 1 (decL decWatch (encL (encWatch 1) 1 l)))) ∧
   (pr48 (decL decWatch (encL (encWatch 1) 1 l)))) ∧
   ((((watchesF (decL decWatch (encL (encWatch 1) 1 l)) != (0 : Int)) = true) →
   ((VLe
   (V.agg
   [V.int IntKind.i64 (watchesF (decL decWatch (encL (encWatch 1) 1 l))), V.osl 0 0,
   V.osl 1 0])
   (V.agg
   [V.int IntKind.i64 (WatchResult.code (ro22o l w)), V.osl 0 (List.length (WatchResult.watches (ro22o l w))),
   V.osl 1 (List.length (WatchResult.events (ro22o l w)))])) ∧
   ((BLe (Blk.arr 2 0 (fun (x : Nat) ↦ V.undef) 100)
   (Blk.arr 2 (List.length (WatchResult.watches (ro22o l w)))
   (gL (encWatch 1) (WatchResult.watches (ro22o l w))) 100)) ∧
   ((BLe (Blk.arr 3 0 (fun (x : Nat) ↦ V.undef) 100)
   (Blk.arr 3 (List.length (WatchResult.events (ro22o l w)))
   (gL (encTEvent 1) (WatchResult.events (ro22o l w))) 100)) ∧
   (True))))) ∧
   (((watchesF (decL decWatch (encL (encWatch 1) 1 l)) != (0 : Int)) = false) →
   (((VLe (encPWatch 1 w) (encPWatch 1 (decPWatch (encPWatch 1 w)))) ∧
   (pr58 (decPWatch (encPWatch 1 w)))) ∧
   ((((watchF (decPWatch (encPWatch 1 w)) != (0 : Int)) = true) →
   ((VLe
   (V.agg
   [V.int IntKind.i64 (watchF (decPWatch (encPWatch 1 w))), V.osl 0 0,
   V.osl 1 0])
   (V.agg
   [V.int IntKind.i64 (WatchResult.code (ro22o l w)), V.osl 0 (List.length (WatchResult.watches (ro22o l w))),
   V.osl 1 (List.length (WatchResult.events (ro22o l w)))])) ∧
   ((BLe (Blk.arr 2 0 (fun (x : Nat) ↦ V.undef) 100)
   (Blk.arr 2 (List.length (WatchResult.watches (ro22o l w)))
   (gL (encWatch 1) (WatchResult.watches (ro22o l w))) 100)) ∧
   ((BLe (Blk.arr 3 0 (fun (x : Nat) ↦ V.undef) 100)
   (Blk.arr 3 (List.length (WatchResult.events (ro22o l w)))
   (gL (encTEvent 1) (WatchResult.events (ro22o l w))) 100)) ∧
   (True))))) ∧
   (((watchF (decPWatch (encPWatch 1 w)) != (0 : Int)) = false) →
   ((0 = 0) ∧
   ((0 + List.length l ≤ 1073741824) ∧
   ((sizedL 2 (List.length l) (gL (encWatch 1) l)) ∧
   ((∀ i : Nat,
   ((i < List.length l) →
   (flatV (encWatch 1 (List.getD l i default)) = true))) ∧
   (((VLe (encL (encWatch 1) 1 l)
   (encL (encWatch 1) 1 (decL decWatch (encL (encWatch 1) 1 l)))) ∧
   ((VLe (encWatch 1 w) (encWatch 1 (decWatch (encWatch 1 w)))) ∧
   (pr59 (decL decWatch (encL (encWatch 1) 1 l)) (decWatch (encWatch 1 w))))) ∧
   (((decide (atW (decL decWatch (encL (encWatch 1) 1 l)) (decWatch (encWatch 1 w)) ≥ (0 : Int)) =
   true) →
   ((VLe (V.agg [V.int IntKind.i64 (0 : Int), V.osl 0 (0 + List.length l), V.osl 1 0])
   (V.agg
   [V.int IntKind.i64 (WatchResult.code (ro22o l w)), V.osl 0 (List.length (WatchResult.watches (ro22o l w))),
   V.osl 1 (List.length (WatchResult.events (ro22o l w)))])) ∧
   ((BLe (Blk.arr 2 (0 + List.length l) (appg 0 (rowg []) (gL (encWatch 1) l)) 100)
   (Blk.arr 2 (List.length (WatchResult.watches (ro22o l w)))
   (gL (encWatch 1) (WatchResult.watches (ro22o l w))) 100)) ∧
   ((BLe (Blk.arr 3 0 (fun (x : Nat) ↦ V.undef) 100)
   (Blk.arr 3 (List.length (WatchResult.events (ro22o l w)))
   (gL (encTEvent 1) (WatchResult.events (ro22o l w))) 100)) ∧
   (True))))) ∧
   ((decide (atW (decL decWatch (encL (encWatch 1) 1 l)) (decWatch (encWatch 1 w)) ≥ (0 : Int)) =
   false) →
   (((decide ((↑(List.length l) : Int) ≥ (20 : Int)) = true) →
   ((VLe (V.agg [V.int IntKind.i64 (2 : Int), V.osl 0 0, V.osl 1 0])
   (V.agg
   [V.int IntKind.i64 (WatchResult.code (ro22o l w)), V.osl 0 (List.length (WatchResult.watches (ro22o l w))),
   V.osl 1 (List.length (WatchResult.events (ro22o l w)))])) ∧
   ((BLe (Blk.arr 2 0 (fun (x : Nat) ↦ V.undef) 100)
   (Blk.arr 2 (List.length (WatchResult.watches (ro22o l w)))
   (gL (encWatch 1) (WatchResult.watches (ro22o l w))) 100)) ∧
   ((BLe (Blk.arr 3 0 (fun (x : Nat) ↦ V.undef) 100)
   (Blk.arr 3 (List.length (WatchResult.events (ro22o l w)))
   (gL (encTEvent 1) (WatchResult.events (ro22o l w))) 100)) ∧
   (True))))) ∧
   ((decide ((↑(List.length l) : Int) ≥ (20 : Int)) = false) →
   ((0 + List.length l = 0 + List.length l) ∧
   ((0 + List.length l + 1 ≤ 1073741824) ∧
   ((sizedL 2 1 (rowg [encWatch 1 w])) ∧
   ((VLe
   (V.agg
   [V.int IntKind.i64 (0 : Int), V.osl 0 (0 + List.length l + 1), V.osl 1 0])
   (V.agg
   [V.int IntKind.i64 (WatchResult.code (ro22o l w)), V.osl 0 (List.length (WatchResult.watches (ro22o l w))),
   V.osl 1 (List.length (WatchResult.events (ro22o l w)))])) ∧
   ((BLe
   (Blk.arr 2 (0 + List.length l + 1)
   (appg (0 + List.length l) (appg 0 (rowg []) (gL (encWatch 1) l))
   (rowg [encWatch 1 w]))
   100)
   (Blk.arr 2 (List.length (WatchResult.watches (ro22o l w)))
   (gL (encWatch 1) (WatchResult.watches (ro22o l w))) 100)) ∧
   ((BLe (Blk.arr 3 0 (fun (x : Nat) ↦ V.undef) 100)
   (Blk.arr 3 (List.length (WatchResult.events (ro22o l w)))
   (gL (encTEvent 1) (WatchResult.events (ro22o l w))) 100)) ∧
   (True)))))))))))))))))))))) := by
    have hl : l.length ≤ 1048576 := hpre
    have hm : l.length ≤ maxLen := by unfold maxLen; omega
    simp only [decL_Watch, dec_encWatch, dec_encPWatch, ro22o]
    refine ⟨⟨VLe.refl _, hm⟩, fun h => ?_, fun h => ⟨⟨VLe.refl _, trivial⟩, fun h2 => ?_, fun h2 => ⟨trivial, by omega, fun k hk => ⟨rfl, rfl⟩, fun k hk => rfl, ⟨VLe.refl _, VLe.refl _, hm⟩, fun h3 => ?_, fun h3 => ⟨fun h4 => ?_, fun h4 => ⟨trivial, by omega, ?_, ?_⟩⟩⟩⟩⟩
    · rw [add_e1 (nz h)]
      exact ⟨VLe.refl _, ble_nil _, ble_nil _, trivial⟩
    · rw [add_e2 (ez h) (nz h2)]
      exact ⟨VLe.refl _, ble_nil _, ble_nil _, trivial⟩
    · rw [add_e3 (ez h) (ez h2) (of_decide_eq_true ((atW_in l w).symm.trans h3)), Nat.zero_add]
      exact ⟨VLe.refl _, by rw [appg0]; exact BLe.refl _, ble_nil _, trivial⟩
    · have h5 := watches_len (ez h)
      rw [add_e4 (ez h) (ez h2) (of_decide_eq_false ((atW_in l w).symm.trans h3)) (by have := of_decide_eq_true h4; omega)]
      exact ⟨VLe.refl _, ble_nil _, ble_nil _, trivial⟩
    · intro k hk
      have : k = 0 := by omega
      subst this
      exact ⟨rfl, rfl⟩
    · rw [add_e5 (ez h) (ez h2) (of_decide_eq_false ((atW_in l w).symm.trans h3)) (by have := of_decide_eq_false h4; omega), List.length_append, List.length_singleton, Nat.zero_add, appg0]
      exact ⟨VLe.refl _, ble_push rfl rfl, ble_nil _, trivial⟩
  exact Eq.mp (by kernel_rfl) key
theorem so22o : Sound Tryd.prog 22 sp22o := by
  refine sound_of_bodyO hmix (tpl := [(1, 2), (2, 3)]) Tryd.func22 rfl (by kernel_rfl) fun args bin ob r bout hDe hob => ?_
  unfold sp22o at hDe
  split at hDe
  · rename_i a0 a1
    cases hDe
    exact ⟨Nat.le_of_ble_eq_true (by kernel_rfl), cx22o ((decL decWatch) a0) (decWatch a1), Eq.mp (by kernel_rfl) htt, Eq.mp (by kernel_rfl) da22o, Eq.mp (by kernel_rfl) (noM_sound (P := Tryd.prog)), by kernel_rfl, [encL (encWatch 1) 1 (((decL decWatch) a0)), encWatch 1 ((decWatch a1))], [], args_of_vles (⟨hob.1, hob.2.1, trivial⟩), trivial, Eq.mp (by kernel_rfl) (bd22o ((decL decWatch) a0) (decWatch a1) (hob.2.2))⟩
  · cases hDe

/-! ### laws.FnExactAddWatch -/
def pr5 (l : List Watch) (w : Watch) : Prop := (l.length ≤ maxLen ∧ ∀ x ∈ l, x.bd) ∧ w.bd
noncomputable def rs5 (l : List Watch) (w : Watch) : V := .bool (true)
def Q5 (vs : List V) : Prop := ∃ (l : List Watch) (w : Watch), ArgsLe vs [encL (encWatch 1) 1 (l), encWatch 1 (w)] ∧ pr5 l w
noncomputable def D5 : Nat → Option (Bool × FSpec) := lk [(11, (false, sp11)), (21, (false, sp21)), (23, (false, sp23)), (13, (false, sp13o)), (15, (false, sp15)), (22, (false, sp22o)), (24, (false, sp24o)), (25, (false, sp25)), (27, (true, sp27)), (28, (false, sp28))]
theorem da5 : SoundAll Tryd.prog D5 := soundAll_cons so11 (soundAll_cons so21 (soundAll_cons so23 (soundAll_cons so13o (soundAll_cons so15 (soundAll_cons so22o (soundAll_cons so24o (soundAll_cons so25 (soundAll_cons so27 (soundAll_cons so28 (soundAll_nil))))))))))
noncomputable def cx5 (l : List Watch) (w : Watch) : Cx := ⟨tt, D5, Tryd.f5.ntmps, [0, 1, 3, 4, 5, 6, 7, 8, 9, 10, 11, 12, 17, 22, 37, 42, 53, 61, 64, 73, 78, 81], [], [], fun _ => none, [16], (lk [(26, mm26)]), []⟩
theorem bd5 (l : List Watch) (w : Watch) (hpre : pr5 l w) : bodyP (cx5 l w) Tryd.f5 0 [encL (encWatch 1) 1 (l), encWatch 1 (w)] (fun rr => VLe rr (rs5 l w)) := by
  have key :
      (((VLe (encL (encWatch 1) 1 l)
   (encL (encWatch 1) 1 (decL decWatch (encL (encWatch 1) 1 l)))) ∧
   (pr11 (decL decWatch (encL (encWatch 1) 1 l)) (1048576 : Int))) ∧
   (((decide (szS szWatch (decL decWatch (encL (encWatch 1) 1 l)) (1048576 : Int) < (0 : Int)) = true) →
   (VLe (V.bool true) (V.bool true))) ∧
   ((decide (szS szWatch (decL decWatch (encL (encWatch 1) 1 l)) (1048576 : Int) < (0 : Int)) = false) →
   (((VLe (encWatch 1 w) (encWatch 1 (decWatch (encWatch 1 w)))) ∧
   (pr21 (decWatch (encWatch 1 w))
   (szS szWatch (decL decWatch (encL (encWatch 1) 1 l)) (1048576 : Int)))) ∧
   (((decide
   (szWatch (decWatch (encWatch 1 w))
   (szS szWatch (decL decWatch (encL (encWatch 1) 1 l)) (1048576 : Int)) <
   (0 : Int)) =
   true) →
   (VLe (V.bool true) (V.bool true))) ∧
   ((decide
   (szWatch (decWatch (encWatch 1 w))
   (szS szWatch (decL decWatch (encL (encWatch 1) 1 l)) (1048576 : Int)) <
   (0 : Int)) =
   false) →
   (((VLe (encL (encWatch 1) 1 l)
   (encL (encWatch 1) 1 (decL decWatch (encL (encWatch 1) 1 l)))) ∧
   (pr13o (decL decWatch (encL (encWatch 1) 1 l)))) ∧
   (((VLe (encWatch 1 w) (encWatch 1 (decWatch (encWatch 1 w)))) ∧
   (pr23 (decWatch (encWatch 1 w)))) ∧
   (((VLe (encL (encWatch 1) 1 (ro13o (decL decWatch (encL (encWatch 1) 1 l))))
   (encL (encWatch 1) 1
   (decL decWatch
   (encL (encWatch 1) 1 (ro13o (decL decWatch (encL (encWatch 1) 1 l))))))) ∧
   ((VLe (encWatch 1 (decWatch (encWatch 1 w)))
   (encWatch 1 (decWatch (encWatch 1 (decWatch (encWatch 1 w)))))) ∧
   (pr22o
   (decL decWatch (encL (encWatch 1) 1 (ro13o (decL decWatch (encL (encWatch 1) 1 l)))))
   (decWatch (encWatch 1 (decWatch (encWatch 1 w))))))) ∧
   (((VLe (encL (encWatch 1) 1 l)
   (encL (encWatch 1) 1 (decL decWatch (encL (encWatch 1) 1 l)))) ∧
   (pr13o (decL decWatch (encL (encWatch 1) 1 l)))) ∧
   (((VLe (encWatch 1 w) (encWatch 1 (decWatch (encWatch 1 w)))) ∧
   (pr23 (decWatch (encWatch 1 w)))) ∧
   (((VLe (encL (encWatch 1) 1 (ro13o (decL decWatch (encL (encWatch 1) 1 l))))
   (encL (encWatch 1) 1
   (decL decWatch
   (encL (encWatch 1) 1 (ro13o (decL decWatch (encL (encWatch 1) 1 l))))))) ∧
   ((VLe (encWatch 1 (decWatch (encWatch 1 w)))
   (encWatch 1 (decWatch (encWatch 1 (decWatch (encWatch 1 w)))))) ∧
   (pr24o
   (decL decWatch (encL (encWatch 1) 1 (ro13o (decL decWatch (encL (encWatch 1) 1 l)))))
   (decWatch (encWatch 1 (decWatch (encWatch 1 w))))))) ∧
   (((VLe
   (encWatchResult 1
   (ro24o
   (decL decWatch
   (encL (encWatch 1) 1 (ro13o (decL decWatch (encL (encWatch 1) 1 l)))))
   (decWatch (encWatch 1 (decWatch (encWatch 1 w))))))
   (encWatchResult 1
   (decWatchResult
   (encWatchResult 1
   (ro24o
   (decL decWatch
   (encL (encWatch 1) 1 (ro13o (decL decWatch (encL (encWatch 1) 1 l)))))
   (decWatch (encWatch 1 (decWatch (encWatch 1 w))))))))) ∧
   ((VLe
   (encWatchResult 1
   (ro22o
   (decL decWatch
   (encL (encWatch 1) 1 (ro13o (decL decWatch (encL (encWatch 1) 1 l)))))
   (decWatch (encWatch 1 (decWatch (encWatch 1 w))))))
   (encWatchResult 1
   (decWatchResult
   (encWatchResult 1
   (ro22o
   (decL decWatch
   (encL (encWatch 1) 1 (ro13o (decL decWatch (encL (encWatch 1) 1 l)))))
   (decWatch (encWatch 1 (decWatch (encWatch 1 w))))))))) ∧
   (pr25
   (decWatchResult
   (encWatchResult 1
   (ro24o
   (decL decWatch
   (encL (encWatch 1) 1 (ro13o (decL decWatch (encL (encWatch 1) 1 l)))))
   (decWatch (encWatch 1 (decWatch (encWatch 1 w)))))))
   (decWatchResult
   (encWatchResult 1
   (ro22o
   (decL decWatch
   (encL (encWatch 1) 1 (ro13o (decL decWatch (encL (encWatch 1) 1 l)))))
   (decWatch (encWatch 1 (decWatch (encWatch 1 w)))))))))) ∧
   ((((!decide
   (decWatchResult
   (encWatchResult 1
   (ro24o
   (decL decWatch
   (encL (encWatch 1) 1 (ro13o (decL decWatch (encL (encWatch 1) 1 l)))))
   (decWatch (encWatch 1 (decWatch (encWatch 1 w)))))) =
   decWatchResult
   (encWatchResult 1
   (ro22o
   (decL decWatch
   (encL (encWatch 1) 1 (ro13o (decL decWatch (encL (encWatch 1) 1 l)))))
   (decWatch (encWatch 1 (decWatch (encWatch 1 w)))))))) =
   true) →
   (VLe (V.bool false) (V.bool true))) ∧
   (((!decide
   (decWatchResult
   (encWatchResult 1
   (ro24o
   (decL decWatch
   (encL (encWatch 1) 1 (ro13o (decL decWatch (encL (encWatch 1) 1 l)))))
   (decWatch (encWatch 1 (decWatch (encWatch 1 w)))))) =
   decWatchResult
   (encWatchResult 1
   (ro22o
   (decL decWatch
   (encL (encWatch 1) 1 (ro13o (decL decWatch (encL (encWatch 1) 1 l)))))
   (decWatch (encWatch 1 (decWatch (encWatch 1 w)))))))) =
   false) →
   (((VLe (encL (encWatch 1) 1 l)
   (encL (encWatch 1) 1 (decL decWatch (encL (encWatch 1) 1 l)))) ∧
   (pr13o (decL decWatch (encL (encWatch 1) 1 l)))) ∧
   (((VLe (encL (encWatch 1) 1 (ro13o (decL decWatch (encL (encWatch 1) 1 l))))
   (encL (encWatch 1) 1
   (decL decWatch
   (encL (encWatch 1) 1 (ro13o (decL decWatch (encL (encWatch 1) 1 l))))))) ∧
   ((VLe (encL (encWatch 1) 1 (ro13o (decL decWatch (encL (encWatch 1) 1 l))))
   (encL (encWatch 1) 1
   (decL decWatch
   (encL (encWatch 1) 1 (ro13o (decL decWatch (encL (encWatch 1) 1 l))))))) ∧
   (pr15
   (decL decWatch (encL (encWatch 1) 1 (ro13o (decL decWatch (encL (encWatch 1) 1 l)))))
   (decL decWatch (encL (encWatch 1) 1 (ro13o (decL decWatch (encL (encWatch 1) 1 l)))))))) ∧
   ((((!decide
   (decL decWatch
   (encL (encWatch 1) 1 (ro13o (decL decWatch (encL (encWatch 1) 1 l)))) =
   decL decWatch
   (encL (encWatch 1) 1 (ro13o (decL decWatch (encL (encWatch 1) 1 l)))))) =
   true) →
   (VLe (V.bool false) (V.bool true))) ∧
   (((!decide
   (decL decWatch
   (encL (encWatch 1) 1 (ro13o (decL decWatch (encL (encWatch 1) 1 l)))) =
   decL decWatch
   (encL (encWatch 1) 1 (ro13o (decL decWatch (encL (encWatch 1) 1 l)))))) =
   false) →
   (((VLe (encL (encWatch 1) 1 (ro13o (decL decWatch (encL (encWatch 1) 1 l))))
   (encL (encWatch 1) 1
   (decL decWatch
   (encL (encWatch 1) 1 (ro13o (decL decWatch (encL (encWatch 1) 1 l))))))) ∧
   (mp26
   (decL decWatch (encL (encWatch 1) 1 (ro13o (decL decWatch (encL (encWatch 1) 1 l)))))
   (1 : Int))) ∧
   ((tq (!decide
   ((1 : Int) +
   (2 : Int) *
   (↑(List.length
   (decL decWatch
   (encL (encWatch 1) 1
   (ro13o (decL decWatch (encL (encWatch 1) 1 l)))))) :
   Int) <
   (0 : Int)))) ∧
   ((tq (!decide
   ((1 : Int) +
   (2 : Int) *
   (↑(List.length
   (decL decWatch
   (encL (encWatch 1) 1
   (ro13o (decL decWatch (encL (encWatch 1) 1 l)))))) :
   Int) <
   (0 : Int)))) ∧
   ((((!decide
   ((1 : Int) +
   (2 : Int) *
   (↑(List.length
   (decL decWatch
   (encL (encWatch 1) 1
   (ro13o (decL decWatch (encL (encWatch 1) 1 l)))))) :
   Int) <
   (0 : Int))) =
   true) →
   ((VLe
   (encWatchResult 1
   (ro24o
   (decL decWatch
   (encL (encWatch 1) 1 (ro13o (decL decWatch (encL (encWatch 1) 1 l)))))
   (decWatch (encWatch 1 (decWatch (encWatch 1 w))))))
   (encWatchResult 1
   (decWatchResult
   (encWatchResult 1
   (ro24o
   (decL decWatch
   (encL (encWatch 1) 1 (ro13o (decL decWatch (encL (encWatch 1) 1 l)))))
   (decWatch (encWatch 1 (decWatch (encWatch 1 w))))))))) ∧
   ((VLe
   (encWatchResult 1
   (ro22o
   (decL decWatch
   (encL (encWatch 1) 1 (ro13o (decL decWatch (encL (encWatch 1) 1 l)))))
   (decWatch (encWatch 1 (decWatch (encWatch 1 w))))))
   (encWatchResult 1
   (decWatchResult
   (encWatchResult 1
   (ro22o
   (decL decWatch
   (encL (encWatch 1) 1 (ro13o (decL decWatch (encL (encWatch 1) 1 l)))))
   (decWatch (encWatch 1 (decWatch (encWatch 1 w))))))))) ∧
   (pr25
   (decWatchResult
   (encWatchResult 1
   (ro24o
   (decL decWatch
   (encL (encWatch 1) 1 (ro13o (decL decWatch (encL (encWatch 1) 1 l)))))
   (decWatch (encWatch 1 (decWatch (encWatch 1 w)))))))
   (decWatchResult
   (encWatchResult 1
   (ro22o
   (decL decWatch
   (encL (encWatch 1) 1 (ro13o (decL decWatch (encL (encWatch 1) 1 l)))))
   (decWatch (encWatch 1 (decWatch (encWatch 1 w))))))))))) ∧
   ((tq (!decide
   ((1 : Int) +
   (2 : Int) *
   (↑(List.length
   (decL decWatch
   (encL (encWatch 1) 1
   (ro13o (decL decWatch (encL (encWatch 1) 1 l)))))) :
   Int) <
   (0 : Int)))) ∧
   (((true = true) →
   ((decide
   ((1 : Int) +
   (2 : Int) *
   (↑(List.length
   (decL decWatch
   (encL (encWatch 1) 1
   (ro13o (decL decWatch (encL (encWatch 1) 1 l)))))) :
   Int) <
   (0 : Int)) =
   false) →
   ((!decide
   ((1 : Int) +
   (2 : Int) *
   (↑(List.length
   (decL decWatch
   (encL (encWatch 1) 1
   (ro13o (decL decWatch (encL (encWatch 1) 1 l)))))) :
   Int) <
   (0 : Int))) =
   true))) ∧
   (∀ b : Bool,
   ((b =
   bif
   decide
   ((1 : Int) +
   (2 : Int) *
   (↑(List.length
   (decL decWatch
   (encL (encWatch 1) 1
   (ro13o (decL decWatch (encL (encWatch 1) 1 l)))))) :
   Int) <
   (0 : Int)) then
   true
   else
   !decide
   (decWatchResult
   (encWatchResult 1
   (ro24o
   (decL decWatch
   (encL (encWatch 1) 1 (ro13o (decL decWatch (encL (encWatch 1) 1 l)))))
   (decWatch (encWatch 1 (decWatch (encWatch 1 w)))))) =
   decWatchResult
   (encWatchResult 1
   (ro22o
   (decL decWatch
   (encL (encWatch 1) 1 (ro13o (decL decWatch (encL (encWatch 1) 1 l)))))
   (decWatch (encWatch 1 (decWatch (encWatch 1 w)))))))) →
   (((b = true) →
   (VLe (V.bool false) (V.bool true))) ∧
   ((b = false) →
   ((((0 = 0) ∧
   ((2 = 2) ∧
   ((100 = 100) ∧
   ((List.length
   (WatchResult.watches
   (ro24o
   (decL decWatch
   (encL (encWatch 1) 1 (ro13o (decL decWatch (encL (encWatch 1) 1 l)))))
   (decWatch (encWatch 1 (decWatch (encWatch 1 w)))))) =
   List.length
   (WatchResult.watches
   (ro24o
   (decL decWatch
   (encL (encWatch 1) 1 (ro13o (decL decWatch (encL (encWatch 1) 1 l)))))
   (decWatch (encWatch 1 (decWatch (encWatch 1 w))))))) ∧
   (∃ y : List Watch, ((List.length y =
   List.length
   (WatchResult.watches
   (ro24o
   (decL decWatch
   (encL (encWatch 1) 1 (ro13o (decL decWatch (encL (encWatch 1) 1 l)))))
   (decWatch (encWatch 1 (decWatch (encWatch 1 w))))))) ∧
   (∀ i : Nat,
   ((i <
   List.length
   (WatchResult.watches
   (ro24o
   (decL decWatch
   (encL (encWatch 1) 1 (ro13o (decL decWatch (encL (encWatch 1) 1 l)))))
   (decWatch (encWatch 1 (decWatch (encWatch 1 w))))))) →
   (ELe
   (encWatch 1
   (List.getD
   (WatchResult.watches
   (ro24o
   (decL decWatch
   (encL (encWatch 1) 1 (ro13o (decL decWatch (encL (encWatch 1) 1 l)))))
   (decWatch (encWatch 1 (decWatch (encWatch 1 w))))))
   i default))
   (encWatch 1 (List.getD y i default))))))))))) ∧
   (((1 = 1) ∧
   ((3 = 3) ∧
   ((100 = 100) ∧
   ((List.length
   (WatchResult.events
   (ro24o
   (decL decWatch
   (encL (encWatch 1) 1 (ro13o (decL decWatch (encL (encWatch 1) 1 l)))))
   (decWatch (encWatch 1 (decWatch (encWatch 1 w)))))) =
   List.length
   (WatchResult.events
   (ro24o
   (decL decWatch
   (encL (encWatch 1) 1 (ro13o (decL decWatch (encL (encWatch 1) 1 l)))))
   (decWatch (encWatch 1 (decWatch (encWatch 1 w))))))) ∧
   (∃ y : List TEvent, ((List.length y =
   List.length
   (WatchResult.events
   (ro24o
   (decL decWatch
   (encL (encWatch 1) 1 (ro13o (decL decWatch (encL (encWatch 1) 1 l)))))
   (decWatch (encWatch 1 (decWatch (encWatch 1 w))))))) ∧
   (∀ i : Nat,
   ((i <
   List.length
   (WatchResult.events
   (ro24o
   (decL decWatch
   (encL (encWatch 1) 1 (ro13o (decL decWatch (encL (encWatch 1) 1 l)))))
   (decWatch (encWatch 1 (decWatch (encWatch 1 w))))))) →
   (ELe
   (encTEvent 1
   (List.getD
   (WatchResult.events
   (ro24o
   (decL decWatch
   (encL (encWatch 1) 1 (ro13o (decL decWatch (encL (encWatch 1) 1 l)))))
   (decWatch (encWatch 1 (decWatch (encWatch 1 w))))))
   i default))
   (encTEvent 1 (List.getD y i default))))))))))) ∧
   (pr27
   (List.length
   (WatchResult.watches
   (ro24o
   (decL decWatch
   (encL (encWatch 1) 1 (ro13o (decL decWatch (encL (encWatch 1) 1 l)))))
   (decWatch (encWatch 1 (decWatch (encWatch 1 w)))))))
   (List.length
   (WatchResult.events
   (ro24o
   (decL decWatch
   (encL (encWatch 1) 1 (ro13o (decL decWatch (encL (encWatch 1) 1 l)))))
   (decWatch (encWatch 1 (decWatch (encWatch 1 w)))))))
   (1 : Int)))) ∧
   ((List.length
   (WatchResult.watches
   (ro24o
   (decL decWatch
   (encL (encWatch 1) 1 (ro13o (decL decWatch (encL (encWatch 1) 1 l)))))
   (decWatch (encWatch 1 (decWatch (encWatch 1 w)))))) =
   List.length
   (WatchResult.watches
   (ro24o
   (decL decWatch
   (encL (encWatch 1) 1 (ro13o (decL decWatch (encL (encWatch 1) 1 l)))))
   (decWatch (encWatch 1 (decWatch (encWatch 1 w))))))) ∧
   ((List.length
   (WatchResult.events
   (ro24o
   (decL decWatch
   (encL (encWatch 1) 1 (ro13o (decL decWatch (encL (encWatch 1) 1 l)))))
   (decWatch (encWatch 1 (decWatch (encWatch 1 w)))))) =
   List.length
   (WatchResult.events
   (ro24o
   (decL decWatch
   (encL (encWatch 1) 1 (ro13o (decL decWatch (encL (encWatch 1) 1 l)))))
   (decWatch (encWatch 1 (decWatch (encWatch 1 w))))))) ∧
   (((VLe
   (V.agg
   [V.int IntKind.i64
   (WatchResult.code
   (ro24o
   (decL decWatch
   (encL (encWatch 1) 1 (ro13o (decL decWatch (encL (encWatch 1) 1 l)))))
   (decWatch (encWatch 1 (decWatch (encWatch 1 w)))))),
   V.sl
   (List.length
   (WatchResult.watches
   (ro24o
   (decL decWatch
   (encL (encWatch 1) 1 (ro13o (decL decWatch (encL (encWatch 1) 1 l)))))
   (decWatch (encWatch 1 (decWatch (encWatch 1 w)))))))
   (gL (encWatch 1)
   (markW (1 : Int)
   (List.length
   (WatchResult.watches
   (ro24o
   (decL decWatch
   (encL (encWatch 1) 1
   (ro13o (decL decWatch (encL (encWatch 1) 1 l)))))
   (decWatch (encWatch 1 (decWatch (encWatch 1 w)))))))))
   1,
   V.sl
   (List.length
   (WatchResult.events
   (ro24o
   (decL decWatch
   (encL (encWatch 1) 1 (ro13o (decL decWatch (encL (encWatch 1) 1 l)))))
   (decWatch (encWatch 1 (decWatch (encWatch 1 w)))))))
   (gL (encTEvent 1)
   (markE
   ((1 : Int) +
   (2 : Int) *
   (↑(List.length
   (WatchResult.watches
   (ro24o
   (decL decWatch
   (encL (encWatch 1) 1
   (ro13o (decL decWatch (encL (encWatch 1) 1 l)))))
   (decWatch (encWatch 1 (decWatch (encWatch 1 w))))))) :
   Int))
   (List.length
   (WatchResult.events
   (ro24o
   (decL decWatch
   (encL (encWatch 1) 1
   (ro13o (decL decWatch (encL (encWatch 1) 1 l)))))
   (decWatch (encWatch 1 (decWatch (encWatch 1 w)))))))))
   1])
   (encWatchResult 1
   (decWatchResult
   (V.agg
   [V.int IntKind.i64
   (WatchResult.code
   (ro24o
   (decL decWatch
   (encL (encWatch 1) 1 (ro13o (decL decWatch (encL (encWatch 1) 1 l)))))
   (decWatch (encWatch 1 (decWatch (encWatch 1 w)))))),
   V.sl
   (List.length
   (WatchResult.watches
   (ro24o
   (decL decWatch
   (encL (encWatch 1) 1
   (ro13o (decL decWatch (encL (encWatch 1) 1 l)))))
   (decWatch (encWatch 1 (decWatch (encWatch 1 w)))))))
   (gL (encWatch 1)
   (markW (1 : Int)
   (List.length
   (WatchResult.watches
   (ro24o
   (decL decWatch
   (encL (encWatch 1) 1
   (ro13o (decL decWatch (encL (encWatch 1) 1 l)))))
   (decWatch (encWatch 1 (decWatch (encWatch 1 w)))))))))
   1,
   V.sl
   (List.length
   (WatchResult.events
   (ro24o
   (decL decWatch
   (encL (encWatch 1) 1
   (ro13o (decL decWatch (encL (encWatch 1) 1 l)))))
   (decWatch (encWatch 1 (decWatch (encWatch 1 w)))))))
   (gL (encTEvent 1)
   (markE
   ((1 : Int) +
   (2 : Int) *
   (↑(List.length
   (WatchResult.watches
   (ro24o
   (decL decWatch
   (encL (encWatch 1) 1
   (ro13o (decL decWatch (encL (encWatch 1) 1 l)))))
   (decWatch (encWatch 1 (decWatch (encWatch 1 w))))))) :
   Int))
   (List.length
   (WatchResult.events
   (ro24o
   (decL decWatch
   (encL (encWatch 1) 1
   (ro13o (decL decWatch (encL (encWatch 1) 1 l)))))
   (decWatch (encWatch 1 (decWatch (encWatch 1 w)))))))))
   1])))) ∧
   (pr28
   (decWatchResult
   (V.agg
   [V.int IntKind.i64
   (WatchResult.code
   (ro24o
   (decL decWatch
   (encL (encWatch 1) 1 (ro13o (decL decWatch (encL (encWatch 1) 1 l)))))
   (decWatch (encWatch 1 (decWatch (encWatch 1 w)))))),
   V.sl
   (List.length
   (WatchResult.watches
   (ro24o
   (decL decWatch
   (encL (encWatch 1) 1 (ro13o (decL decWatch (encL (encWatch 1) 1 l)))))
   (decWatch (encWatch 1 (decWatch (encWatch 1 w)))))))
   (gL (encWatch 1)
   (markW (1 : Int)
   (List.length
   (WatchResult.watches
   (ro24o
   (decL decWatch
   (encL (encWatch 1) 1
   (ro13o (decL decWatch (encL (encWatch 1) 1 l)))))
   (decWatch (encWatch 1 (decWatch (encWatch 1 w)))))))))
   1,
   V.sl
   (List.length
   (WatchResult.events
   (ro24o
   (decL decWatch
   (encL (encWatch 1) 1 (ro13o (decL decWatch (encL (encWatch 1) 1 l)))))
   (decWatch (encWatch 1 (decWatch (encWatch 1 w)))))))
   (gL (encTEvent 1)
   (markE
   ((1 : Int) +
   (2 : Int) *
   (↑(List.length
   (WatchResult.watches
   (ro24o
   (decL decWatch
   (encL (encWatch 1) 1
   (ro13o (decL decWatch (encL (encWatch 1) 1 l)))))
   (decWatch (encWatch 1 (decWatch (encWatch 1 w))))))) :
   Int))
   (List.length
   (WatchResult.events
   (ro24o
   (decL decWatch
   (encL (encWatch 1) 1
   (ro13o (decL decWatch (encL (encWatch 1) 1 l)))))
   (decWatch (encWatch 1 (decWatch (encWatch 1 w)))))))))
   1]))
   (1 : Int))) ∧
   (((decide
   (heldR
   (decWatchResult
   (V.agg
   [V.int IntKind.i64
   (WatchResult.code
   (ro24o
   (decL decWatch
   (encL (encWatch 1) 1
   (ro13o (decL decWatch (encL (encWatch 1) 1 l)))))
   (decWatch (encWatch 1 (decWatch (encWatch 1 w)))))),
   V.sl
   (List.length
   (WatchResult.watches
   (ro24o
   (decL decWatch
   (encL (encWatch 1) 1
   (ro13o (decL decWatch (encL (encWatch 1) 1 l)))))
   (decWatch (encWatch 1 (decWatch (encWatch 1 w)))))))
   (gL (encWatch 1)
   (markW (1 : Int)
   (List.length
   (WatchResult.watches
   (ro24o
   (decL decWatch
   (encL (encWatch 1) 1
   (ro13o (decL decWatch (encL (encWatch 1) 1 l)))))
   (decWatch (encWatch 1 (decWatch (encWatch 1 w)))))))))
   1,
   V.sl
   (List.length
   (WatchResult.events
   (ro24o
   (decL decWatch
   (encL (encWatch 1) 1
   (ro13o (decL decWatch (encL (encWatch 1) 1 l)))))
   (decWatch (encWatch 1 (decWatch (encWatch 1 w)))))))
   (gL (encTEvent 1)
   (markE
   ((1 : Int) +
   (2 : Int) *
   (↑(List.length
   (WatchResult.watches
   (ro24o
   (decL decWatch
   (encL (encWatch 1) 1
   (ro13o (decL decWatch (encL (encWatch 1) 1 l)))))
   (decWatch (encWatch 1 (decWatch (encWatch 1 w))))))) :
   Int))
   (List.length
   (WatchResult.events
   (ro24o
   (decL decWatch
   (encL (encWatch 1) 1
   (ro13o (decL decWatch (encL (encWatch 1) 1 l)))))
   (decWatch (encWatch 1 (decWatch (encWatch 1 w)))))))))
   1]))
   (1 : Int) <
   (0 : Int)) =
   true) →
   (VLe (V.bool false) (V.bool true))) ∧
   ((decide
   (heldR
   (decWatchResult
   (V.agg
   [V.int IntKind.i64
   (WatchResult.code
   (ro24o
   (decL decWatch
   (encL (encWatch 1) 1
   (ro13o (decL decWatch (encL (encWatch 1) 1 l)))))
   (decWatch (encWatch 1 (decWatch (encWatch 1 w)))))),
   V.sl
   (List.length
   (WatchResult.watches
   (ro24o
   (decL decWatch
   (encL (encWatch 1) 1
   (ro13o (decL decWatch (encL (encWatch 1) 1 l)))))
   (decWatch (encWatch 1 (decWatch (encWatch 1 w)))))))
   (gL (encWatch 1)
   (markW (1 : Int)
   (List.length
   (WatchResult.watches
   (ro24o
   (decL decWatch
   (encL (encWatch 1) 1
   (ro13o (decL decWatch (encL (encWatch 1) 1 l)))))
   (decWatch (encWatch 1 (decWatch (encWatch 1 w)))))))))
   1,
   V.sl
   (List.length
   (WatchResult.events
   (ro24o
   (decL decWatch
   (encL (encWatch 1) 1
   (ro13o (decL decWatch (encL (encWatch 1) 1 l)))))
   (decWatch (encWatch 1 (decWatch (encWatch 1 w)))))))
   (gL (encTEvent 1)
   (markE
   ((1 : Int) +
   (2 : Int) *
   (↑(List.length
   (WatchResult.watches
   (ro24o
   (decL decWatch
   (encL (encWatch 1) 1
   (ro13o (decL decWatch (encL (encWatch 1) 1 l)))))
   (decWatch (encWatch 1 (decWatch (encWatch 1 w))))))) :
   Int))
   (List.length
   (WatchResult.events
   (ro24o
   (decL decWatch
   (encL (encWatch 1) 1
   (ro13o (decL decWatch (encL (encWatch 1) 1 l)))))
   (decWatch (encWatch 1 (decWatch (encWatch 1 w)))))))))
   1]))
   (1 : Int) <
   (0 : Int)) =
   false) →
   ((((heldR
   (decWatchResult
   (V.agg
   [V.int IntKind.i64
   (WatchResult.code
   (ro24o
   (decL decWatch
   (encL (encWatch 1) 1
   (ro13o (decL decWatch (encL (encWatch 1) 1 l)))))
   (decWatch (encWatch 1 (decWatch (encWatch 1 w)))))),
   V.sl
   (List.length
   (WatchResult.watches
   (ro24o
   (decL decWatch
   (encL (encWatch 1) 1
   (ro13o (decL decWatch (encL (encWatch 1) 1 l)))))
   (decWatch (encWatch 1 (decWatch (encWatch 1 w)))))))
   (gL (encWatch 1)
   (markW (1 : Int)
   (List.length
   (WatchResult.watches
   (ro24o
   (decL decWatch
   (encL (encWatch 1) 1
   (ro13o (decL decWatch (encL (encWatch 1) 1 l)))))
   (decWatch (encWatch 1 (decWatch (encWatch 1 w)))))))))
   1,
   V.sl
   (List.length
   (WatchResult.events
   (ro24o
   (decL decWatch
   (encL (encWatch 1) 1
   (ro13o (decL decWatch (encL (encWatch 1) 1 l)))))
   (decWatch (encWatch 1 (decWatch (encWatch 1 w)))))))
   (gL (encTEvent 1)
   (markE
   ((1 : Int) +
   (2 : Int) *
   (↑(List.length
   (WatchResult.watches
   (ro24o
   (decL decWatch
   (encL (encWatch 1) 1
   (ro13o (decL decWatch (encL (encWatch 1) 1 l)))))
   (decWatch (encWatch 1 (decWatch (encWatch 1 w))))))) :
   Int))
   (List.length
   (WatchResult.events
   (ro24o
   (decL decWatch
   (encL (encWatch 1) 1
   (ro13o (decL decWatch (encL (encWatch 1) 1 l)))))
   (decWatch (encWatch 1 (decWatch (encWatch 1 w)))))))))
   1]))
   (1 : Int) !=
   (1 : Int) +
   (2 : Int) *
   (↑(List.length
   (WatchResult.watches
   (ro24o
   (decL decWatch
   (encL (encWatch 1) 1
   (ro13o (decL decWatch (encL (encWatch 1) 1 l)))))
   (decWatch (encWatch 1 (decWatch (encWatch 1 w))))))) :
   Int) +
   (3 : Int) *
   (↑(List.length
   (WatchResult.events
   (ro24o
   (decL decWatch
   (encL (encWatch 1) 1
   (ro13o (decL decWatch (encL (encWatch 1) 1 l)))))
   (decWatch (encWatch 1 (decWatch (encWatch 1 w))))))) :
   Int)) =
   true) →
   (VLe (V.bool false) (V.bool true))) ∧
   (((heldR
   (decWatchResult
   (V.agg
   [V.int IntKind.i64
   (WatchResult.code
   (ro24o
   (decL decWatch
   (encL (encWatch 1) 1
   (ro13o (decL decWatch (encL (encWatch 1) 1 l)))))
   (decWatch (encWatch 1 (decWatch (encWatch 1 w)))))),
   V.sl
   (List.length
   (WatchResult.watches
   (ro24o
   (decL decWatch
   (encL (encWatch 1) 1
   (ro13o (decL decWatch (encL (encWatch 1) 1 l)))))
   (decWatch (encWatch 1 (decWatch (encWatch 1 w)))))))
   (gL (encWatch 1)
   (markW (1 : Int)
   (List.length
   (WatchResult.watches
   (ro24o
   (decL decWatch
   (encL (encWatch 1) 1
   (ro13o (decL decWatch (encL (encWatch 1) 1 l)))))
   (decWatch (encWatch 1 (decWatch (encWatch 1 w)))))))))
   1,
   V.sl
   (List.length
   (WatchResult.events
   (ro24o
   (decL decWatch
   (encL (encWatch 1) 1
   (ro13o (decL decWatch (encL (encWatch 1) 1 l)))))
   (decWatch (encWatch 1 (decWatch (encWatch 1 w)))))))
   (gL (encTEvent 1)
   (markE
   ((1 : Int) +
   (2 : Int) *
   (↑(List.length
   (WatchResult.watches
   (ro24o
   (decL decWatch
   (encL (encWatch 1) 1
   (ro13o (decL decWatch (encL (encWatch 1) 1 l)))))
   (decWatch (encWatch 1 (decWatch (encWatch 1 w))))))) :
   Int))
   (List.length
   (WatchResult.events
   (ro24o
   (decL decWatch
   (encL (encWatch 1) 1
   (ro13o (decL decWatch (encL (encWatch 1) 1 l)))))
   (decWatch (encWatch 1 (decWatch (encWatch 1 w)))))))))
   1]))
   (1 : Int) !=
   (1 : Int) +
   (2 : Int) *
   (↑(List.length
   (WatchResult.watches
   (ro24o
   (decL decWatch
   (encL (encWatch 1) 1
   (ro13o (decL decWatch (encL (encWatch 1) 1 l)))))
   (decWatch (encWatch 1 (decWatch (encWatch 1 w))))))) :
   Int) +
   (3 : Int) *
   (↑(List.length
   (WatchResult.events
   (ro24o
   (decL decWatch
   (encL (encWatch 1) 1
   (ro13o (decL decWatch (encL (encWatch 1) 1 l)))))
   (decWatch (encWatch 1 (decWatch (encWatch 1 w))))))) :
   Int)) =
   false) →
   (((VLe (encL (encWatch 1) 1 l)
   (encL (encWatch 1) 1 (decL decWatch (encL (encWatch 1) 1 l)))) ∧
   (pr13o (decL decWatch (encL (encWatch 1) 1 l)))) ∧
   (((VLe (encWatch 1 w) (encWatch 1 (decWatch (encWatch 1 w)))) ∧
   (pr23 (decWatch (encWatch 1 w)))) ∧
   (((VLe (encL (encWatch 1) 1 (ro13o (decL decWatch (encL (encWatch 1) 1 l))))
   (encL (encWatch 1) 1
   (decL decWatch
   (encL (encWatch 1) 1 (ro13o (decL decWatch (encL (encWatch 1) 1 l))))))) ∧
   ((VLe (encWatch 1 (decWatch (encWatch 1 w)))
   (encWatch 1 (decWatch (encWatch 1 (decWatch (encWatch 1 w)))))) ∧
   (pr24o
   (decL decWatch (encL (encWatch 1) 1 (ro13o (decL decWatch (encL (encWatch 1) 1 l)))))
   (decWatch (encWatch 1 (decWatch (encWatch 1 w))))))) ∧
   (((VLe
   (encWatchResult 1
   (ro24o
   (decL decWatch
   (encL (encWatch 1) 1 (ro13o (decL decWatch (encL (encWatch 1) 1 l)))))
   (decWatch (encWatch 1 (decWatch (encWatch 1 w))))))
   (encWatchResult 1
   (decWatchResult
   (encWatchResult 1
   (ro24o
   (decL decWatch
   (encL (encWatch 1) 1 (ro13o (decL decWatch (encL (encWatch 1) 1 l)))))
   (decWatch (encWatch 1 (decWatch (encWatch 1 w))))))))) ∧
   ((VLe
   (encWatchResult 1
   (ro22o
   (decL decWatch
   (encL (encWatch 1) 1 (ro13o (decL decWatch (encL (encWatch 1) 1 l)))))
   (decWatch (encWatch 1 (decWatch (encWatch 1 w))))))
   (encWatchResult 1
   (decWatchResult
   (encWatchResult 1
   (ro22o
   (decL decWatch
   (encL (encWatch 1) 1 (ro13o (decL decWatch (encL (encWatch 1) 1 l)))))
   (decWatch (encWatch 1 (decWatch (encWatch 1 w))))))))) ∧
   (pr25
   (decWatchResult
   (encWatchResult 1
   (ro24o
   (decL decWatch
   (encL (encWatch 1) 1 (ro13o (decL decWatch (encL (encWatch 1) 1 l)))))
   (decWatch (encWatch 1 (decWatch (encWatch 1 w)))))))
   (decWatchResult
   (encWatchResult 1
   (ro22o
   (decL decWatch
   (encL (encWatch 1) 1 (ro13o (decL decWatch (encL (encWatch 1) 1 l)))))
   (decWatch (encWatch 1 (decWatch (encWatch 1 w)))))))))) ∧
   ((((!decide
   (decWatchResult
   (encWatchResult 1
   (ro24o
   (decL decWatch
   (encL (encWatch 1) 1 (ro13o (decL decWatch (encL (encWatch 1) 1 l)))))
   (decWatch (encWatch 1 (decWatch (encWatch 1 w)))))) =
   decWatchResult
   (encWatchResult 1
   (ro22o
   (decL decWatch
   (encL (encWatch 1) 1 (ro13o (decL decWatch (encL (encWatch 1) 1 l)))))
   (decWatch (encWatch 1 (decWatch (encWatch 1 w)))))))) =
   true) →
   (VLe (V.bool false) (V.bool true))) ∧
   (((!decide
   (decWatchResult
   (encWatchResult 1
   (ro24o
   (decL decWatch
   (encL (encWatch 1) 1 (ro13o (decL decWatch (encL (encWatch 1) 1 l)))))
   (decWatch (encWatch 1 (decWatch (encWatch 1 w)))))) =
   decWatchResult
   (encWatchResult 1
   (ro22o
   (decL decWatch
   (encL (encWatch 1) 1 (ro13o (decL decWatch (encL (encWatch 1) 1 l)))))
   (decWatch (encWatch 1 (decWatch (encWatch 1 w)))))))) =
   false) →
   (((VLe
   (V.agg
   [V.int IntKind.i64
   (WatchResult.code
   (ro24o
   (decL decWatch
   (encL (encWatch 1) 1 (ro13o (decL decWatch (encL (encWatch 1) 1 l)))))
   (decWatch (encWatch 1 (decWatch (encWatch 1 w)))))),
   V.sl
   (List.length
   (WatchResult.watches
   (ro24o
   (decL decWatch
   (encL (encWatch 1) 1 (ro13o (decL decWatch (encL (encWatch 1) 1 l)))))
   (decWatch (encWatch 1 (decWatch (encWatch 1 w)))))))
   (gL (encWatch 1)
   (markW (1 : Int)
   (List.length
   (WatchResult.watches
   (ro24o
   (decL decWatch
   (encL (encWatch 1) 1
   (ro13o (decL decWatch (encL (encWatch 1) 1 l)))))
   (decWatch (encWatch 1 (decWatch (encWatch 1 w)))))))))
   1,
   V.sl
   (List.length
   (WatchResult.events
   (ro24o
   (decL decWatch
   (encL (encWatch 1) 1 (ro13o (decL decWatch (encL (encWatch 1) 1 l)))))
   (decWatch (encWatch 1 (decWatch (encWatch 1 w)))))))
   (gL (encTEvent 1)
   (markE
   ((1 : Int) +
   (2 : Int) *
   (↑(List.length
   (WatchResult.watches
   (ro24o
   (decL decWatch
   (encL (encWatch 1) 1
   (ro13o (decL decWatch (encL (encWatch 1) 1 l)))))
   (decWatch (encWatch 1 (decWatch (encWatch 1 w))))))) :
   Int))
   (List.length
   (WatchResult.events
   (ro24o
   (decL decWatch
   (encL (encWatch 1) 1
   (ro13o (decL decWatch (encL (encWatch 1) 1 l)))))
   (decWatch (encWatch 1 (decWatch (encWatch 1 w)))))))))
   1])
   (encWatchResult 1
   (decWatchResult
   (V.agg
   [V.int IntKind.i64
   (WatchResult.code
   (ro24o
   (decL decWatch
   (encL (encWatch 1) 1 (ro13o (decL decWatch (encL (encWatch 1) 1 l)))))
   (decWatch (encWatch 1 (decWatch (encWatch 1 w)))))),
   V.sl
   (List.length
   (WatchResult.watches
   (ro24o
   (decL decWatch
   (encL (encWatch 1) 1
   (ro13o (decL decWatch (encL (encWatch 1) 1 l)))))
   (decWatch (encWatch 1 (decWatch (encWatch 1 w)))))))
   (gL (encWatch 1)
   (markW (1 : Int)
   (List.length
   (WatchResult.watches
   (ro24o
   (decL decWatch
   (encL (encWatch 1) 1
   (ro13o (decL decWatch (encL (encWatch 1) 1 l)))))
   (decWatch (encWatch 1 (decWatch (encWatch 1 w)))))))))
   1,
   V.sl
   (List.length
   (WatchResult.events
   (ro24o
   (decL decWatch
   (encL (encWatch 1) 1
   (ro13o (decL decWatch (encL (encWatch 1) 1 l)))))
   (decWatch (encWatch 1 (decWatch (encWatch 1 w)))))))
   (gL (encTEvent 1)
   (markE
   ((1 : Int) +
   (2 : Int) *
   (↑(List.length
   (WatchResult.watches
   (ro24o
   (decL decWatch
   (encL (encWatch 1) 1
   (ro13o (decL decWatch (encL (encWatch 1) 1 l)))))
   (decWatch (encWatch 1 (decWatch (encWatch 1 w))))))) :
   Int))
   (List.length
   (WatchResult.events
   (ro24o
   (decL decWatch
   (encL (encWatch 1) 1
   (ro13o (decL decWatch (encL (encWatch 1) 1 l)))))
   (decWatch (encWatch 1 (decWatch (encWatch 1 w)))))))))
   1])))) ∧
   (pr28
   (decWatchResult
   (V.agg
   [V.int IntKind.i64
   (WatchResult.code
   (ro24o
   (decL decWatch
   (encL (encWatch 1) 1 (ro13o (decL decWatch (encL (encWatch 1) 1 l)))))
   (decWatch (encWatch 1 (decWatch (encWatch 1 w)))))),
   V.sl
   (List.length
   (WatchResult.watches
   (ro24o
   (decL decWatch
   (encL (encWatch 1) 1 (ro13o (decL decWatch (encL (encWatch 1) 1 l)))))
   (decWatch (encWatch 1 (decWatch (encWatch 1 w)))))))
   (gL (encWatch 1)
   (markW (1 : Int)
   (List.length
   (WatchResult.watches
   (ro24o
   (decL decWatch
   (encL (encWatch 1) 1
   (ro13o (decL decWatch (encL (encWatch 1) 1 l)))))
   (decWatch (encWatch 1 (decWatch (encWatch 1 w)))))))))
   1,
   V.sl
   (List.length
   (WatchResult.events
   (ro24o
   (decL decWatch
   (encL (encWatch 1) 1 (ro13o (decL decWatch (encL (encWatch 1) 1 l)))))
   (decWatch (encWatch 1 (decWatch (encWatch 1 w)))))))
   (gL (encTEvent 1)
   (markE
   ((1 : Int) +
   (2 : Int) *
   (↑(List.length
   (WatchResult.watches
   (ro24o
   (decL decWatch
   (encL (encWatch 1) 1
   (ro13o (decL decWatch (encL (encWatch 1) 1 l)))))
   (decWatch (encWatch 1 (decWatch (encWatch 1 w))))))) :
   Int))
   (List.length
   (WatchResult.events
   (ro24o
   (decL decWatch
   (encL (encWatch 1) 1
   (ro13o (decL decWatch (encL (encWatch 1) 1 l)))))
   (decWatch (encWatch 1 (decWatch (encWatch 1 w)))))))))
   1]))
   (1 : Int))) ∧
   (((decide
   (heldR
   (decWatchResult
   (V.agg
   [V.int IntKind.i64
   (WatchResult.code
   (ro24o
   (decL decWatch
   (encL (encWatch 1) 1
   (ro13o (decL decWatch (encL (encWatch 1) 1 l)))))
   (decWatch (encWatch 1 (decWatch (encWatch 1 w)))))),
   V.sl
   (List.length
   (WatchResult.watches
   (ro24o
   (decL decWatch
   (encL (encWatch 1) 1
   (ro13o (decL decWatch (encL (encWatch 1) 1 l)))))
   (decWatch (encWatch 1 (decWatch (encWatch 1 w)))))))
   (gL (encWatch 1)
   (markW (1 : Int)
   (List.length
   (WatchResult.watches
   (ro24o
   (decL decWatch
   (encL (encWatch 1) 1
   (ro13o (decL decWatch (encL (encWatch 1) 1 l)))))
   (decWatch (encWatch 1 (decWatch (encWatch 1 w)))))))))
   1,
   V.sl
   (List.length
   (WatchResult.events
   (ro24o
   (decL decWatch
   (encL (encWatch 1) 1
   (ro13o (decL decWatch (encL (encWatch 1) 1 l)))))
   (decWatch (encWatch 1 (decWatch (encWatch 1 w)))))))
   (gL (encTEvent 1)
   (markE
   ((1 : Int) +
   (2 : Int) *
   (↑(List.length
   (WatchResult.watches
   (ro24o
   (decL decWatch
   (encL (encWatch 1) 1
   (ro13o (decL decWatch (encL (encWatch 1) 1 l)))))
   (decWatch (encWatch 1 (decWatch (encWatch 1 w))))))) :
   Int))
   (List.length
   (WatchResult.events
   (ro24o
   (decL decWatch
   (encL (encWatch 1) 1
   (ro13o (decL decWatch (encL (encWatch 1) 1 l)))))
   (decWatch (encWatch 1 (decWatch (encWatch 1 w)))))))))
   1]))
   (1 : Int) <
   (0 : Int)) =
   true) →
   (VLe (V.bool false) (V.bool true))) ∧
   ((decide
   (heldR
   (decWatchResult
   (V.agg
   [V.int IntKind.i64
   (WatchResult.code
   (ro24o
   (decL decWatch
   (encL (encWatch 1) 1
   (ro13o (decL decWatch (encL (encWatch 1) 1 l)))))
   (decWatch (encWatch 1 (decWatch (encWatch 1 w)))))),
   V.sl
   (List.length
   (WatchResult.watches
   (ro24o
   (decL decWatch
   (encL (encWatch 1) 1
   (ro13o (decL decWatch (encL (encWatch 1) 1 l)))))
   (decWatch (encWatch 1 (decWatch (encWatch 1 w)))))))
   (gL (encWatch 1)
   (markW (1 : Int)
   (List.length
   (WatchResult.watches
   (ro24o
   (decL decWatch
   (encL (encWatch 1) 1
   (ro13o (decL decWatch (encL (encWatch 1) 1 l)))))
   (decWatch (encWatch 1 (decWatch (encWatch 1 w)))))))))
   1,
   V.sl
   (List.length
   (WatchResult.events
   (ro24o
   (decL decWatch
   (encL (encWatch 1) 1
   (ro13o (decL decWatch (encL (encWatch 1) 1 l)))))
   (decWatch (encWatch 1 (decWatch (encWatch 1 w)))))))
   (gL (encTEvent 1)
   (markE
   ((1 : Int) +
   (2 : Int) *
   (↑(List.length
   (WatchResult.watches
   (ro24o
   (decL decWatch
   (encL (encWatch 1) 1
   (ro13o (decL decWatch (encL (encWatch 1) 1 l)))))
   (decWatch (encWatch 1 (decWatch (encWatch 1 w))))))) :
   Int))
   (List.length
   (WatchResult.events
   (ro24o
   (decL decWatch
   (encL (encWatch 1) 1
   (ro13o (decL decWatch (encL (encWatch 1) 1 l)))))
   (decWatch (encWatch 1 (decWatch (encWatch 1 w)))))))))
   1]))
   (1 : Int) <
   (0 : Int)) =
   false) →
   ((((heldR
   (decWatchResult
   (V.agg
   [V.int IntKind.i64
   (WatchResult.code
   (ro24o
   (decL decWatch
   (encL (encWatch 1) 1
   (ro13o (decL decWatch (encL (encWatch 1) 1 l)))))
   (decWatch (encWatch 1 (decWatch (encWatch 1 w)))))),
   V.sl
   (List.length
   (WatchResult.watches
   (ro24o
   (decL decWatch
   (encL (encWatch 1) 1
   (ro13o (decL decWatch (encL (encWatch 1) 1 l)))))
   (decWatch (encWatch 1 (decWatch (encWatch 1 w)))))))
   (gL (encWatch 1)
   (markW (1 : Int)
   (List.length
   (WatchResult.watches
   (ro24o
   (decL decWatch
   (encL (encWatch 1) 1
   (ro13o (decL decWatch (encL (encWatch 1) 1 l)))))
   (decWatch (encWatch 1 (decWatch (encWatch 1 w)))))))))
   1,
   V.sl
   (List.length
   (WatchResult.events
   (ro24o
   (decL decWatch
   (encL (encWatch 1) 1
   (ro13o (decL decWatch (encL (encWatch 1) 1 l)))))
   (decWatch (encWatch 1 (decWatch (encWatch 1 w)))))))
   (gL (encTEvent 1)
   (markE
   ((1 : Int) +
   (2 : Int) *
   (↑(List.length
   (WatchResult.watches
   (ro24o
   (decL decWatch
   (encL (encWatch 1) 1
   (ro13o (decL decWatch (encL (encWatch 1) 1 l)))))
   (decWatch (encWatch 1 (decWatch (encWatch 1 w))))))) :
   Int))
   (List.length
   (WatchResult.events
   (ro24o
   (decL decWatch
   (encL (encWatch 1) 1
   (ro13o (decL decWatch (encL (encWatch 1) 1 l)))))
   (decWatch (encWatch 1 (decWatch (encWatch 1 w)))))))))
   1]))
   (1 : Int) !=
   (1 : Int) +
   (2 : Int) *
   (↑(List.length
   (WatchResult.watches
   (ro24o
   (decL decWatch
   (encL (encWatch 1) 1
   (ro13o (decL decWatch (encL (encWatch 1) 1 l)))))
   (decWatch (encWatch 1 (decWatch (encWatch 1 w))))))) :
   Int) +
   (3 : Int) *
   (↑(List.length
   (WatchResult.events
   (ro24o
   (decL decWatch
   (encL (encWatch 1) 1
   (ro13o (decL decWatch (encL (encWatch 1) 1 l)))))
   (decWatch (encWatch 1 (decWatch (encWatch 1 w))))))) :
   Int)) =
   true) →
   (VLe (V.bool false) (V.bool true))) ∧
   (((heldR
   (decWatchResult
   (V.agg
   [V.int IntKind.i64
   (WatchResult.code
   (ro24o
   (decL decWatch
   (encL (encWatch 1) 1
   (ro13o (decL decWatch (encL (encWatch 1) 1 l)))))
   (decWatch (encWatch 1 (decWatch (encWatch 1 w)))))),
   V.sl
   (List.length
   (WatchResult.watches
   (ro24o
   (decL decWatch
   (encL (encWatch 1) 1
   (ro13o (decL decWatch (encL (encWatch 1) 1 l)))))
   (decWatch (encWatch 1 (decWatch (encWatch 1 w)))))))
   (gL (encWatch 1)
   (markW (1 : Int)
   (List.length
   (WatchResult.watches
   (ro24o
   (decL decWatch
   (encL (encWatch 1) 1
   (ro13o (decL decWatch (encL (encWatch 1) 1 l)))))
   (decWatch (encWatch 1 (decWatch (encWatch 1 w)))))))))
   1,
   V.sl
   (List.length
   (WatchResult.events
   (ro24o
   (decL decWatch
   (encL (encWatch 1) 1
   (ro13o (decL decWatch (encL (encWatch 1) 1 l)))))
   (decWatch (encWatch 1 (decWatch (encWatch 1 w)))))))
   (gL (encTEvent 1)
   (markE
   ((1 : Int) +
   (2 : Int) *
   (↑(List.length
   (WatchResult.watches
   (ro24o
   (decL decWatch
   (encL (encWatch 1) 1
   (ro13o (decL decWatch (encL (encWatch 1) 1 l)))))
   (decWatch (encWatch 1 (decWatch (encWatch 1 w))))))) :
   Int))
   (List.length
   (WatchResult.events
   (ro24o
   (decL decWatch
   (encL (encWatch 1) 1
   (ro13o (decL decWatch (encL (encWatch 1) 1 l)))))
   (decWatch (encWatch 1 (decWatch (encWatch 1 w)))))))))
   1]))
   (1 : Int) !=
   (1 : Int) +
   (2 : Int) *
   (↑(List.length
   (WatchResult.watches
   (ro24o
   (decL decWatch
   (encL (encWatch 1) 1
   (ro13o (decL decWatch (encL (encWatch 1) 1 l)))))
   (decWatch (encWatch 1 (decWatch (encWatch 1 w))))))) :
   Int) +
   (3 : Int) *
   (↑(List.length
   (WatchResult.events
   (ro24o
   (decL decWatch
   (encL (encWatch 1) 1
   (ro13o (decL decWatch (encL (encWatch 1) 1 l)))))
   (decWatch (encWatch 1 (decWatch (encWatch 1 w))))))) :
   Int)) =
   false) →
   (VLe (V.bool true) (V.bool true)))))))))))))))))))))))))))))))))))))))))))))))))) := by
    obtain ⟨⟨hl, hb⟩, hw⟩ := hpre
    have hl' := hl
    unfold maxLen at hl'
    have f1 := @szS_bd _ szWatch l 1048576
    have f2 := szS_top' szWatch_le l 1048576
    have hv : ∀ v, VLe v v := VLe.refl
    simp only [decL_Watch, dec_encWatch]
    refine ⟨⟨VLe.refl _, by omega, by unfold most; omega, hl, hb⟩, fun h => VLe.refl _, fun h => ?_⟩
    have h0 := of_decide_eq_false h
    have g1 := f1 h0
    refine ⟨⟨VLe.refl _, by omega, by unfold most; omega, hw⟩, fun h => VLe.refl _, fun h => ?_⟩
    have hn := addF_len l w
    have p1 : pr13o l := ⟨by unfold most; omega, fun x hx => trivial⟩
    have p2 : pr15 l l := ⟨hl, fun x hx y => trivial⟩
    have p3 : mp26 l 1 := ⟨by omega, by omega⟩
    have p7 : pr24o l w := by show l.length ≤ 1048576; omega
    have p8 : pr22o l w := by show l.length ≤ 1048576; omega
    have p9 : pr23 w := trivial
    have q1 : decide (1 + 2 * (l.length : Int) < 0) = false := by simp; omega
    simp only [decL_Watch, dec_encWatch, dec_encWatchResult, ro13o, ro22o, ro24o, dec_markR, heldR_mark, markW_len, markE_len, q1]
    generalize addF l w = W at *
    have p4 : pr25 W W := ⟨by unfold maxLen; omega, by unfold maxLen; omega⟩
    have p5 : pr27 W.watches.length W.events.length 1 := ⟨by omega, by omega⟩
    have p6 : pr28 ⟨W.code, markW 1 W.watches.length, markE (1 + 2 * W.watches.length) W.events.length⟩ 1 := ⟨by omega, by simp; omega⟩
    have q2 : decide (1 + 2 * (W.watches.length : Int) + 3 * W.events.length < 0) = false := by simp; omega
    simp [hv, p1, p2, p3, p4, p5, p6, p7, p8, p9, q2]
    exact ⟨q1, fun _ => ⟨⟨⟨W.watches, rfl, fun _ _ => ELe.refl _⟩, ⟨W.events, rfl, fun _ _ => ELe.refl _⟩⟩, vle_markR _ _ _ _ _⟩⟩
  exact Eq.mp (by kernel_rfl) key
theorem so5 : Sound Tryd.prog 5 (lawD Q5) := by
  refine sound_of_body hmix (pol := 0) Tryd.func5 rfl (by kernel_rfl) fun args bin ob r bout hDe hob => ?_
  unfold lawD at hDe
  split at hDe
  · cases hDe
    obtain ⟨l, w, hle, hpre⟩ := hob
    have hlen : args.length = 2 := hle.1.symm
    exact ⟨rfl, rfl, by rw [hlen]; exact Nat.le_of_ble_eq_true (by kernel_rfl), cx5 l w, Eq.mp (by kernel_rfl) htt, Eq.mp (by kernel_rfl) da5, Eq.mp (by kernel_rfl) (soundAllM_cons sm26 (soundAllM_nil (P := Tryd.prog))), by kernel_rfl, _, hle, Eq.mp (by kernel_rfl) (bd5 l w hpre)⟩
  · cases hDe

end Go.Av
