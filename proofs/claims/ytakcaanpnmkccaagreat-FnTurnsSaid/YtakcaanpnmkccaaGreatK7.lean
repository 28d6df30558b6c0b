/- What is decided, and the log. -/
import Derived.Test.YtakcaanpnmkccaaGreatK3
import Derived.Test.YtakcaanpnmkccaaGreatP10
import Derived.Test.YtakcaanpnmkccaaGreatI1
import Derived.Test.YtakcaanpnmkccaaGreatP20
namespace Go.Av
open Go.Proofs
set_option maxRecDepth 100000
set_option linter.unusedVariables false
set_option linter.unusedSimpArgs false

def foundTo (f : Int) (l : List Msg) (slot v : Int) (i : Nat) : Prop := ∃ j, j < i ∧ (l.getD j default).kind = 3 ∧ (l.getD j default).slot = slot ∧ (l.getD j default).value = v ∧ enough f l 3 ⟨slot, (l.getD j default).view, v⟩
noncomputable instance (f : Int) (l : List Msg) (s v : Int) (i : Nat) : Decidable (foundTo f l s v i) := Classical.propDecidable _
theorem found_all {f : Int} {l : List Msg} {s v : Int} : foundTo f l s v l.length ↔ decidedV f l s v := by
  constructor
  · rintro ⟨j, hj, h⟩
    exact ⟨_, by simp [hj], h⟩
  · rintro ⟨m, hm, h⟩
    obtain ⟨j, hj, rfl⟩ := List.getElem_of_mem hm
    exact ⟨j, hj, by simpa [hj] using h⟩
theorem found_succ {f : Int} {l : List Msg} {s v : Int} {i : Nat} : foundTo f l s v (i + 1) ↔ foundTo f l s v i ∨ ((l.getD i default).kind = 3 ∧ (l.getD i default).slot = s ∧ (l.getD i default).value = v ∧ enough f l 3 ⟨s, (l.getD i default).view, v⟩) := by
  constructor
  · rintro ⟨j, hj, h⟩
    rcases Nat.lt_or_ge j i with h1 | h1
    · exact .inl ⟨j, h1, h⟩
    · have : j = i := by omega
      subst this
      exact .inr h
  · rintro (⟨j, hj, h⟩ | h)
    · exact ⟨j, by omega, h⟩
    · exact ⟨i, by omega, h⟩


/-! ### impl.decided%o -/
def pr95o (f : Int) (l : List Msg) (slot : Int) : Prop := Right f l ∧ bdL l
noncomputable def ro95o (f : Int) (l : List Msg) (slot : Int) : List Int := decidedL f l slot
noncomputable def rb95o (f : Int) (l : List Msg) (slot : Int) : List Blk := [(.arr 1 (ro95o f l slot).length (gL encI (ro95o f l slot)) tagS)]
noncomputable def rs95o (f : Int) (l : List Msg) (slot : Int) : V := .osl 0 (ro95o f l slot).length
noncomputable def sp95o : FSpec := fun args bin => match args, bin with
  | [.int .i64 a0, a1, .int .i64 a2], [] => some (VLe a1 (encL (encMsg 1) 1 (((decL decMsg) a1))) ∧ pr95o a0 ((decL decMsg) a1) a2, rs95o a0 ((decL decMsg) a1) a2, rb95o a0 ((decL decMsg) a1) a2)
  | _, _ => none
noncomputable def in95o_3 (f : Int) (l : List Msg) (slot : Int) : LoopInv :=
  ⟨Nat, fun i => ⟨[(0, .int .i64 f), (1, encL (encMsg 1) 1 l), (2, .int .i64 slot), (7, .osl (canonT 7) (decTo f l slot i).length), (11, encL (encMsg 1) 1 l), (12, .int .i64 l.length), (13, .int .i64 i)], [(canonT 7, .arr 1 (decTo f l slot i).length (gL encI (decTo f l slot i)) tagS)]⟩,
    fun i => i ≤ l.length, fun i => l.length - i⟩
noncomputable def iv95o (f : Int) (l : List Msg) (slot : Int) : Nat → Option LoopInv := fun rg_ => match rg_ with
  | 3 => some (in95o_3 f l slot)
  | _ => none
noncomputable def D95o : Nat → Option (Bool × FSpec) := lk [(63, (false, sp63)), (94, (false, sp94)), (107, (true, sp107))]
theorem da95o : SoundAll Tryz.prog D95o := soundAll_cons so63 (soundAll_cons so94 (soundAll_cons so107 (soundAll_nil)))
noncomputable def cx95o (f : Int) (l : List Msg) (slot : Int) : Cx := ⟨tt, D95o, Tryz.f95.ntmps, [0, 1, 2, 6, 7, 9, 11, 12, 13, 14, 42], [(3, ⟨[(0, none), (1, none), (2, none), (7, some 1), (11, none), (12, none), (13, none)], []⟩)], [], iv95o f l slot, [], noM, []⟩
noncomputable def k95o_0 (f : Int) (l : List Msg) (slot : Int) (y : Nat) : AS := (AS.mk [(0, vi f), (1, encL (encMsg 1) 1 l), (2, vi slot), (7, V.osl 32000512 (List.length (decTo f l slot y))), (11, encL (encMsg 1) 1 l), (12, vi (↑(List.length l) : Int)), (13, vi (↑y : Int))] [(32000512, Blk.arr 1 (List.length (decTo f l slot y)) (gL encI (decTo f l slot y)) 100)])
theorem bd95o (f : Int) (l : List Msg) (slot : Int) (hpre : pr95o f l slot) : bodyO (cx95o f l slot) Tryz.f95 [(0, 1)] [.int .i64 (f), encL (encMsg 1) 1 (l), .int .i64 (slot)] [] (fun rr bs => VLe rr (rs95o f l slot) ∧ BinLe bs (rb95o f l slot)) := by
  have key : ((∃ x : Nat, ((SLe (AS.mk [(0, vi f), (1, encL (encMsg 1) 1 l), (2, vi slot), (7, V.osl 32000512 0), (11, encL (encMsg 1) 1 l), (12, vi (↑(List.length l) : Int)), (13, vi (0 : Int))] [(32000512, Blk.arr 1 0 (rowg []) 100)]) (AS.mk [(0, vi f), (1, encL (encMsg 1) 1 l), (2, vi slot), (7, V.osl 32000512 (List.length (decTo f l slot x))), (11, encL (encMsg 1) 1 l), (12, vi (↑(List.length l) : Int)), (13, vi (↑x : Int))] [(32000512, Blk.arr 1 (List.length (decTo f l slot x)) (gL encI (decTo f l slot x)) 100)])) ∧ (x ≤ List.length l))) ∧ (∀ x : Nat, ((x ≤ List.length l) → (((decide ((↑x : Int) < (↑(List.length l) : Int)) = true) → ((((0 : Int) ≤ (↑x : Int)) ∧ ((↑x : Int) < (↑(List.length l) : Int))) ∧ ((tq (Msg.kind (List.getD l (Int.toNat (↑x : Int)) default) == (3 : Int))) ∧ ((tq (Msg.kind (List.getD l (Int.toNat (↑x : Int)) default) == (3 : Int))) ∧ ((tq (Msg.kind (List.getD l (Int.toNat (↑x : Int)) default) == (3 : Int))) ∧ (((true = true) → (((Msg.kind (List.getD l (Int.toNat (↑x : Int)) default) == (3 : Int)) = true) → ((Msg.kind (List.getD l (Int.toNat (↑x : Int)) default) == (3 : Int)) = true))) ∧ (∀ b : Bool, ((b = bif Msg.kind (List.getD l (Int.toNat (↑x : Int)) default) == (3 : Int) then Msg.slot (List.getD l (Int.toNat (↑x : Int)) default) == slot else false) → ((tq (b)) ∧ ((tq (b)) ∧ ((tq (b)) ∧ (((b = true) → ((VLe (encL encI 1 (decTo f l slot x)) (encL encI 1 (decL decI (encL encI 1 (decTo f l slot x))))) ∧ (pr63 (decL decI (encL encI 1 (decTo f l slot x))) (Msg.value (List.getD l (Int.toNat (↑x : Int)) default))))) ∧ ((tq (b)) ∧ (((true = true) → ((b = true) → (b = true))) ∧ (∀ b_1 : Bool, ((b_1 = bif b then !decide (Msg.value (List.getD l (Int.toNat (↑x : Int)) default) ∈ decL decI (encL encI 1 (decTo f l slot x))) else false) → ((tq (b_1)) ∧ ((tq (b_1)) ∧ ((tq (b_1)) ∧ ((tq (b_1)) ∧ ((tq (b_1)) ∧ ((tq (b_1)) ∧ ((tq (b_1)) ∧ (((b_1 = true) → ((VLe (encL (encMsg 1) 1 l) (encL (encMsg 1) 1 (decL decMsg (encL (encMsg 1) 1 l)))) ∧ (pr94 f (decL decMsg (encL (encMsg 1) 1 l)) (3 : Int) (Msg.view (List.getD l (Int.toNat (↑x : Int)) default)) slot (Msg.value (List.getD l (Int.toNat (↑x : Int)) default))))) ∧ (((true = true) → ((b_1 = true) → (b_1 = true))) ∧ (∀ b_2 : Bool, ((b_2 = bif b_1 then decide ((2 : Int) * f + (1 : Int) ≤ (↑(List.length (votersF (decL decMsg (encL (encMsg 1) 1 l)) (3 : Int) (Msg.view (List.getD l (Int.toNat (↑x : Int)) default)) slot (Msg.value (List.getD l (Int.toNat (↑x : Int)) default)))) : Int)) else false) → (((b_2 = true) → ((List.length (decTo f l slot x) = List.length (decTo f l slot x)) ∧ ((List.length (decTo f l slot x) + 1 ≤ 1073741824) ∧ ((sizedL 1 1 (rowg [vi (Msg.value (List.getD l (Int.toNat (↑x : Int)) default))])) ∧ ((inK IntKind.i64 ((↑x : Int) + (1 : Int))) ∧ (∃ y : Nat, ((SLe (AS.mk [(0, vi f), (1, encL (encMsg 1) 1 l), (2, vi slot), (7, V.osl 32000512 (List.length (decTo f l slot x) + 1)), (11, encL (encMsg 1) 1 l), (12, vi (↑(List.length l) : Int)), (13, vi ((↑x : Int) + (1 : Int)))] [(32000512, Blk.arr 1 (List.length (decTo f l slot x) + 1) (appg (List.length (decTo f l slot x)) (gL encI (decTo f l slot x)) (rowg [vi (Msg.value (List.getD l (Int.toNat (↑x : Int)) default))])) 100)]) (k95o_0 f l slot y)) ∧ ((y ≤ List.length l) ∧ (List.length l - y < List.length l - x))))))))) ∧ ((b_2 = false) → ((inK IntKind.i64 ((↑x : Int) + (1 : Int))) ∧ (∃ y : Nat, ((SLe (AS.mk [(0, vi f), (1, encL (encMsg 1) 1 l), (2, vi slot), (7, V.osl 32000512 (List.length (decTo f l slot x))), (11, encL (encMsg 1) 1 l), (12, vi (↑(List.length l) : Int)), (13, vi ((↑x : Int) + (1 : Int)))] [(32000512, Blk.arr 1 (List.length (decTo f l slot x)) (gL encI (decTo f l slot x)) 100)]) (k95o_0 f l slot y)) ∧ ((y ≤ List.length l) ∧ (List.length l - y < List.length l - x)))))))))))))))))))))))))))))))))) ∧ ((decide ((↑x : Int) < (↑(List.length l) : Int)) = false) → (((List.length (decTo f l slot x) = List.length (decTo f l slot x)) ∧ ((List.length (decTo f l slot x) < 4611686018427387904) ∧ (ints (List.length (decTo f l slot x)) (gL encI (decTo f l slot x))))) ∧ ((List.length (decTo f l slot x) = List.length (decTo f l slot x)) ∧ ((VLe (V.osl 0 (List.length (decTo f l slot x))) (V.osl 0 (List.length (ro95o f l slot)))) ∧ ((BLe (Blk.arr 1 (List.length (decTo f l slot x)) (gL encI (sortI (rowI (List.length (decTo f l slot x)) (gL encI (decTo f l slot x))))) 100) (Blk.arr 1 (List.length (ro95o f l slot)) (gL encI (ro95o f l slot)) 100)) ∧ (True)))))))))) := by
    delta k95o_0; delta vi
    obtain ⟨hr, hl⟩ := hpre
    have h240 := hr.len
    simp only [decL_Msg, decL_ints]
    refine ⟨⟨0, sle_of ⟨rfl, VLe.refl _, rfl, VLe.refl _, rfl, VLe.refl _, rfl, VLe.refl _, rfl, VLe.refl _, rfl, VLe.refl _, rfl, VLe.refl _, trivial⟩ ⟨rfl, ble_nil _, trivial⟩, by omega⟩, fun i hi => ⟨fun h => ?_, fun h => ?_⟩⟩
    · have hlt : i < l.length := by simpa using h
      obtain ⟨_, hlen, _⟩ := decTo_facts (f := f) (l := l) (slot := slot) i hi
      have hs := decTo_succ (f := f) (slot := slot) hlt
      have pc : ∀ v, pr63 (decTo f l slot i) v := fun v => by
        show (decTo f l slot i).length ≤ maxLen
        unfold maxLen; omega
      simp only [Int.toNat_natCast]
      refine ⟨by omega, ?_⟩
      repeat (first | (refine And.intro (fun h _ => h) ?_) | (refine And.intro (fun _ h => h) ?_) | (refine And.intro ?aa ?_; case aa => (exact fun _ => ⟨VLe.refl _, pc _⟩)) | (refine And.intro ?aa ?_; case aa => (exact fun _ => ⟨VLe.refl _, hr.okf, hr.len, hl⟩)) | (refine And.intro ?aa ?_; case aa => (intros; simp_all [pr63, pr94, pr107]; done)) | (refine And.intro ?aa ?_; case aa => (intros; exact inK64 (by omega))) | (refine And.intro ?aa ?_; case aa => (intros; simp only [decide_eq_true_eq] at *; omega)) | (intro q hq))
      have e0 : q = decide (takesV f l slot (decTo f l slot i) (l.getD i default)) := by
        subst_vars
        have hv := votes_eq hr (Or.inr rfl) ⟨slot, (l.getD i default).view, (l.getD i default).value⟩
        simp only at hv
        have ht : takesV f l slot (decTo f l slot i) (l.getD i default) ↔ (l.getD i default).kind = 3 ∧ (l.getD i default).slot = slot ∧ (l.getD i default).value ∉ decTo f l slot i ∧ 2 * f + 1 ≤ ((votersF l 3 (l.getD i default).view slot (l.getD i default).value).length : Int) := by
          unfold takesV enough
          rw [hv]
        rw [Bool.eq_iff_iff, decide_eq_true_eq, ht]
        simp [and_assoc]
      clear hq
      refine ⟨fun h => ⟨trivial, by omega, fun k hk => ?_, inK64 (by omega), i + 1, ?_, by omega, by omega⟩, fun h => ⟨inK64 (by omega), i + 1, ?_, by omega, by omega⟩⟩
      · have hk0 : k = 0 := by omega
        subst hk0
        exact ⟨rfl, rfl⟩
      · rw [e0] at h
        unfold decStep at hs
        rw [if_pos (of_decide_eq_true h)] at hs
        rw [hs, List.length_append]
        exact sle_of ⟨rfl, VLe.refl _, rfl, VLe.refl _, rfl, VLe.refl _, rfl, VLe.refl _, rfl, VLe.refl _, rfl, VLe.refl _, rfl, vle_int (by omega), trivial⟩ ⟨rfl, ble_push rfl rfl, trivial⟩
      · rw [e0] at h
        unfold decStep at hs
        rw [if_neg (of_decide_eq_false h)] at hs
        rw [hs]
        exact sle_of ⟨rfl, VLe.refl _, rfl, VLe.refl _, rfl, VLe.refl _, rfl, VLe.refl _, rfl, VLe.refl _, rfl, VLe.refl _, rfl, vle_int (by omega), trivial⟩ ⟨rfl, BLe.refl _, trivial⟩
    · have hge : i = l.length := by simp at h; omega
      subst hge
      obtain ⟨_, hlen, _⟩ := decTo_facts (f := f) (l := l) (slot := slot) l.length hi
      have r1 := rowI_gL (decTo f l slot l.length)
      have hd := decided_eq hr slot
      simp only [r1, ro95o]
      refine ⟨⟨trivial, by omega, ints_gL _ _⟩, trivial, VLe.of_eq (by rw [← hd, sortI_len]), ?_, trivial⟩
      rw [← hd, sortI_len]
      exact BLe.refl _
  exact Eq.mp (by kernel_rfl) key
theorem so95o : Sound Tryz.prog 95 sp95o := by
  refine sound_of_bodyO hmix (tpl := [(0, 1)]) Tryz.func95 rfl (by kernel_rfl) fun args bin ob r bout hDe hob => ?_
  unfold sp95o at hDe
  split at hDe
  · rename_i a0 a1 a2
    cases hDe
    exact ⟨Nat.le_of_ble_eq_true (by kernel_rfl), cx95o a0 ((decL decMsg) a1) a2, Eq.mp (by kernel_rfl) htt, Eq.mp (by kernel_rfl) da95o, Eq.mp (by kernel_rfl) (noM_sound (P := Tryz.prog)), by kernel_rfl, [.int .i64 (a0), encL (encMsg 1) 1 (((decL decMsg) a1)), .int .i64 (a2)], [], args_of_vles (⟨VLe.refl _, hob.1, VLe.refl _, trivial⟩), trivial, Eq.mp (by kernel_rfl) (bd95o a0 ((decL decMsg) a1) a2 (hob.2))⟩
  · cases hDe

/-! ### spec.l9Decided%o -/
def pr108o (f : Int) (l : List Msg) (slot : Int) : Prop := Right f l ∧ bdL l
noncomputable def ro108o (f : Int) (l : List Msg) (slot : Int) : List Int := decidedL f l slot
noncomputable def rb108o (f : Int) (l : List Msg) (slot : Int) : List Blk := [(.arr 1 (ro108o f l slot).length (gL encI (ro108o f l slot)) tagS)]
noncomputable def rs108o (f : Int) (l : List Msg) (slot : Int) : V := .osl 0 (ro108o f l slot).length
noncomputable def sp108o : FSpec := fun args bin => match args, bin with
  | [.int .i64 a0, a1, .int .i64 a2], [] => some (VLe a1 (encL (encMsg 1) 1 (((decL decMsg) a1))) ∧ pr108o a0 ((decL decMsg) a1) a2, rs108o a0 ((decL decMsg) a1) a2, rb108o a0 ((decL decMsg) a1) a2)
  | _, _ => none
noncomputable def in108o_3 (f : Int) (l : List Msg) (slot : Int) : LoopInv :=
  ⟨Nat, fun v => ⟨[(0, .int .i64 f), (1, encL (encMsg 1) 1 l), (2, .int .i64 slot), (7, .osl (canonT 7) (decBelow f l slot v).length), (8, .int .i64 v)], [(canonT 7, .arr 1 (decBelow f l slot v).length (gL encI (decBelow f l slot v)) tagS)]⟩,
    fun v => v ≤ 13, fun v => 13 - v⟩
noncomputable def in108o_7 (f : Int) (l : List Msg) (slot : Int) : LoopInv :=
  ⟨Nat × Nat, fun p => ⟨[(0, .int .i64 f), (1, encL (encMsg 1) 1 l), (2, .int .i64 slot), (7, .osl (canonT 7) (decBelow f l slot p.1).length), (8, .int .i64 p.1), (9, .bool (decide (foundTo f l slot p.1 p.2))), (10, .int .i64 p.2)], [(canonT 7, .arr 1 (decBelow f l slot p.1).length (gL encI (decBelow f l slot p.1)) tagS)]⟩,
    fun p => p.1 < 13 ∧ p.2 ≤ l.length, fun p => l.length - p.2⟩
noncomputable def iv108o (f : Int) (l : List Msg) (slot : Int) : Nat → Option LoopInv := fun rg_ => match rg_ with
  | 3 => some (in108o_3 f l slot)
  | 7 => some (in108o_7 f l slot)
  | _ => none
noncomputable def D108o : Nat → Option (Bool × FSpec) := lk [(92, (false, sp92))]
theorem da108o : SoundAll Tryz.prog D108o := soundAll_cons so92 (soundAll_nil)
noncomputable def cx108o (f : Int) (l : List Msg) (slot : Int) : Cx := ⟨tt, D108o, Tryz.f108.ntmps, [0, 1, 2, 6, 7, 8, 9, 10, 11, 14, 24, 50, 61], [(3, ⟨[(0, none), (1, none), (2, none), (7, some 1), (8, none)], []⟩), (7, ⟨[(0, none), (1, none), (2, none), (7, some 1), (8, none), (9, none), (10, none)], []⟩)], [], iv108o f l slot, [], noM, [7]⟩
noncomputable def k108o_0 (f : Int) (l : List Msg) (slot : Int) (y : Nat × Nat) : AS := (AS.mk [(0, vi f), (1, encL (encMsg 1) 1 l), (2, vi slot), (7, V.osl 32000512 (List.length (decBelow f l slot y.1))), (8, vi (↑y.1 : Int)), (9, V.bool (decide (foundTo f l slot (↑y.1 : Int) y.2))), (10, vi (↑y.2 : Int))] [(32000512, Blk.arr 1 (List.length (decBelow f l slot y.1)) (gL encI (decBelow f l slot y.1)) 100)])
noncomputable def k108o_1 (l : List Msg) (slot : Int) (x_1 : Nat × Nat) : V := (V.agg [vi slot, vi (Msg.view (List.getD l (Int.toNat (↑x_1.2 : Int)) default)), vi (↑x_1.1 : Int)])
noncomputable def k108o_2 (f : Int) (l : List Msg) (slot : Int) (x_1 : Nat × Nat) : Nat × Blk := (32000512, Blk.arr 1 (List.length (decBelow f l slot x_1.1)) (gL encI (decBelow f l slot x_1.1)) 100)
noncomputable def k108o_3 (f : Int) (l : List Msg) (slot : Int) (y : Nat) : AS := (AS.mk [(0, vi f), (1, encL (encMsg 1) 1 l), (2, vi slot), (7, V.osl 32000512 (List.length (decBelow f l slot y))), (8, vi (↑y : Int))] [(32000512, Blk.arr 1 (List.length (decBelow f l slot y)) (gL encI (decBelow f l slot y)) 100)])
theorem bd108o (f : Int) (l : List Msg) (slot : Int) (hpre : pr108o f l slot) : bodyO (cx108o f l slot) Tryz.f108 [(0, 1)] [.int .i64 (f), encL (encMsg 1) 1 (l), .int .i64 (slot)] [] (fun rr bs => VLe rr (rs108o f l slot) ∧ BinLe bs (rb108o f l slot)) := by
  have key : ((∃ x : Nat, ((SLe (AS.mk [(0, vi f), (1, encL (encMsg 1) 1 l), (2, vi slot), (7, V.osl 32000512 0), (8, vi (0 : Int))] [(32000512, Blk.arr 1 0 (rowg []) 100)]) (AS.mk [(0, vi f), (1, encL (encMsg 1) 1 l), (2, vi slot), (7, V.osl 32000512 (List.length (decBelow f l slot x))), (8, vi (↑x : Int))] [(32000512, Blk.arr 1 (List.length (decBelow f l slot x)) (gL encI (decBelow f l slot x)) 100)])) ∧ (x ≤ 13))) ∧ (∀ x : Nat, ((x ≤ 13) → (((decide ((↑x : Int) ≤ (12 : Int)) = true) → (∃ R : Nat × Nat → Prop, ((∃ x_1 : Nat × Nat, ((SLe (AS.mk [(0, vi f), (1, encL (encMsg 1) 1 l), (2, vi slot), (7, V.osl 32000512 (List.length (decBelow f l slot x))), (8, vi (↑x : Int)), (9, V.bool false), (10, vi (0 : Int))] [(32000512, Blk.arr 1 (List.length (decBelow f l slot x)) (gL encI (decBelow f l slot x)) 100)]) (AS.mk [(0, vi f), (1, encL (encMsg 1) 1 l), (2, vi slot), (7, V.osl 32000512 (List.length (decBelow f l slot x_1.1))), (8, vi (↑x_1.1 : Int)), (9, V.bool (decide (foundTo f l slot (↑x_1.1 : Int) x_1.2))), (10, vi (↑x_1.2 : Int))] [(k108o_2 f l slot x_1)])) ∧ (((Prod.fst x_1 < 13) ∧ (Prod.snd x_1 ≤ List.length l)) ∧ (R x_1)))) ∧ (∀ x_1 : Nat × Nat, (((Prod.fst x_1 < 13) ∧ (Prod.snd x_1 ≤ List.length l)) → ((R x_1) → ((tq (decide ((↑x_1.2 : Int) < (↑(List.length l) : Int)))) ∧ (((true = true) → ((decide ((↑x_1.2 : Int) < (↑(List.length l) : Int)) = true) → (decide ((↑x_1.2 : Int) < (↑(List.length l) : Int)) = true))) ∧ (∀ b : Bool, ((b = bif decide ((↑x_1.2 : Int) < (↑(List.length l) : Int)) then !decide (foundTo f l slot (↑x_1.1 : Int) x_1.2) else false) → (((b = true) → ((((0 : Int) ≤ (↑x_1.2 : Int)) ∧ ((↑x_1.2 : Int) < (↑(List.length l) : Int))) ∧ ((tq (Msg.kind (List.getD l (Int.toNat (↑x_1.2 : Int)) default) == (3 : Int))) ∧ ((tq (Msg.kind (List.getD l (Int.toNat (↑x_1.2 : Int)) default) == (3 : Int))) ∧ ((tq (Msg.kind (List.getD l (Int.toNat (↑x_1.2 : Int)) default) == (3 : Int))) ∧ ((tq (Msg.kind (List.getD l (Int.toNat (↑x_1.2 : Int)) default) == (3 : Int))) ∧ ((tq (Msg.kind (List.getD l (Int.toNat (↑x_1.2 : Int)) default) == (3 : Int))) ∧ (((true = true) → (((Msg.kind (List.getD l (Int.toNat (↑x_1.2 : Int)) default) == (3 : Int)) = true) → ((Msg.kind (List.getD l (Int.toNat (↑x_1.2 : Int)) default) == (3 : Int)) = true))) ∧ (∀ b_1 : Bool, ((b_1 = bif Msg.kind (List.getD l (Int.toNat (↑x_1.2 : Int)) default) == (3 : Int) then Msg.slot (List.getD l (Int.toNat (↑x_1.2 : Int)) default) == slot else false) → ((tq (b_1)) ∧ ((tq (b_1)) ∧ ((tq (b_1)) ∧ ((tq (b_1)) ∧ ((tq (b_1)) ∧ (((true = true) → ((b_1 = true) → (b_1 = true))) ∧ (∀ b_2 : Bool, ((b_2 = bif b_1 then Msg.value (List.getD l (Int.toNat (↑x_1.2 : Int)) default) == (↑x_1.1 : Int) else false) → (((b_2 = true) → (((VLe (encL (encMsg 1) 1 l) (encL (encMsg 1) 1 (decL decMsg (encL (encMsg 1) 1 l)))) ∧ ((VLe (k108o_1 l slot x_1) (encCert 1 (decCert (k108o_1 l slot x_1)))) ∧ (pr92 f (decL decMsg (encL (encMsg 1) 1 l)) (3 : Int) (decCert (k108o_1 l slot x_1))))) ∧ ((inK IntKind.i64 ((↑x_1.2 : Int) + (1 : Int))) ∧ (∃ y : Nat × Nat, ((SLe (AS.mk [(0, vi f), (1, encL (encMsg 1) 1 l), (2, vi slot), (7, V.osl 32000512 (List.length (decBelow f l slot x_1.1))), (8, vi (↑x_1.1 : Int)), (9, V.bool (decide ((2 : Int) * f + (1 : Int) ≤ (↑(List.length (votesF f (decL decMsg (encL (encMsg 1) 1 l)) (3 : Int) (decCert (k108o_1 l slot x_1)))) : Int)))), (10, vi ((↑x_1.2 : Int) + (1 : Int)))] [(k108o_2 f l slot x_1)]) (k108o_0 f l slot y)) ∧ (((Prod.fst y < 13) ∧ (Prod.snd y ≤ List.length l)) ∧ ((R y) ∧ (List.length l - Prod.snd y < List.length l - Prod.snd x_1)))))))) ∧ ((b_2 = false) → ((inK IntKind.i64 ((↑x_1.2 : Int) + (1 : Int))) ∧ (∃ y : Nat × Nat, ((SLe (AS.mk [(0, vi f), (1, encL (encMsg 1) 1 l), (2, vi slot), (7, V.osl 32000512 (List.length (decBelow f l slot x_1.1))), (8, vi (↑x_1.1 : Int)), (9, V.bool (decide (foundTo f l slot (↑x_1.1 : Int) x_1.2))), (10, vi ((↑x_1.2 : Int) + (1 : Int)))] [(k108o_2 f l slot x_1)]) (k108o_0 f l slot y)) ∧ (((Prod.fst y < 13) ∧ (Prod.snd y ≤ List.length l)) ∧ ((R y) ∧ (List.length l - Prod.snd y < List.length l - Prod.snd x_1)))))))))))))))))))))))))) ∧ ((b = false) → (((decide (foundTo f l slot (↑x_1.1 : Int) x_1.2) = true) → ((List.length (decBelow f l slot x_1.1) = List.length (decBelow f l slot x_1.1)) ∧ ((List.length (decBelow f l slot x_1.1) + 1 ≤ 1073741824) ∧ ((sizedL 1 1 (rowg [vi (↑x_1.1 : Int)])) ∧ ((inK IntKind.i64 ((↑x_1.1 : Int) + (1 : Int))) ∧ (∃ y : Nat, ((SLe (AS.mk [(0, vi f), (1, encL (encMsg 1) 1 l), (2, vi slot), (7, V.osl 32000512 (List.length (decBelow f l slot x_1.1) + 1)), (8, vi ((↑x_1.1 : Int) + (1 : Int)))] [(32000512, Blk.arr 1 (List.length (decBelow f l slot x_1.1) + 1) (appg (List.length (decBelow f l slot x_1.1)) (gL encI (decBelow f l slot x_1.1)) (rowg [vi (↑x_1.1 : Int)])) 100)]) (k108o_3 f l slot y)) ∧ ((y ≤ 13) ∧ (13 - y < 13 - x))))))))) ∧ ((decide (foundTo f l slot (↑x_1.1 : Int) x_1.2) = false) → ((inK IntKind.i64 ((↑x_1.1 : Int) + (1 : Int))) ∧ (∃ y : Nat, ((SLe (AS.mk [(0, vi f), (1, encL (encMsg 1) 1 l), (2, vi slot), (7, V.osl 32000512 (List.length (decBelow f l slot x_1.1))), (8, vi ((↑x_1.1 : Int) + (1 : Int)))] [(k108o_2 f l slot x_1)]) (k108o_3 f l slot y)) ∧ ((y ≤ 13) ∧ (13 - y < 13 - x))))))))))))))))))) ∧ ((decide ((↑x : Int) ≤ (12 : Int)) = false) → ((VLe (V.osl 0 (List.length (decBelow f l slot x))) (V.osl 0 (List.length (ro108o f l slot)))) ∧ ((BLe (Blk.arr 1 (List.length (decBelow f l slot x)) (gL encI (decBelow f l slot x)) 100) (Blk.arr 1 (List.length (ro108o f l slot)) (gL encI (ro108o f l slot)) 100)) ∧ (True)))))))) := by
    delta k108o_3; delta k108o_2; delta k108o_1; delta k108o_0; delta vi
    obtain ⟨hr, hl⟩ := hpre
    have h240 := hr.len
    have hc : ∀ a b c : Int, decCert (.agg [.int .i64 a, .int .i64 b, .int .i64 c]) = ⟨a, b, c⟩ := fun _ _ _ => rfl
    simp only [decL_Msg, decL_ints, hc]
    unfold ro108o
    refine ⟨⟨0, sle_of ⟨rfl, VLe.refl _, rfl, VLe.refl _, rfl, VLe.refl _, rfl, VLe.refl _, rfl, VLe.refl _, trivial⟩ ⟨rfl, ble_nil _, trivial⟩, by omega⟩, fun v hv => ⟨fun h => ?_, fun h => ?_⟩⟩
    · have hv13 : v < 13 := by simp at h; omega
      have hbl := decBelow_len f l slot v
      have hbs := decBelow_succ f l slot v
      have h00 : ¬ foundTo f l slot v 0 := by rintro ⟨j, hj, _⟩; omega
      refine ⟨fun p => p.1 = v, ⟨(v, 0), sle_of ⟨rfl, VLe.refl _, rfl, VLe.refl _, rfl, VLe.refl _, rfl, VLe.refl _, rfl, VLe.refl _, rfl, vle_bool (by simp [h00]), rfl, VLe.refl _, trivial⟩ ⟨rfl, BLe.refl _, trivial⟩, ⟨hv13, by omega⟩, rfl⟩, ?_⟩
      rintro ⟨v', i⟩ ⟨_, hi⟩ hR
      simp only at hR
      subst hR
      simp only at hi ⊢
      simp only [Int.toNat_natCast]
      repeat (first | (refine And.intro (fun h _ => h) ?_) | (refine And.intro (fun _ h => h) ?_) | (refine And.intro ?aa ?_; case aa => (exact trivial)) | (refine And.intro ?aa ?_; case aa => (intros; simp_all [pr92]; done)) | (refine And.intro ?aa ?_; case aa => (intros; exact inK64 (by omega))) | (refine And.intro ?aa ?_; case aa => (intros; simp only [decide_eq_true_eq] at *; omega)) | (intro q hq))
      have e0 : q = decide (i < l.length ∧ ¬ foundTo f l slot v' i) := by
        subst_vars
        rw [Bool.eq_iff_iff]
        simp
      clear hq
      refine ⟨fun h => ?_, fun h => ?_⟩
      · rw [e0] at h
        obtain ⟨hlt, hnf⟩ := of_decide_eq_true h
        have hfs := found_succ (f := f) (l := l) (s := slot) (v := v') (i := i)
        refine ⟨⟨by omega, by omega⟩, ?_⟩
        repeat (first | (refine And.intro (fun h _ => h) ?_) | (refine And.intro (fun _ h => h) ?_) | (refine And.intro ?aa ?_; case aa => (exact trivial)) | (refine And.intro ?aa ?_; case aa => (intros; simp_all [pr92]; done)) | (refine And.intro ?aa ?_; case aa => (intros; exact inK64 (by omega))) | (refine And.intro ?aa ?_; case aa => (intros; simp only [decide_eq_true_eq] at *; omega)) | (intro q hq))
        have e1 : q = decide ((l.getD i default).kind = 3 ∧ (l.getD i default).slot = slot ∧ (l.getD i default).value = v') := by
          subst_vars
          rw [Bool.eq_iff_iff]
          simp [and_assoc]
        clear hq
        refine ⟨fun h2 => ?_, fun h2 => ?_⟩
        · rw [e1] at h2
          obtain ⟨a1, a2, a3⟩ := of_decide_eq_true h2
          have b1 : foundTo f l slot v' (i + 1) ↔ enough f l 3 ⟨slot, (l.getD i default).view, v'⟩ := by
            rw [hfs]
            constructor
            · rintro (g | g)
              · exact absurd g hnf
              · exact g.2.2.2
            · exact fun g => .inr ⟨a1, a2, a3, g⟩
          refine ⟨⟨VLe.refl _, VLe.refl _, hr.okf, hl⟩, inK64 (by omega), (v', i + 1), sle_of ⟨rfl, VLe.refl _, rfl, VLe.refl _, rfl, VLe.refl _, rfl, VLe.refl _, rfl, VLe.refl _, rfl, vle_bool (by rw [Bool.eq_iff_iff, decide_eq_true_eq, decide_eq_true_eq, b1, enough]), rfl, vle_int (by simp only [Int.natCast_add, Int.cast_ofNat_Int]), trivial⟩ ⟨rfl, BLe.refl _, trivial⟩, ⟨hv13, by simp only; omega⟩, rfl, by simp only; omega⟩
        · rw [e1] at h2
          have h3 := of_decide_eq_false h2
          have b1 : foundTo f l slot v' i ↔ foundTo f l slot v' (i + 1) := by
            rw [hfs]
            constructor
            · exact fun g => .inl g
            · rintro (g | g)
              · exact g
              · exact absurd ⟨g.1, g.2.1, g.2.2.1⟩ h3
          refine ⟨inK64 (by omega), (v', i + 1), sle_of ⟨rfl, VLe.refl _, rfl, VLe.refl _, rfl, VLe.refl _, rfl, VLe.refl _, rfl, VLe.refl _, rfl, vle_bool (by rw [decide_eq_decide, b1]), rfl, vle_int (by simp only [Int.natCast_add, Int.cast_ofNat_Int]), trivial⟩ ⟨rfl, BLe.refl _, trivial⟩, ⟨hv13, by simp only; omega⟩, rfl, by simp only; omega⟩
      · rw [e0] at h
        have h3 := of_decide_eq_false h
        have hd : foundTo f l slot v' i ↔ decidedV f l slot v' := by
          rw [← found_all]
          by_cases hf : foundTo f l slot v' i
          · obtain ⟨j, hj, h4⟩ := hf
            exact ⟨fun _ => ⟨j, by omega, h4⟩, fun _ => ⟨j, hj, h4⟩⟩
          · have : i = l.length := by
              rcases Nat.lt_or_ge i l.length with h5 | h5
              · exact absurd ⟨h5, hf⟩ h3
              · omega
            rw [this]
        refine ⟨fun h4 => ⟨trivial, by omega, fun k hk => ?_, inK64 (by omega), v' + 1, ?_, by omega, by omega⟩, fun h4 => ⟨inK64 (by omega), v' + 1, ?_, by omega, by omega⟩⟩
        · have hk0 : k = 0 := by omega
          subst hk0
          exact ⟨rfl, rfl⟩
        · have h5 := hd.1 (of_decide_eq_true h4)
          rw [if_pos h5] at hbs
          rw [hbs, List.length_append]
          exact sle_of ⟨rfl, VLe.refl _, rfl, VLe.refl _, rfl, VLe.refl _, rfl, VLe.refl _, rfl, vle_int (by omega), trivial⟩ ⟨rfl, ble_push rfl rfl, trivial⟩
        · have h5 : ¬ decidedV f l slot v' := fun g => (of_decide_eq_false h4) (hd.2 g)
          rw [if_neg h5, List.append_nil] at hbs
          rw [hbs]
          exact sle_of ⟨rfl, VLe.refl _, rfl, VLe.refl _, rfl, VLe.refl _, rfl, VLe.refl _, rfl, vle_int (by omega), trivial⟩ ⟨rfl, BLe.refl _, trivial⟩
    · have : v = 13 := by simp at h; omega
      subst this
      exact ⟨VLe.refl _, BLe.refl _, trivial⟩
  exact Eq.mp (by kernel_rfl) key
theorem so108o : Sound Tryz.prog 108 sp108o := by
  refine sound_of_bodyO hmix (tpl := [(0, 1)]) Tryz.func108 rfl (by kernel_rfl) fun args bin ob r bout hDe hob => ?_
  unfold sp108o at hDe
  split at hDe
  · rename_i a0 a1 a2
    cases hDe
    exact ⟨Nat.le_of_ble_eq_true (by kernel_rfl), cx108o a0 ((decL decMsg) a1) a2, Eq.mp (by kernel_rfl) htt, Eq.mp (by kernel_rfl) da108o, Eq.mp (by kernel_rfl) (noM_sound (P := Tryz.prog)), by kernel_rfl, [.int .i64 (a0), encL (encMsg 1) 1 (((decL decMsg) a1)), .int .i64 (a2)], [], args_of_vles (⟨VLe.refl _, hob.1, VLe.refl _, trivial⟩), trivial, Eq.mp (by kernel_rfl) (bd108o a0 ((decL decMsg) a1) a2 (hob.2))⟩
  · cases hDe

/-! ### impl.logOf%o -/
def pr75o (f : Int) (l : List Msg) : Prop := Right f l ∧ bdL l
noncomputable def ro75o (f : Int) (l : List Msg) : List Int := logL f l
noncomputable def rb75o (f : Int) (l : List Msg) : List Blk := [(.arr 1 (ro75o f l).length (gL encI (ro75o f l)) tagS)]
noncomputable def rs75o (f : Int) (l : List Msg) : V := .osl 0 (ro75o f l).length
noncomputable def sp75o : FSpec := fun args bin => match args, bin with
  | [.int .i64 a0, a1], [] => some (VLe a1 (encL (encMsg 1) 1 (((decL decMsg) a1))) ∧ pr75o a0 ((decL decMsg) a1), rs75o a0 ((decL decMsg) a1), rb75o a0 ((decL decMsg) a1))
  | _, _ => none
noncomputable def in75o_3 (f : Int) (l : List Msg) : LoopInv :=
  ⟨Nat × List Int, fun p => ⟨[(0, .int .i64 f), (1, encL (encMsg 1) 1 l), (5, .osl (canonT 5) p.2.length), (6, .int .i64 (p.1 + 1))], [(canonT 5, .arr 1 p.2.length (gL encI p.2) tagS)]⟩,
    fun p => p.1 ≤ 30 ∧ p.2.length ≤ p.1 ∧ logL f l = p.2 ++ logFrom f l (p.1 + 1) (30 - p.1), fun p => 30 - p.1⟩
noncomputable def iv75o (f : Int) (l : List Msg) : Nat → Option LoopInv := fun rg_ => match rg_ with
  | 3 => some (in75o_3 f l)
  | _ => none
noncomputable def D75o : Nat → Option (Bool × FSpec) := lk [(95, (false, sp95o))]
theorem da75o : SoundAll Tryz.prog D75o := soundAll_cons so95o (soundAll_nil)
noncomputable def cx75o (f : Int) (l : List Msg) : Cx := ⟨tt, D75o, Tryz.f75.ntmps, [0, 1, 4, 5, 6, 7, 10, 19], [(3, ⟨[(0, none), (1, none), (5, some 1), (6, none)], []⟩)], [], iv75o f l, [], noM, []⟩
noncomputable def k75o_0 (f : Int) (l : List Msg) (x : Nat × List Int) : Nat := (List.length (ro95o f (decL decMsg (encL (encMsg 1) 1 l)) ((↑x.1 : Int) + (1 : Int))))
theorem bd75o (f : Int) (l : List Msg) (hpre : pr75o f l) : bodyO (cx75o f l) Tryz.f75 [(0, 1)] [.int .i64 (f), encL (encMsg 1) 1 (l)] [] (fun rr bs => VLe rr (rs75o f l) ∧ BinLe bs (rb75o f l)) := by
  have key : ((∃ x : Nat × List Int, ((SLe (AS.mk [(0, vi f), (1, encL (encMsg 1) 1 l), (5, V.osl 32000384 0), (6, vi (1 : Int))] [(32000384, Blk.arr 1 0 (rowg []) 100)]) (AS.mk [(0, vi f), (1, encL (encMsg 1) 1 l), (5, V.osl 32000384 (List.length x.2)), (6, vi ((↑x.1 : Int) + (1 : Int)))] [(32000384, Blk.arr 1 (List.length x.2) (gL encI x.2) 100)])) ∧ ((Prod.fst x ≤ 30) ∧ ((List.length x.2 ≤ Prod.fst x) ∧ (logL f l = Prod.snd x ++ logFrom f l (Prod.fst x + 1) (30 - Prod.fst x)))))) ∧ (∀ x : Nat × List Int, (((Prod.fst x ≤ 30) ∧ ((List.length x.2 ≤ Prod.fst x) ∧ (logL f l = Prod.snd x ++ logFrom f l (Prod.fst x + 1) (30 - Prod.fst x)))) → (((decide ((↑x.1 : Int) + (1 : Int) ≤ (30 : Int)) = true) → (((VLe (encL (encMsg 1) 1 l) (encL (encMsg 1) 1 (decL decMsg (encL (encMsg 1) 1 l)))) ∧ (pr95o f (decL decMsg (encL (encMsg 1) 1 l)) ((↑x.1 : Int) + (1 : Int)))) ∧ (((((↑(k75o_0 f l x) : Int) == (0 : Int)) = true) → ((VLe (V.osl 0 (List.length x.2)) (V.osl 0 (List.length (ro75o f l)))) ∧ ((BLe (Blk.arr 1 (List.length x.2) (gL encI x.2) 100) (Blk.arr 1 (List.length (ro75o f l)) (gL encI (ro75o f l)) 100)) ∧ (True)))) ∧ ((((↑(k75o_0 f l x) : Int) == (0 : Int)) = false) → ((((0 : Int) ≤ (0 : Int)) ∧ ((0 : Int) < (↑(k75o_0 f l x) : Int))) ∧ ((0 < List.length (ro95o f (decL decMsg (encL (encMsg 1) 1 l)) ((↑x.1 : Int) + (1 : Int)))) ∧ ((List.length x.2 = List.length x.2) ∧ ((List.length x.2 + 1 ≤ 1073741824) ∧ ((sizedL 1 1 (rowg [vi (List.getD (ro95o f (decL decMsg (encL (encMsg 1) 1 l)) ((↑x.1 : Int) + (1 : Int))) 0 default)])) ∧ ((inK IntKind.i64 ((↑x.1 : Int) + (1 : Int) + (1 : Int))) ∧ (∃ y : Nat × List Int, ((SLe (AS.mk [(0, vi f), (1, encL (encMsg 1) 1 l), (5, V.osl 32000384 (List.length x.2 + 1)), (6, vi ((↑x.1 : Int) + (1 : Int) + (1 : Int)))] [(32000384, Blk.arr 1 (List.length x.2 + 1) (appg (List.length x.2) (gL encI x.2) (rowg [vi (List.getD (ro95o f (decL decMsg (encL (encMsg 1) 1 l)) ((↑x.1 : Int) + (1 : Int))) 0 default)])) 100)]) (AS.mk [(0, vi f), (1, encL (encMsg 1) 1 l), (5, V.osl 32000384 (List.length y.2)), (6, vi ((↑y.1 : Int) + (1 : Int)))] [(32000384, Blk.arr 1 (List.length y.2) (gL encI y.2) 100)])) ∧ (((Prod.fst y ≤ 30) ∧ ((List.length y.2 ≤ Prod.fst y) ∧ (logL f l = Prod.snd y ++ logFrom f l (Prod.fst y + 1) (30 - Prod.fst y)))) ∧ (30 - Prod.fst y < 30 - Prod.fst x)))))))))))))) ∧ ((decide ((↑x.1 : Int) + (1 : Int) ≤ (30 : Int)) = false) → ((VLe (V.osl 0 (List.length x.2)) (V.osl 0 (List.length (ro75o f l)))) ∧ ((BLe (Blk.arr 1 (List.length x.2) (gL encI x.2) 100) (Blk.arr 1 (List.length (ro75o f l)) (gL encI (ro75o f l)) 100)) ∧ (True)))))))) := by
    delta k75o_0; delta vi
    obtain ⟨hr, hl⟩ := hpre
    simp only [decL_Msg, ro95o, ro75o]
    refine ⟨⟨(0, []), sle_of ⟨rfl, VLe.refl _, rfl, VLe.refl _, rfl, VLe.refl _, rfl, VLe.refl _, trivial⟩ ⟨rfl, ble_nil _, trivial⟩, by simp, by simp, by simp [logL]⟩, ?_⟩
    rintro ⟨i, out⟩ ⟨hi, ho, hj⟩
    simp only at hi ho hj ⊢
    refine ⟨fun h => ?_, fun h => ?_⟩
    · have hlt : i < 30 := by simp at h; omega
      have hs : logFrom f l (i + 1) (30 - i) = match decidedL f l ((i : Int) + 1) with
        | [] => []
        | v :: _ => v :: logFrom f l (i + 1 + 1) (30 - (i + 1)) := by
        have e1 : 30 - i = (30 - (i + 1)) + 1 := by omega
        rw [e1]
        rfl
      refine ⟨⟨VLe.refl _, hr, hl⟩, fun h2 => ?_, fun h2 => ?_⟩
      · have hn : decidedL f l ((i : Int) + 1) = [] := List.length_eq_zero_iff.1 (by simpa using h2)
        rw [hn] at hs
        rw [hj, hs, List.append_nil]
        exact ⟨VLe.refl _, BLe.refl _, trivial⟩
      · have hn : decidedL f l ((i : Int) + 1) ≠ [] := fun e => by rw [e] at h2; simp at h2
        obtain ⟨v, r, he⟩ : ∃ v r, decidedL f l ((i : Int) + 1) = v :: r := by
          cases hc : decidedL f l ((i : Int) + 1) with
          | nil => exact absurd hc hn
          | cons v r => exact ⟨v, r, rfl⟩
        rw [he] at hs ⊢
        simp only at hs
        refine ⟨⟨by omega, by simp only [List.length_cons]; omega⟩, by simp, trivial, by omega, fun k hk => ?_, inK64 (by omega), (i + 1, out ++ [v]), ?_, ⟨by simp only; omega, by simp only [List.length_append, List.length_singleton]; omega, ?_⟩, by simp only; omega⟩
        · have hk0 : k = 0 := by omega
          subst hk0
          exact ⟨rfl, rfl⟩
        · simp only [List.length_append, List.length_singleton]
          exact sle_of ⟨rfl, VLe.refl _, rfl, VLe.refl _, rfl, VLe.refl _, rfl, vle_int (by simp only [Int.natCast_add, Int.cast_ofNat_Int]), trivial⟩ ⟨rfl, ble_push rfl rfl, trivial⟩
        · simp only
          rw [hj, hs]
          simp
    · have : i = 30 := by simp at h; omega
      subst this
      have e : logL f l = out := by rw [hj]; simp [logFrom]
      rw [e]
      exact ⟨VLe.refl _, BLe.refl _, trivial⟩
  exact Eq.mp (by kernel_rfl) key
theorem so75o : Sound Tryz.prog 75 sp75o := by
  refine sound_of_bodyO hmix (tpl := [(0, 1)]) Tryz.func75 rfl (by kernel_rfl) fun args bin ob r bout hDe hob => ?_
  unfold sp75o at hDe
  split at hDe
  · rename_i a0 a1
    cases hDe
    exact ⟨Nat.le_of_ble_eq_true (by kernel_rfl), cx75o a0 ((decL decMsg) a1), Eq.mp (by kernel_rfl) htt, Eq.mp (by kernel_rfl) da75o, Eq.mp (by kernel_rfl) (noM_sound (P := Tryz.prog)), by kernel_rfl, [.int .i64 (a0), encL (encMsg 1) 1 (((decL decMsg) a1))], [], args_of_vles (⟨VLe.refl _, hob.1, trivial⟩), trivial, Eq.mp (by kernel_rfl) (bd75o a0 ((decL decMsg) a1) (hob.2))⟩
  · cases hDe

noncomputable def decidedAtF (f : Int) (l : List Msg) (slot : Int) : IntsResult :=
  if ledgerFault f l ≠ 0 then ⟨ledgerFault f l, []⟩ else if ¬ inR slot 1 30 then ⟨3, []⟩ else ⟨0, decidedL f l slot⟩
noncomputable def logOfF (f : Int) (l : List Msg) : IntsResult := if ledgerFault f l ≠ 0 then ⟨ledgerFault f l, []⟩ else ⟨0, logL f l⟩
theorem decidedAtF_len (f : Int) (l : List Msg) (slot : Int) : (decidedAtF f l slot).list.length ≤ 240 := by
  unfold decidedAtF
  split
  · simp
  · split
    · simp
    · exact Nat.le_trans (decBelow_len _ _ _ _) (by omega)
theorem logOfF_len (f : Int) (l : List Msg) : (logOfF f l).list.length ≤ 240 := by
  unfold logOfF
  split
  · simp
  · exact Nat.le_trans (logFrom_len _ _ _ _) (by omega)

end Go.Av
