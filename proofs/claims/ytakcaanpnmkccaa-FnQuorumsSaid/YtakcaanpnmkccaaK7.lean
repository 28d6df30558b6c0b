/- What is decided, and the log. -/
import Derived.Test.YtakcaanpnmkccaaK5
import Derived.Test.YtakcaanpnmkccaaI1
import Derived.Test.YtakcaanpnmkccaaP20
namespace Go.Av
open Go.Proofs
set_option maxRecDepth 100000
set_option linter.unusedVariables false
set_option linter.unusedSimpArgs false

def foundTo (f : Int) (l : List Msg) (slot v : Int) (i : Nat) : Prop := ∃ j, j < i ∧ (l.getD j default).kind = 3 ∧ (l.getD j default).slot = slot ∧ (l.getD j default).value = v ∧ enough f l 3 ⟨slot, (l.getD j default).view, v⟩
noncomputable instance (f : Int) (l : List Msg) (s v : Int) (i : Nat) : Decidable (foundTo f l s v i) := Classical.propDecidable _
theorem found_all {f : Int} {l : List Msg} {s v : Int} : foundTo f l s v l.length ↔ decidedV f l s v := by
  constructor
  · rintro ⟨j, hj, h⟩
    exact ⟨_, by simp [hj], h⟩
  · rintro ⟨m, hm, h⟩
    obtain ⟨j, hj, rfl⟩ := List.getElem_of_mem hm
    exact ⟨j, hj, by simpa [hj] using h⟩
theorem found_succ {f : Int} {l : List Msg} {s v : Int} {i : Nat} : foundTo f l s v (i + 1) ↔ foundTo f l s v i ∨ ((l.getD i default).kind = 3 ∧ (l.getD i default).slot = s ∧ (l.getD i default).value = v ∧ enough f l 3 ⟨s, (l.getD i default).view, v⟩) := by
  constructor
  · rintro ⟨j, hj, h⟩
    rcases Nat.lt_or_ge j i with h1 | h1
    · exact .inl ⟨j, h1, h⟩
    · have : j = i := by omega
      subst this
      exact .inr h
  · rintro (⟨j, hj, h⟩ | h)
    · exact ⟨j, by omega, h⟩
    · exact ⟨i, by omega, h⟩


/-! ### impl.decided%o -/
def pr46o (f : Int) (l : List Msg) (slot : Int) : Prop := Right f l ∧ bdL l
noncomputable def ro46o (f : Int) (l : List Msg) (slot : Int) : List Int := decidedL f l slot
noncomputable def rb46o (f : Int) (l : List Msg) (slot : Int) : List Blk := [(.arr 1 (ro46o f l slot).length (gL encI (ro46o f l slot)) tagS)]
noncomputable def rs46o (f : Int) (l : List Msg) (slot : Int) : V := .osl 0 (ro46o f l slot).length
noncomputable def sp46o : FSpec := fun args bin => match args, bin with
  | [.int .i64 a0, a1, .int .i64 a2], [] => some (VLe a1 (encL (encMsg 1) 1 (((decL decMsg) a1))) ∧ pr46o a0 ((decL decMsg) a1) a2, rs46o a0 ((decL decMsg) a1) a2, rb46o a0 ((decL decMsg) a1) a2)
  | _, _ => none
noncomputable def in46o_3 (f : Int) (l : List Msg) (slot : Int) : LoopInv :=
  ⟨Nat, fun i => ⟨[(0, .int .i64 f), (1, encL (encMsg 1) 1 l), (2, .int .i64 slot), (7, .osl (canonT 7) (decTo f l slot i).length), (11, encL (encMsg 1) 1 l), (12, .int .i64 l.length), (13, .int .i64 i)], [(canonT 7, .arr 1 (decTo f l slot i).length (gL encI (decTo f l slot i)) tagS)]⟩,
    fun i => i ≤ l.length, fun i => l.length - i⟩
noncomputable def iv46o (f : Int) (l : List Msg) (slot : Int) : Nat → Option LoopInv := fun rg_ => match rg_ with
  | 3 => some (in46o_3 f l slot)
  | _ => none
noncomputable def D46o : Nat → Option (Bool × FSpec) := lk [(76, (false, sp76)), (74, (false, sp74)), (68, (true, sp68))]
theorem da46o : SoundAll Try.prog D46o := soundAll_cons so76 (soundAll_cons so74 (soundAll_cons so68 (soundAll_nil)))
noncomputable def cx46o (f : Int) (l : List Msg) (slot : Int) : Cx := ⟨tt, D46o, Try.f46.ntmps, [0, 1, 2, 6, 7, 9, 11, 12, 13, 14, 42], [(3, ⟨[(0, none), (1, none), (2, none), (7, some 1), (11, none), (12, none), (13, none)], []⟩)], [], iv46o f l slot, [], noM, []⟩
theorem bd46o (f : Int) (l : List Msg) (slot : Int) (hpre : pr46o f l slot) : bodyO (cx46o f l slot) Try.f46 [(0, 1)] [.int .i64 (f), encL (encMsg 1) 1 (l), .int .i64 (slot)] [] (fun rr bs => VLe rr (rs46o f l slot) ∧ BinLe bs (rb46o f l slot)) := by
  have key :
      ((∃ x : Nat, ((SLe
   (AS.mk
   [(0, V.int IntKind.i64 f), (1, encL (encMsg 1) 1 l),
   (2, V.int IntKind.i64 slot), (7, V.osl 32000512 0),
   (11, encL (encMsg 1) 1 l), (12, V.int IntKind.i64 (↑(List.length l) : Int)),
   (13, V.int IntKind.i64 (0 : Int))]
   [(32000512, Blk.arr 1 0 (rowg []) 100)])
   (AS.mk
   [(0, V.int IntKind.i64 f), (1, encL (encMsg 1) 1 l),
   (2, V.int IntKind.i64 slot), (7, V.osl 32000512 (List.length (decTo f l slot x))),
   (11, encL (encMsg 1) 1 l), (12, V.int IntKind.i64 (↑(List.length l) : Int)),
   (13, V.int IntKind.i64 (↑x : Int))]
   [(32000512, Blk.arr 1 (List.length (decTo f l slot x)) (gL encI (decTo f l slot x)) 100)])) ∧
   (x ≤ List.length l))) ∧
   (∀ x : Nat,
   ((x ≤ List.length l) →
   (((decide ((↑x : Int) < (↑(List.length l) : Int)) = true) →
   ((((0 : Int) ≤ (↑x : Int)) ∧
   ((↑x : Int) < (↑(List.length l) : Int))) ∧
   ((tq (Msg.kind (List.getD l (Int.toNat (↑x : Int)) default) == (3 : Int))) ∧
   ((tq (Msg.kind (List.getD l (Int.toNat (↑x : Int)) default) == (3 : Int))) ∧
   ((tq (Msg.kind (List.getD l (Int.toNat (↑x : Int)) default) == (3 : Int))) ∧
   (((true = true) →
   (((Msg.kind (List.getD l (Int.toNat (↑x : Int)) default) == (3 : Int)) = true) →
   ((Msg.kind (List.getD l (Int.toNat (↑x : Int)) default) == (3 : Int)) = true))) ∧
   (∀ b : Bool,
   ((b =
   bif Msg.kind (List.getD l (Int.toNat (↑x : Int)) default) == (3 : Int) then
   Msg.slot (List.getD l (Int.toNat (↑x : Int)) default) == slot
   else false) →
   ((tq (b)) ∧
   ((tq (b)) ∧
   ((tq (b)) ∧
   (((b = true) →
   ((VLe (encL encI 1 (decTo f l slot x)) (encL encI 1 (decL decI (encL encI 1 (decTo f l slot x))))) ∧
   (pr76 (decL decI (encL encI 1 (decTo f l slot x))) (Msg.value (List.getD l (Int.toNat (↑x : Int)) default))))) ∧
   ((tq (b)) ∧
   (((true = true) →
   ((b = true) →
   (b = true))) ∧
   (∀ b_1 : Bool,
   ((b_1 =
   bif b then
   !decide
   (Msg.value (List.getD l (Int.toNat (↑x : Int)) default) ∈ decL decI (encL encI 1 (decTo f l slot x)))
   else false) →
   ((tq (b_1)) ∧
   ((tq (b_1)) ∧
   ((tq (b_1)) ∧
   ((tq (b_1)) ∧
   ((tq (b_1)) ∧
   ((tq (b_1)) ∧
   ((tq (b_1)) ∧
   (((b_1 = true) →
   ((VLe (encL (encMsg 1) 1 l)
   (encL (encMsg 1) 1 (decL decMsg (encL (encMsg 1) 1 l)))) ∧
   (pr74 f (decL decMsg (encL (encMsg 1) 1 l)) (3 : Int)
   (Msg.view (List.getD l (Int.toNat (↑x : Int)) default)) slot (Msg.value (List.getD l (Int.toNat (↑x : Int)) default))))) ∧
   (((true = true) →
   ((b_1 = true) →
   (b_1 = true))) ∧
   (∀ b_2 : Bool,
   ((b_2 =
   bif b_1 then
   decide
   ((2 : Int) * f + (1 : Int) ≤
   (↑(List.length
   (votersF (decL decMsg (encL (encMsg 1) 1 l)) (3 : Int)
   (Msg.view (List.getD l (Int.toNat (↑x : Int)) default)) slot
   (Msg.value (List.getD l (Int.toNat (↑x : Int)) default)))) :
   Int))
   else false) →
   (((b_2 = true) →
   ((List.length (decTo f l slot x) = List.length (decTo f l slot x)) ∧
   ((List.length (decTo f l slot x) + 1 ≤ 1073741824) ∧
   ((sizedL 1 1 (rowg [V.int IntKind.i64 (Msg.value (List.getD l (Int.toNat (↑x : Int)) default))])) ∧
   ((inK IntKind.i64 ((↑x : Int) + (1 : Int))) ∧
   (∃ y : Nat, ((SLe
   (AS.mk
   [(0, V.int IntKind.i64 f), (1, encL (encMsg 1) 1 l),
   (2, V.int IntKind.i64 slot),
   (7, V.osl 32000512 (List.length (decTo f l slot x) + 1)),
   (11, encL (encMsg 1) 1 l), (12, V.int IntKind.i64 (↑(List.length l) : Int)),
   (13, V.int IntKind.i64 ((↑x : Int) + (1 : Int)))]
   [(32000512,
   Blk.arr 1 (List.length (decTo f l slot x) + 1)
   (appg (List.length (decTo f l slot x)) (gL encI (decTo f l slot x))
   (rowg [V.int IntKind.i64 (Msg.value (List.getD l (Int.toNat (↑x : Int)) default))]))
   100)])
   (AS.mk
   [(0, V.int IntKind.i64 f), (1, encL (encMsg 1) 1 l),
   (2, V.int IntKind.i64 slot), (7, V.osl 32000512 (List.length (decTo f l slot y))),
   (11, encL (encMsg 1) 1 l), (12, V.int IntKind.i64 (↑(List.length l) : Int)),
   (13, V.int IntKind.i64 (↑y : Int))]
   [(32000512, Blk.arr 1 (List.length (decTo f l slot y)) (gL encI (decTo f l slot y)) 100)])) ∧
   ((y ≤ List.length l) ∧
   (List.length l - y < List.length l - x))))))))) ∧
   ((b_2 = false) →
   ((inK IntKind.i64 ((↑x : Int) + (1 : Int))) ∧
   (∃ y : Nat, ((SLe
   (AS.mk
   [(0, V.int IntKind.i64 f), (1, encL (encMsg 1) 1 l),
   (2, V.int IntKind.i64 slot), (7, V.osl 32000512 (List.length (decTo f l slot x))),
   (11, encL (encMsg 1) 1 l), (12, V.int IntKind.i64 (↑(List.length l) : Int)),
   (13, V.int IntKind.i64 ((↑x : Int) + (1 : Int)))]
   [(32000512, Blk.arr 1 (List.length (decTo f l slot x)) (gL encI (decTo f l slot x)) 100)])
   (AS.mk
   [(0, V.int IntKind.i64 f), (1, encL (encMsg 1) 1 l),
   (2, V.int IntKind.i64 slot), (7, V.osl 32000512 (List.length (decTo f l slot y))),
   (11, encL (encMsg 1) 1 l), (12, V.int IntKind.i64 (↑(List.length l) : Int)),
   (13, V.int IntKind.i64 (↑y : Int))]
   [(32000512, Blk.arr 1 (List.length (decTo f l slot y)) (gL encI (decTo f l slot y)) 100)])) ∧
   ((y ≤ List.length l) ∧
   (List.length l - y < List.length l - x)))))))))))))))))))))))))))))))))) ∧
   ((decide ((↑x : Int) < (↑(List.length l) : Int)) = false) →
   (((List.length (decTo f l slot x) = List.length (decTo f l slot x)) ∧
   ((List.length (decTo f l slot x) < 4611686018427387904) ∧
   (ints (List.length (decTo f l slot x)) (gL encI (decTo f l slot x))))) ∧
   ((List.length (decTo f l slot x) = List.length (decTo f l slot x)) ∧
   ((VLe (V.osl 0 (List.length (decTo f l slot x))) (V.osl 0 (List.length (ro46o f l slot)))) ∧
   ((BLe
   (Blk.arr 1 (List.length (decTo f l slot x))
   (gL encI (sortI (rowI (List.length (decTo f l slot x)) (gL encI (decTo f l slot x))))) 100)
   (Blk.arr 1 (List.length (ro46o f l slot)) (gL encI (ro46o f l slot)) 100)) ∧
   (True)))))))))) := by
    obtain ⟨hr, hl⟩ := hpre
    have h240 := hr.len
    simp only [decL_Msg, decL_ints]
    refine ⟨⟨0, sle_of ⟨rfl, VLe.refl _, rfl, VLe.refl _, rfl, VLe.refl _, rfl, VLe.refl _, rfl, VLe.refl _, rfl, VLe.refl _, rfl, VLe.refl _, trivial⟩ ⟨rfl, ble_nil _, trivial⟩, by omega⟩, fun i hi => ⟨fun h => ?_, fun h => ?_⟩⟩
    · have hlt : i < l.length := by simpa using h
      obtain ⟨_, hlen, _⟩ := decTo_facts (f := f) (l := l) (slot := slot) i hi
      have hs := decTo_succ (f := f) (slot := slot) hlt
      have pc : ∀ v, pr76 (decTo f l slot i) v := fun v => by
        show (decTo f l slot i).length ≤ maxLen
        unfold maxLen; omega
      simp only [Int.toNat_natCast]
      refine ⟨by omega, ?_⟩
      repeat (first | (refine And.intro (fun h _ => h) ?_) | (refine And.intro (fun _ h => h) ?_) | (refine And.intro ?aa ?_; case aa => (exact fun _ => ⟨VLe.refl _, pc _⟩)) | (refine And.intro ?aa ?_; case aa => (exact fun _ => ⟨VLe.refl _, hr.okf, hr.len, hl⟩)) | (refine And.intro ?aa ?_; case aa => (intros; simp_all [pr76, pr74, pr68]; done)) | (refine And.intro ?aa ?_; case aa => (intros; exact inK64 (by omega))) | (refine And.intro ?aa ?_; case aa => (intros; simp only [decide_eq_true_eq] at *; omega)) | (intro q hq))
      have e0 : q = decide (takesV f l slot (decTo f l slot i) (l.getD i default)) := by
        subst_vars
        have hv := votes_eq hr (Or.inr rfl) ⟨slot, (l.getD i default).view, (l.getD i default).value⟩
        simp only at hv
        have ht : takesV f l slot (decTo f l slot i) (l.getD i default) ↔ (l.getD i default).kind = 3 ∧ (l.getD i default).slot = slot ∧ (l.getD i default).value ∉ decTo f l slot i ∧ 2 * f + 1 ≤ ((votersF l 3 (l.getD i default).view slot (l.getD i default).value).length : Int) := by
          unfold takesV enough
          rw [hv]
        rw [Bool.eq_iff_iff, decide_eq_true_eq, ht]
        simp [and_assoc]
      clear hq
      refine ⟨fun h => ⟨trivial, by omega, fun k hk => ?_, inK64 (by omega), i + 1, ?_, by omega, by omega⟩, fun h => ⟨inK64 (by omega), i + 1, ?_, by omega, by omega⟩⟩
      · have hk0 : k = 0 := by omega
        subst hk0
        exact ⟨rfl, rfl⟩
      · rw [e0] at h
        unfold decStep at hs
        rw [if_pos (of_decide_eq_true h)] at hs
        rw [hs, List.length_append]
        exact sle_of ⟨rfl, VLe.refl _, rfl, VLe.refl _, rfl, VLe.refl _, rfl, VLe.refl _, rfl, VLe.refl _, rfl, VLe.refl _, rfl, vle_int (by omega), trivial⟩ ⟨rfl, ble_push rfl rfl, trivial⟩
      · rw [e0] at h
        unfold decStep at hs
        rw [if_neg (of_decide_eq_false h)] at hs
        rw [hs]
        exact sle_of ⟨rfl, VLe.refl _, rfl, VLe.refl _, rfl, VLe.refl _, rfl, VLe.refl _, rfl, VLe.refl _, rfl, VLe.refl _, rfl, vle_int (by omega), trivial⟩ ⟨rfl, BLe.refl _, trivial⟩
    · have hge : i = l.length := by simp at h; omega
      subst hge
      obtain ⟨_, hlen, _⟩ := decTo_facts (f := f) (l := l) (slot := slot) l.length hi
      have r1 := rowI_gL (decTo f l slot l.length)
      have hd := decided_eq hr slot
      simp only [r1, ro46o]
      refine ⟨⟨trivial, by omega, ints_gL _ _⟩, trivial, VLe.of_eq (by rw [← hd, sortI_len]), ?_, trivial⟩
      rw [← hd, sortI_len]
      exact BLe.refl _
  exact Eq.mp (by kernel_rfl) key
theorem so46o : Sound Try.prog 46 sp46o := by
  refine sound_of_bodyO hmix (tpl := [(0, 1)]) Try.func46 rfl (by kernel_rfl) fun args bin ob r bout hDe hob => ?_
  unfold sp46o at hDe
  split at hDe
  · rename_i a0 a1 a2
    cases hDe
    exact ⟨Nat.le_of_ble_eq_true (by kernel_rfl), cx46o a0 ((decL decMsg) a1) a2, Eq.mp (by kernel_rfl) htt, Eq.mp (by kernel_rfl) da46o, Eq.mp (by kernel_rfl) (noM_sound (P := Try.prog)), by kernel_rfl, [.int .i64 (a0), encL (encMsg 1) 1 (((decL decMsg) a1)), .int .i64 (a2)], [], args_of_vles (⟨VLe.refl _, hob.1, VLe.refl _, trivial⟩), trivial, Eq.mp (by kernel_rfl) (bd46o a0 ((decL decMsg) a1) a2 (hob.2))⟩
  · cases hDe

/-! ### spec.l9Decided%o -/
def pr75o (f : Int) (l : List Msg) (slot : Int) : Prop := Right f l ∧ bdL l
noncomputable def ro75o (f : Int) (l : List Msg) (slot : Int) : List Int := decidedL f l slot
noncomputable def rb75o (f : Int) (l : List Msg) (slot : Int) : List Blk := [(.arr 1 (ro75o f l slot).length (gL encI (ro75o f l slot)) tagS)]
noncomputable def rs75o (f : Int) (l : List Msg) (slot : Int) : V := .osl 0 (ro75o f l slot).length
noncomputable def sp75o : FSpec := fun args bin => match args, bin with
  | [.int .i64 a0, a1, .int .i64 a2], [] => some (VLe a1 (encL (encMsg 1) 1 (((decL decMsg) a1))) ∧ pr75o a0 ((decL decMsg) a1) a2, rs75o a0 ((decL decMsg) a1) a2, rb75o a0 ((decL decMsg) a1) a2)
  | _, _ => none
noncomputable def in75o_3 (f : Int) (l : List Msg) (slot : Int) : LoopInv :=
  ⟨Nat, fun v => ⟨[(0, .int .i64 f), (1, encL (encMsg 1) 1 l), (2, .int .i64 slot), (7, .osl (canonT 7) (decBelow f l slot v).length), (8, .int .i64 v)], [(canonT 7, .arr 1 (decBelow f l slot v).length (gL encI (decBelow f l slot v)) tagS)]⟩,
    fun v => v ≤ 13, fun v => 13 - v⟩
noncomputable def in75o_7 (f : Int) (l : List Msg) (slot : Int) : LoopInv :=
  ⟨Nat × Nat, fun p => ⟨[(0, .int .i64 f), (1, encL (encMsg 1) 1 l), (2, .int .i64 slot), (7, .osl (canonT 7) (decBelow f l slot p.1).length), (8, .int .i64 p.1), (9, .bool (decide (foundTo f l slot p.1 p.2))), (10, .int .i64 p.2)], [(canonT 7, .arr 1 (decBelow f l slot p.1).length (gL encI (decBelow f l slot p.1)) tagS)]⟩,
    fun p => p.1 < 13 ∧ p.2 ≤ l.length, fun p => l.length - p.2⟩
noncomputable def iv75o (f : Int) (l : List Msg) (slot : Int) : Nat → Option LoopInv := fun rg_ => match rg_ with
  | 3 => some (in75o_3 f l slot)
  | 7 => some (in75o_7 f l slot)
  | _ => none
noncomputable def D75o : Nat → Option (Bool × FSpec) := lk [(90, (false, sp90))]
theorem da75o : SoundAll Try.prog D75o := soundAll_cons so90 (soundAll_nil)
noncomputable def cx75o (f : Int) (l : List Msg) (slot : Int) : Cx := ⟨tt, D75o, Try.f75.ntmps, [0, 1, 2, 6, 7, 8, 9, 10, 11, 14, 24, 50, 61], [(3, ⟨[(0, none), (1, none), (2, none), (7, some 1), (8, none)], []⟩), (7, ⟨[(0, none), (1, none), (2, none), (7, some 1), (8, none), (9, none), (10, none)], []⟩)], [], iv75o f l slot, [], noM, [7]⟩
theorem bd75o (f : Int) (l : List Msg) (slot : Int) (hpre : pr75o f l slot) : bodyO (cx75o f l slot) Try.f75 [(0, 1)] [.int .i64 (f), encL (encMsg 1) 1 (l), .int .i64 (slot)] [] (fun rr bs => VLe rr (rs75o f l slot) ∧ BinLe bs (rb75o f l slot)) := by
  have key :
      ((∃ x : Nat, ((SLe
   (AS.mk
   [(0, V.int IntKind.i64 f), (1, encL (encMsg 1) 1 l),
   (2, V.int IntKind.i64 slot), (7, V.osl 32000512 0),
   (8, V.int IntKind.i64 (0 : Int))]
   [(32000512, Blk.arr 1 0 (rowg []) 100)])
   (AS.mk
   [(0, V.int IntKind.i64 f), (1, encL (encMsg 1) 1 l),
   (2, V.int IntKind.i64 slot), (7, V.osl 32000512 (List.length (decBelow f l slot x))),
   (8, V.int IntKind.i64 (↑x : Int))]
   [(32000512,
   Blk.arr 1 (List.length (decBelow f l slot x)) (gL encI (decBelow f l slot x)) 100)])) ∧
   (x ≤ 13))) ∧
   (∀ x : Nat,
   ((x ≤ 13) →
   (((decide ((↑x : Int) ≤ (12 : Int)) = true) →
   (∃ R : Nat × Nat → Prop, ((∃ x_1 : Nat × Nat, ((SLe
   (AS.mk
   [(0, V.int IntKind.i64 f), (1, encL (encMsg 1) 1 l),
   (2, V.int IntKind.i64 slot), (7, V.osl 32000512 (List.length (decBelow f l slot x))),
   (8, V.int IntKind.i64 (↑x : Int)), (9, V.bool false), (10, V.int IntKind.i64 (0 : Int))]
   [(32000512,
   Blk.arr 1 (List.length (decBelow f l slot x)) (gL encI (decBelow f l slot x)) 100)])
   (AS.mk
   [(0, V.int IntKind.i64 f), (1, encL (encMsg 1) 1 l),
   (2, V.int IntKind.i64 slot),
   (7, V.osl 32000512 (List.length (decBelow f l slot (Prod.fst x_1)))),
   (8, V.int IntKind.i64 (↑(Prod.fst x_1) : Int)),
   (9, V.bool (decide (foundTo f l slot (↑(Prod.fst x_1) : Int) (Prod.snd x_1)))),
   (10, V.int IntKind.i64 (↑(Prod.snd x_1) : Int))]
   [(32000512,
   Blk.arr 1 (List.length (decBelow f l slot (Prod.fst x_1))) (gL encI (decBelow f l slot (Prod.fst x_1)))
   100)])) ∧
   (((Prod.fst x_1 < 13) ∧
   (Prod.snd x_1 ≤ List.length l)) ∧
   (R x_1)))) ∧
   (∀ x_1 : Nat × Nat,
   (((Prod.fst x_1 < 13) ∧
   (Prod.snd x_1 ≤ List.length l)) →
   ((R x_1) →
   ((tq (decide ((↑(Prod.snd x_1) : Int) < (↑(List.length l) : Int)))) ∧
   (((true = true) →
   ((decide ((↑(Prod.snd x_1) : Int) < (↑(List.length l) : Int)) = true) →
   (decide ((↑(Prod.snd x_1) : Int) < (↑(List.length l) : Int)) = true))) ∧
   (∀ b : Bool,
   ((b =
   bif decide ((↑(Prod.snd x_1) : Int) < (↑(List.length l) : Int)) then
   !decide (foundTo f l slot (↑(Prod.fst x_1) : Int) (Prod.snd x_1))
   else false) →
   (((b = true) →
   ((((0 : Int) ≤ (↑(Prod.snd x_1) : Int)) ∧
   ((↑(Prod.snd x_1) : Int) < (↑(List.length l) : Int))) ∧
   ((tq (Msg.kind (List.getD l (Int.toNat (↑(Prod.snd x_1) : Int)) default) == (3 : Int))) ∧
   ((tq (Msg.kind (List.getD l (Int.toNat (↑(Prod.snd x_1) : Int)) default) == (3 : Int))) ∧
   ((tq (Msg.kind (List.getD l (Int.toNat (↑(Prod.snd x_1) : Int)) default) == (3 : Int))) ∧
   ((tq (Msg.kind (List.getD l (Int.toNat (↑(Prod.snd x_1) : Int)) default) == (3 : Int))) ∧
   ((tq (Msg.kind (List.getD l (Int.toNat (↑(Prod.snd x_1) : Int)) default) == (3 : Int))) ∧
   (((true = true) →
   (((Msg.kind (List.getD l (Int.toNat (↑(Prod.snd x_1) : Int)) default) == (3 : Int)) = true) →
   ((Msg.kind (List.getD l (Int.toNat (↑(Prod.snd x_1) : Int)) default) == (3 : Int)) = true))) ∧
   (∀ b_1 : Bool,
   ((b_1 =
   bif Msg.kind (List.getD l (Int.toNat (↑(Prod.snd x_1) : Int)) default) == (3 : Int) then
   Msg.slot (List.getD l (Int.toNat (↑(Prod.snd x_1) : Int)) default) == slot
   else false) →
   ((tq (b_1)) ∧
   ((tq (b_1)) ∧
   ((tq (b_1)) ∧
   ((tq (b_1)) ∧
   ((tq (b_1)) ∧
   (((true = true) →
   ((b_1 = true) →
   (b_1 = true))) ∧
   (∀ b_2 : Bool,
   ((b_2 =
   bif b_1 then Msg.value (List.getD l (Int.toNat (↑(Prod.snd x_1) : Int)) default) == (↑(Prod.fst x_1) : Int) else false) →
   (((b_2 = true) →
   (((VLe (encL (encMsg 1) 1 l)
   (encL (encMsg 1) 1 (decL decMsg (encL (encMsg 1) 1 l)))) ∧
   ((VLe
   (V.agg
   [V.int IntKind.i64 slot, V.int IntKind.i64 (Msg.view (List.getD l (Int.toNat (↑(Prod.snd x_1) : Int)) default)),
   V.int IntKind.i64 (↑(Prod.fst x_1) : Int)])
   (encCert 1
   (decCert
   (V.agg
   [V.int IntKind.i64 slot, V.int IntKind.i64 (Msg.view (List.getD l (Int.toNat (↑(Prod.snd x_1) : Int)) default)),
   V.int IntKind.i64 (↑(Prod.fst x_1) : Int)])))) ∧
   (pr90 f (decL decMsg (encL (encMsg 1) 1 l)) (3 : Int)
   (decCert
   (V.agg
   [V.int IntKind.i64 slot, V.int IntKind.i64 (Msg.view (List.getD l (Int.toNat (↑(Prod.snd x_1) : Int)) default)),
   V.int IntKind.i64 (↑(Prod.fst x_1) : Int)]))))) ∧
   ((inK IntKind.i64 ((↑(Prod.snd x_1) : Int) + (1 : Int))) ∧
   (∃ y : Nat × Nat, ((SLe
   (AS.mk
   [(0, V.int IntKind.i64 f), (1, encL (encMsg 1) 1 l),
   (2, V.int IntKind.i64 slot),
   (7, V.osl 32000512 (List.length (decBelow f l slot (Prod.fst x_1)))),
   (8, V.int IntKind.i64 (↑(Prod.fst x_1) : Int)),
   (9,
   V.bool
   (decide
   ((2 : Int) * f + (1 : Int) ≤
   (↑(List.length
   (votesF f (decL decMsg (encL (encMsg 1) 1 l)) (3 : Int)
   (decCert
   (V.agg
   [V.int IntKind.i64 slot,
   V.int IntKind.i64 (Msg.view (List.getD l (Int.toNat (↑(Prod.snd x_1) : Int)) default)),
   V.int IntKind.i64 (↑(Prod.fst x_1) : Int)])))) :
   Int)))),
   (10, V.int IntKind.i64 ((↑(Prod.snd x_1) : Int) + (1 : Int)))]
   [(32000512,
   Blk.arr 1 (List.length (decBelow f l slot (Prod.fst x_1))) (gL encI (decBelow f l slot (Prod.fst x_1)))
   100)])
   (AS.mk
   [(0, V.int IntKind.i64 f), (1, encL (encMsg 1) 1 l),
   (2, V.int IntKind.i64 slot),
   (7, V.osl 32000512 (List.length (decBelow f l slot (Prod.fst y)))),
   (8, V.int IntKind.i64 (↑(Prod.fst y) : Int)),
   (9, V.bool (decide (foundTo f l slot (↑(Prod.fst y) : Int) (Prod.snd y)))),
   (10, V.int IntKind.i64 (↑(Prod.snd y) : Int))]
   [(32000512,
   Blk.arr 1 (List.length (decBelow f l slot (Prod.fst y))) (gL encI (decBelow f l slot (Prod.fst y)))
   100)])) ∧
   (((Prod.fst y < 13) ∧
   (Prod.snd y ≤ List.length l)) ∧
   ((R y) ∧
   (List.length l - Prod.snd y < List.length l - Prod.snd x_1)))))))) ∧
   ((b_2 = false) →
   ((inK IntKind.i64 ((↑(Prod.snd x_1) : Int) + (1 : Int))) ∧
   (∃ y : Nat × Nat, ((SLe
   (AS.mk
   [(0, V.int IntKind.i64 f), (1, encL (encMsg 1) 1 l),
   (2, V.int IntKind.i64 slot),
   (7, V.osl 32000512 (List.length (decBelow f l slot (Prod.fst x_1)))),
   (8, V.int IntKind.i64 (↑(Prod.fst x_1) : Int)),
   (9, V.bool (decide (foundTo f l slot (↑(Prod.fst x_1) : Int) (Prod.snd x_1)))),
   (10, V.int IntKind.i64 ((↑(Prod.snd x_1) : Int) + (1 : Int)))]
   [(32000512,
   Blk.arr 1 (List.length (decBelow f l slot (Prod.fst x_1))) (gL encI (decBelow f l slot (Prod.fst x_1)))
   100)])
   (AS.mk
   [(0, V.int IntKind.i64 f), (1, encL (encMsg 1) 1 l),
   (2, V.int IntKind.i64 slot),
   (7, V.osl 32000512 (List.length (decBelow f l slot (Prod.fst y)))),
   (8, V.int IntKind.i64 (↑(Prod.fst y) : Int)),
   (9, V.bool (decide (foundTo f l slot (↑(Prod.fst y) : Int) (Prod.snd y)))),
   (10, V.int IntKind.i64 (↑(Prod.snd y) : Int))]
   [(32000512,
   Blk.arr 1 (List.length (decBelow f l slot (Prod.fst y))) (gL encI (decBelow f l slot (Prod.fst y)))
   100)])) ∧
   (((Prod.fst y < 13) ∧
   (Prod.snd y ≤ List.length l)) ∧
   ((R y) ∧
   (List.length l - Prod.snd y < List.length l - Prod.snd x_1)))))))))))))))))))))))))) ∧
   ((b = false) →
   (((decide (foundTo f l slot (↑(Prod.fst x_1) : Int) (Prod.snd x_1)) = true) →
   ((List.length (decBelow f l slot (Prod.fst x_1)) = List.length (decBelow f l slot (Prod.fst x_1))) ∧
   ((List.length (decBelow f l slot (Prod.fst x_1)) + 1 ≤ 1073741824) ∧
   ((sizedL 1 1 (rowg [V.int IntKind.i64 (↑(Prod.fst x_1) : Int)])) ∧
   ((inK IntKind.i64 ((↑(Prod.fst x_1) : Int) + (1 : Int))) ∧
   (∃ y : Nat, ((SLe
   (AS.mk
   [(0, V.int IntKind.i64 f), (1, encL (encMsg 1) 1 l),
   (2, V.int IntKind.i64 slot),
   (7, V.osl 32000512 (List.length (decBelow f l slot (Prod.fst x_1)) + 1)),
   (8, V.int IntKind.i64 ((↑(Prod.fst x_1) : Int) + (1 : Int)))]
   [(32000512,
   Blk.arr 1 (List.length (decBelow f l slot (Prod.fst x_1)) + 1)
   (appg (List.length (decBelow f l slot (Prod.fst x_1))) (gL encI (decBelow f l slot (Prod.fst x_1)))
   (rowg [V.int IntKind.i64 (↑(Prod.fst x_1) : Int)]))
   100)])
   (AS.mk
   [(0, V.int IntKind.i64 f), (1, encL (encMsg 1) 1 l),
   (2, V.int IntKind.i64 slot), (7, V.osl 32000512 (List.length (decBelow f l slot y))),
   (8, V.int IntKind.i64 (↑y : Int))]
   [(32000512,
   Blk.arr 1 (List.length (decBelow f l slot y)) (gL encI (decBelow f l slot y)) 100)])) ∧
   ((y ≤ 13) ∧
   (13 - y < 13 - x))))))))) ∧
   ((decide (foundTo f l slot (↑(Prod.fst x_1) : Int) (Prod.snd x_1)) = false) →
   ((inK IntKind.i64 ((↑(Prod.fst x_1) : Int) + (1 : Int))) ∧
   (∃ y : Nat, ((SLe
   (AS.mk
   [(0, V.int IntKind.i64 f), (1, encL (encMsg 1) 1 l),
   (2, V.int IntKind.i64 slot),
   (7, V.osl 32000512 (List.length (decBelow f l slot (Prod.fst x_1)))),
   (8, V.int IntKind.i64 ((↑(Prod.fst x_1) : Int) + (1 : Int)))]
   [(32000512,
   Blk.arr 1 (List.length (decBelow f l slot (Prod.fst x_1))) (gL encI (decBelow f l slot (Prod.fst x_1)))
   100)])
   (AS.mk
   [(0, V.int IntKind.i64 f), (1, encL (encMsg 1) 1 l),
   (2, V.int IntKind.i64 slot), (7, V.osl 32000512 (List.length (decBelow f l slot y))),
   (8, V.int IntKind.i64 (↑y : Int))]
   [(32000512,
   Blk.arr 1 (List.length (decBelow f l slot y)) (gL encI (decBelow f l slot y)) 100)])) ∧
   ((y ≤ 13) ∧
   (13 - y < 13 - x))))))))))))))))))) ∧
   ((decide ((↑x : Int) ≤ (12 : Int)) = false) →
   ((VLe (V.osl 0 (List.length (decBelow f l slot x))) (V.osl 0 (List.length (ro75o f l slot)))) ∧
   ((BLe (Blk.arr 1 (List.length (decBelow f l slot x)) (gL encI (decBelow f l slot x)) 100)
   (Blk.arr 1 (List.length (ro75o f l slot)) (gL encI (ro75o f l slot)) 100)) ∧
   (True)))))))) := by
    obtain ⟨hr, hl⟩ := hpre
    have h240 := hr.len
    have hc : ∀ a b c : Int, decCert (.agg [.int .i64 a, .int .i64 b, .int .i64 c]) = ⟨a, b, c⟩ := fun _ _ _ => rfl
    simp only [decL_Msg, decL_ints, hc]
    unfold ro75o
    refine ⟨⟨0, sle_of ⟨rfl, VLe.refl _, rfl, VLe.refl _, rfl, VLe.refl _, rfl, VLe.refl _, rfl, VLe.refl _, trivial⟩ ⟨rfl, ble_nil _, trivial⟩, by omega⟩, fun v hv => ⟨fun h => ?_, fun h => ?_⟩⟩
    · have hv13 : v < 13 := by simp at h; omega
      have hbl := decBelow_len f l slot v
      have hbs := decBelow_succ f l slot v
      have h00 : ¬ foundTo f l slot v 0 := by rintro ⟨j, hj, _⟩; omega
      refine ⟨fun p => p.1 = v, ⟨(v, 0), sle_of ⟨rfl, VLe.refl _, rfl, VLe.refl _, rfl, VLe.refl _, rfl, VLe.refl _, rfl, VLe.refl _, rfl, vle_bool (by simp [h00]), rfl, VLe.refl _, trivial⟩ ⟨rfl, BLe.refl _, trivial⟩, ⟨hv13, by omega⟩, rfl⟩, ?_⟩
      rintro ⟨v', i⟩ ⟨_, hi⟩ hR
      simp only at hR
      subst hR
      simp only at hi ⊢
      simp only [Int.toNat_natCast]
      repeat (first | (refine And.intro (fun h _ => h) ?_) | (refine And.intro (fun _ h => h) ?_) | (refine And.intro ?aa ?_; case aa => (exact trivial)) | (refine And.intro ?aa ?_; case aa => (intros; simp_all [pr90]; done)) | (refine And.intro ?aa ?_; case aa => (intros; exact inK64 (by omega))) | (refine And.intro ?aa ?_; case aa => (intros; simp only [decide_eq_true_eq] at *; omega)) | (intro q hq))
      have e0 : q = decide (i < l.length ∧ ¬ foundTo f l slot v' i) := by
        subst_vars
        rw [Bool.eq_iff_iff]
        simp
      clear hq
      refine ⟨fun h => ?_, fun h => ?_⟩
      · rw [e0] at h
        obtain ⟨hlt, hnf⟩ := of_decide_eq_true h
        have hfs := found_succ (f := f) (l := l) (s := slot) (v := v') (i := i)
        refine ⟨⟨by omega, by omega⟩, ?_⟩
        repeat (first | (refine And.intro (fun h _ => h) ?_) | (refine And.intro (fun _ h => h) ?_) | (refine And.intro ?aa ?_; case aa => (exact trivial)) | (refine And.intro ?aa ?_; case aa => (intros; simp_all [pr90]; done)) | (refine And.intro ?aa ?_; case aa => (intros; exact inK64 (by omega))) | (refine And.intro ?aa ?_; case aa => (intros; simp only [decide_eq_true_eq] at *; omega)) | (intro q hq))
        have e1 : q = decide ((l.getD i default).kind = 3 ∧ (l.getD i default).slot = slot ∧ (l.getD i default).value = v') := by
          subst_vars
          rw [Bool.eq_iff_iff]
          simp [and_assoc]
        clear hq
        refine ⟨fun h2 => ?_, fun h2 => ?_⟩
        · rw [e1] at h2
          obtain ⟨a1, a2, a3⟩ := of_decide_eq_true h2
          have b1 : foundTo f l slot v' (i + 1) ↔ enough f l 3 ⟨slot, (l.getD i default).view, v'⟩ := by
            rw [hfs]
            constructor
            · rintro (g | g)
              · exact absurd g hnf
              · exact g.2.2.2
            · exact fun g => .inr ⟨a1, a2, a3, g⟩
          refine ⟨⟨VLe.refl _, VLe.refl _, hr.okf, hl⟩, inK64 (by omega), (v', i + 1), sle_of ⟨rfl, VLe.refl _, rfl, VLe.refl _, rfl, VLe.refl _, rfl, VLe.refl _, rfl, VLe.refl _, rfl, vle_bool (by rw [Bool.eq_iff_iff, decide_eq_true_eq, decide_eq_true_eq, b1, enough]), rfl, vle_int (by simp only [Int.natCast_add, Int.cast_ofNat_Int]), trivial⟩ ⟨rfl, BLe.refl _, trivial⟩, ⟨hv13, by simp only; omega⟩, rfl, by simp only; omega⟩
        · rw [e1] at h2
          have h3 := of_decide_eq_false h2
          have b1 : foundTo f l slot v' i ↔ foundTo f l slot v' (i + 1) := by
            rw [hfs]
            constructor
            · exact fun g => .inl g
            · rintro (g | g)
              · exact g
              · exact absurd ⟨g.1, g.2.1, g.2.2.1⟩ h3
          refine ⟨inK64 (by omega), (v', i + 1), sle_of ⟨rfl, VLe.refl _, rfl, VLe.refl _, rfl, VLe.refl _, rfl, VLe.refl _, rfl, VLe.refl _, rfl, vle_bool (by rw [decide_eq_decide, b1]), rfl, vle_int (by simp only [Int.natCast_add, Int.cast_ofNat_Int]), trivial⟩ ⟨rfl, BLe.refl _, trivial⟩, ⟨hv13, by simp only; omega⟩, rfl, by simp only; omega⟩
      · rw [e0] at h
        have h3 := of_decide_eq_false h
        have hd : foundTo f l slot v' i ↔ decidedV f l slot v' := by
          rw [← found_all]
          by_cases hf : foundTo f l slot v' i
          · obtain ⟨j, hj, h4⟩ := hf
            exact ⟨fun _ => ⟨j, by omega, h4⟩, fun _ => ⟨j, hj, h4⟩⟩
          · have : i = l.length := by
              rcases Nat.lt_or_ge i l.length with h5 | h5
              · exact absurd ⟨h5, hf⟩ h3
              · omega
            rw [this]
        refine ⟨fun h4 => ⟨trivial, by omega, fun k hk => ?_, inK64 (by omega), v' + 1, ?_, by omega, by omega⟩, fun h4 => ⟨inK64 (by omega), v' + 1, ?_, by omega, by omega⟩⟩
        · have hk0 : k = 0 := by omega
          subst hk0
          exact ⟨rfl, rfl⟩
        · have h5 := hd.1 (of_decide_eq_true h4)
          rw [if_pos h5] at hbs
          rw [hbs, List.length_append]
          exact sle_of ⟨rfl, VLe.refl _, rfl, VLe.refl _, rfl, VLe.refl _, rfl, VLe.refl _, rfl, vle_int (by omega), trivial⟩ ⟨rfl, ble_push rfl rfl, trivial⟩
        · have h5 : ¬ decidedV f l slot v' := fun g => (of_decide_eq_false h4) (hd.2 g)
          rw [if_neg h5, List.append_nil] at hbs
          rw [hbs]
          exact sle_of ⟨rfl, VLe.refl _, rfl, VLe.refl _, rfl, VLe.refl _, rfl, VLe.refl _, rfl, vle_int (by omega), trivial⟩ ⟨rfl, BLe.refl _, trivial⟩
    · have : v = 13 := by simp at h; omega
      subst this
      exact ⟨VLe.refl _, BLe.refl _, trivial⟩
  exact Eq.mp (by kernel_rfl) key
theorem so75o : Sound Try.prog 75 sp75o := by
  refine sound_of_bodyO hmix (tpl := [(0, 1)]) Try.func75 rfl (by kernel_rfl) fun args bin ob r bout hDe hob => ?_
  unfold sp75o at hDe
  split at hDe
  · rename_i a0 a1 a2
    cases hDe
    exact ⟨Nat.le_of_ble_eq_true (by kernel_rfl), cx75o a0 ((decL decMsg) a1) a2, Eq.mp (by kernel_rfl) htt, Eq.mp (by kernel_rfl) da75o, Eq.mp (by kernel_rfl) (noM_sound (P := Try.prog)), by kernel_rfl, [.int .i64 (a0), encL (encMsg 1) 1 (((decL decMsg) a1)), .int .i64 (a2)], [], args_of_vles (⟨VLe.refl _, hob.1, VLe.refl _, trivial⟩), trivial, Eq.mp (by kernel_rfl) (bd75o a0 ((decL decMsg) a1) a2 (hob.2))⟩
  · cases hDe

/-! ### impl.logOf%o -/
def pr43o (f : Int) (l : List Msg) : Prop := Right f l ∧ bdL l
noncomputable def ro43o (f : Int) (l : List Msg) : List Int := logL f l
noncomputable def rb43o (f : Int) (l : List Msg) : List Blk := [(.arr 1 (ro43o f l).length (gL encI (ro43o f l)) tagS)]
noncomputable def rs43o (f : Int) (l : List Msg) : V := .osl 0 (ro43o f l).length
noncomputable def sp43o : FSpec := fun args bin => match args, bin with
  | [.int .i64 a0, a1], [] => some (VLe a1 (encL (encMsg 1) 1 (((decL decMsg) a1))) ∧ pr43o a0 ((decL decMsg) a1), rs43o a0 ((decL decMsg) a1), rb43o a0 ((decL decMsg) a1))
  | _, _ => none
noncomputable def in43o_3 (f : Int) (l : List Msg) : LoopInv :=
  ⟨Nat × List Int, fun p => ⟨[(0, .int .i64 f), (1, encL (encMsg 1) 1 l), (5, .osl (canonT 5) p.2.length), (6, .int .i64 (p.1 + 1))], [(canonT 5, .arr 1 p.2.length (gL encI p.2) tagS)]⟩,
    fun p => p.1 ≤ 30 ∧ p.2.length ≤ p.1 ∧ logL f l = p.2 ++ logFrom f l (p.1 + 1) (30 - p.1), fun p => 30 - p.1⟩
noncomputable def iv43o (f : Int) (l : List Msg) : Nat → Option LoopInv := fun rg_ => match rg_ with
  | 3 => some (in43o_3 f l)
  | _ => none
noncomputable def D43o : Nat → Option (Bool × FSpec) := lk [(46, (false, sp46o))]
theorem da43o : SoundAll Try.prog D43o := soundAll_cons so46o (soundAll_nil)
noncomputable def cx43o (f : Int) (l : List Msg) : Cx := ⟨tt, D43o, Try.f43.ntmps, [0, 1, 4, 5, 6, 7, 10, 19], [(3, ⟨[(0, none), (1, none), (5, some 1), (6, none)], []⟩)], [], iv43o f l, [], noM, []⟩
theorem bd43o (f : Int) (l : List Msg) (hpre : pr43o f l) : bodyO (cx43o f l) Try.f43 [(0, 1)] [.int .i64 (f), encL (encMsg 1) 1 (l)] [] (fun rr bs => VLe rr (rs43o f l) ∧ BinLe bs (rb43o f l)) := by
  have key :
      ((∃ x : Nat × List Int, ((SLe
   (AS.mk
   [(0, V.int IntKind.i64 f), (1, encL (encMsg 1) 1 l),
   (5, V.osl 32000384 0), (6, V.int IntKind.i64 (1 : Int))]
   [(32000384, Blk.arr 1 0 (rowg []) 100)])
   (AS.mk
   [(0, V.int IntKind.i64 f), (1, encL (encMsg 1) 1 l),
   (5, V.osl 32000384 (List.length (Prod.snd x))),
   (6, V.int IntKind.i64 ((↑(Prod.fst x) : Int) + (1 : Int)))]
   [(32000384, Blk.arr 1 (List.length (Prod.snd x)) (gL encI (Prod.snd x)) 100)])) ∧
   ((Prod.fst x ≤ 30) ∧
   ((List.length (Prod.snd x) ≤ Prod.fst x) ∧
   (logL f l = Prod.snd x ++ logFrom f l (Prod.fst x + 1) (30 - Prod.fst x)))))) ∧
   (∀ x : Nat × List Int,
   (((Prod.fst x ≤ 30) ∧
   ((List.length (Prod.snd x) ≤ Prod.fst x) ∧
   (logL f l = Prod.snd x ++ logFrom f l (Prod.fst x + 1) (30 - Prod.fst x)))) →
   (((decide ((↑(Prod.fst x) : Int) + (1 : Int) ≤ (30 : Int)) = true) →
   (((VLe (encL (encMsg 1) 1 l)
   (encL (encMsg 1) 1 (decL decMsg (encL (encMsg 1) 1 l)))) ∧
   (pr46o f (decL decMsg (encL (encMsg 1) 1 l)) ((↑(Prod.fst x) : Int) + (1 : Int)))) ∧
   (((((↑(List.length (ro46o f (decL decMsg (encL (encMsg 1) 1 l)) ((↑(Prod.fst x) : Int) + (1 : Int)))) :
   Int) ==
   (0 : Int)) =
   true) →
   ((VLe (V.osl 0 (List.length (Prod.snd x))) (V.osl 0 (List.length (ro43o f l)))) ∧
   ((BLe (Blk.arr 1 (List.length (Prod.snd x)) (gL encI (Prod.snd x)) 100)
   (Blk.arr 1 (List.length (ro43o f l)) (gL encI (ro43o f l)) 100)) ∧
   (True)))) ∧
   ((((↑(List.length (ro46o f (decL decMsg (encL (encMsg 1) 1 l)) ((↑(Prod.fst x) : Int) + (1 : Int)))) :
   Int) ==
   (0 : Int)) =
   false) →
   ((((0 : Int) ≤ (0 : Int)) ∧
   ((0 : Int) <
   (↑(List.length (ro46o f (decL decMsg (encL (encMsg 1) 1 l)) ((↑(Prod.fst x) : Int) + (1 : Int)))) :
   Int))) ∧
   ((0 <
   List.length (ro46o f (decL decMsg (encL (encMsg 1) 1 l)) ((↑(Prod.fst x) : Int) + (1 : Int)))) ∧
   ((List.length (Prod.snd x) = List.length (Prod.snd x)) ∧
   ((List.length (Prod.snd x) + 1 ≤ 1073741824) ∧
   ((sizedL 1 1
   (rowg
   [V.int IntKind.i64
   (List.getD (ro46o f (decL decMsg (encL (encMsg 1) 1 l)) ((↑(Prod.fst x) : Int) + (1 : Int)))
   0 default)])) ∧
   ((inK IntKind.i64 ((↑(Prod.fst x) : Int) + (1 : Int) + (1 : Int))) ∧
   (∃ y : Nat × List Int, ((SLe
   (AS.mk
   [(0, V.int IntKind.i64 f), (1, encL (encMsg 1) 1 l),
   (5, V.osl 32000384 (List.length (Prod.snd x) + 1)),
   (6, V.int IntKind.i64 ((↑(Prod.fst x) : Int) + (1 : Int) + (1 : Int)))]
   [(32000384,
   Blk.arr 1 (List.length (Prod.snd x) + 1)
   (appg (List.length (Prod.snd x)) (gL encI (Prod.snd x))
   (rowg
   [V.int IntKind.i64
   (List.getD
   (ro46o f (decL decMsg (encL (encMsg 1) 1 l)) ((↑(Prod.fst x) : Int) + (1 : Int)))
   0 default)]))
   100)])
   (AS.mk
   [(0, V.int IntKind.i64 f), (1, encL (encMsg 1) 1 l),
   (5, V.osl 32000384 (List.length (Prod.snd y))),
   (6, V.int IntKind.i64 ((↑(Prod.fst y) : Int) + (1 : Int)))]
   [(32000384, Blk.arr 1 (List.length (Prod.snd y)) (gL encI (Prod.snd y)) 100)])) ∧
   (((Prod.fst y ≤ 30) ∧
   ((List.length (Prod.snd y) ≤ Prod.fst y) ∧
   (logL f l = Prod.snd y ++ logFrom f l (Prod.fst y + 1) (30 - Prod.fst y)))) ∧
   (30 - Prod.fst y < 30 - Prod.fst x)))))))))))))) ∧
   ((decide ((↑(Prod.fst x) : Int) + (1 : Int) ≤ (30 : Int)) = false) →
   ((VLe (V.osl 0 (List.length (Prod.snd x))) (V.osl 0 (List.length (ro43o f l)))) ∧
   ((BLe (Blk.arr 1 (List.length (Prod.snd x)) (gL encI (Prod.snd x)) 100)
   (Blk.arr 1 (List.length (ro43o f l)) (gL encI (ro43o f l)) 100)) ∧
   (True)))))))) := by
    obtain ⟨hr, hl⟩ := hpre
    simp only [decL_Msg, ro46o, ro43o]
    refine ⟨⟨(0, []), sle_of ⟨rfl, VLe.refl _, rfl, VLe.refl _, rfl, VLe.refl _, rfl, VLe.refl _, trivial⟩ ⟨rfl, ble_nil _, trivial⟩, by simp, by simp, by simp [logL]⟩, ?_⟩
    rintro ⟨i, out⟩ ⟨hi, ho, hj⟩
    simp only at hi ho hj ⊢
    refine ⟨fun h => ?_, fun h => ?_⟩
    · have hlt : i < 30 := by simp at h; omega
      have hs : logFrom f l (i + 1) (30 - i) = match decidedL f l ((i : Int) + 1) with
        | [] => []
        | v :: _ => v :: logFrom f l (i + 1 + 1) (30 - (i + 1)) := by
        have e1 : 30 - i = (30 - (i + 1)) + 1 := by omega
        rw [e1]
        rfl
      refine ⟨⟨VLe.refl _, hr, hl⟩, fun h2 => ?_, fun h2 => ?_⟩
      · have hn : decidedL f l ((i : Int) + 1) = [] := List.length_eq_zero_iff.1 (by simpa using h2)
        rw [hn] at hs
        rw [hj, hs, List.append_nil]
        exact ⟨VLe.refl _, BLe.refl _, trivial⟩
      · have hn : decidedL f l ((i : Int) + 1) ≠ [] := fun e => by rw [e] at h2; simp at h2
        obtain ⟨v, r, he⟩ : ∃ v r, decidedL f l ((i : Int) + 1) = v :: r := by
          cases hc : decidedL f l ((i : Int) + 1) with
          | nil => exact absurd hc hn
          | cons v r => exact ⟨v, r, rfl⟩
        rw [he] at hs ⊢
        simp only at hs
        refine ⟨⟨by omega, by simp only [List.length_cons]; omega⟩, by simp, trivial, by omega, fun k hk => ?_, inK64 (by omega), (i + 1, out ++ [v]), ?_, ⟨by simp only; omega, by simp only [List.length_append, List.length_singleton]; omega, ?_⟩, by simp only; omega⟩
        · have hk0 : k = 0 := by omega
          subst hk0
          exact ⟨rfl, rfl⟩
        · simp only [List.length_append, List.length_singleton]
          exact sle_of ⟨rfl, VLe.refl _, rfl, VLe.refl _, rfl, VLe.refl _, rfl, vle_int (by simp only [Int.natCast_add, Int.cast_ofNat_Int]), trivial⟩ ⟨rfl, ble_push rfl rfl, trivial⟩
        · simp only
          rw [hj, hs]
          simp
    · have : i = 30 := by simp at h; omega
      subst this
      have e : logL f l = out := by rw [hj]; simp [logFrom]
      rw [e]
      exact ⟨VLe.refl _, BLe.refl _, trivial⟩
  exact Eq.mp (by kernel_rfl) key
theorem so43o : Sound Try.prog 43 sp43o := by
  refine sound_of_bodyO hmix (tpl := [(0, 1)]) Try.func43 rfl (by kernel_rfl) fun args bin ob r bout hDe hob => ?_
  unfold sp43o at hDe
  split at hDe
  · rename_i a0 a1
    cases hDe
    exact ⟨Nat.le_of_ble_eq_true (by kernel_rfl), cx43o a0 ((decL decMsg) a1), Eq.mp (by kernel_rfl) htt, Eq.mp (by kernel_rfl) da43o, Eq.mp (by kernel_rfl) (noM_sound (P := Try.prog)), by kernel_rfl, [.int .i64 (a0), encL (encMsg 1) 1 (((decL decMsg) a1))], [], args_of_vles (⟨VLe.refl _, hob.1, trivial⟩), trivial, Eq.mp (by kernel_rfl) (bd43o a0 ((decL decMsg) a1) (hob.2))⟩
  · cases hDe

/-! ### spec.l9Log%o -/
def pr44o (f : Int) (l : List Msg) : Prop := Right f l ∧ bdL l
noncomputable def ro44o (f : Int) (l : List Msg) : List Int := logL f l
noncomputable def rb44o (f : Int) (l : List Msg) : List Blk := [(.arr 1 (ro44o f l).length (gL encI (ro44o f l)) tagS)]
noncomputable def rs44o (f : Int) (l : List Msg) : V := .osl 0 (ro44o f l).length
noncomputable def sp44o : FSpec := fun args bin => match args, bin with
  | [.int .i64 a0, a1], [] => some (VLe a1 (encL (encMsg 1) 1 (((decL decMsg) a1))) ∧ pr44o a0 ((decL decMsg) a1), rs44o a0 ((decL decMsg) a1), rb44o a0 ((decL decMsg) a1))
  | _, _ => none
noncomputable def in44o_3 (f : Int) (l : List Msg) : LoopInv :=
  ⟨Nat × List Int, fun p => ⟨[(0, .int .i64 f), (1, encL (encMsg 1) 1 l), (4, .nil), (5, .osl (canonT 5) p.2.length), (6, .int .i64 (p.1 + 1))], [(canonT 5, .arr 1 p.2.length (gL encI p.2) tagS)]⟩,
    fun p => p.1 ≤ 30 ∧ p.2.length ≤ p.1 ∧ logL f l = p.2 ++ logFrom f l (p.1 + 1) (30 - p.1), fun p => 30 - p.1⟩
noncomputable def iv44o (f : Int) (l : List Msg) : Nat → Option LoopInv := fun rg_ => match rg_ with
  | 3 => some (in44o_3 f l)
  | _ => none
noncomputable def D44o : Nat → Option (Bool × FSpec) := lk [(75, (false, sp75o))]
theorem da44o : SoundAll Try.prog D44o := soundAll_cons so75o (soundAll_nil)
noncomputable def cx44o (f : Int) (l : List Msg) : Cx := ⟨tt, D44o, Try.f44.ntmps, [0, 1, 4, 5, 6, 7, 10, 19], [(3, ⟨[(0, none), (1, none), (4, none), (5, some 1), (6, none)], []⟩)], [], iv44o f l, [], noM, []⟩
theorem bd44o (f : Int) (l : List Msg) (hpre : pr44o f l) : bodyO (cx44o f l) Try.f44 [(0, 1)] [.int .i64 (f), encL (encMsg 1) 1 (l)] [] (fun rr bs => VLe rr (rs44o f l) ∧ BinLe bs (rb44o f l)) := by
  have key :
      ((∃ x : Nat × List Int, ((SLe
   (AS.mk
   [(0, V.int IntKind.i64 f), (1, encL (encMsg 1) 1 l), (4, V.nil),
   (5, V.osl 32000384 0), (6, V.int IntKind.i64 (1 : Int))]
   [(32000384, Blk.arr 1 0 (rowg []) 100)])
   (AS.mk
   [(0, V.int IntKind.i64 f), (1, encL (encMsg 1) 1 l), (4, V.nil),
   (5, V.osl 32000384 (List.length (Prod.snd x))),
   (6, V.int IntKind.i64 ((↑(Prod.fst x) : Int) + (1 : Int)))]
   [(32000384, Blk.arr 1 (List.length (Prod.snd x)) (gL encI (Prod.snd x)) 100)])) ∧
   ((Prod.fst x ≤ 30) ∧
   ((List.length (Prod.snd x) ≤ Prod.fst x) ∧
   (logL f l = Prod.snd x ++ logFrom f l (Prod.fst x + 1) (30 - Prod.fst x)))))) ∧
   (∀ x : Nat × List Int,
   (((Prod.fst x ≤ 30) ∧
   ((List.length (Prod.snd x) ≤ Prod.fst x) ∧
   (logL f l = Prod.snd x ++ logFrom f l (Prod.fst x + 1) (30 - Prod.fst x)))) →
   (((decide ((↑(Prod.fst x) : Int) + (1 : Int) ≤ (30 : Int)) = true) →
   (((VLe (encL (encMsg 1) 1 l)
   (encL (encMsg 1) 1 (decL decMsg (encL (encMsg 1) 1 l)))) ∧
   (pr75o f (decL decMsg (encL (encMsg 1) 1 l)) ((↑(Prod.fst x) : Int) + (1 : Int)))) ∧
   (((((↑(List.length (ro75o f (decL decMsg (encL (encMsg 1) 1 l)) ((↑(Prod.fst x) : Int) + (1 : Int)))) :
   Int) ==
   (0 : Int)) =
   true) →
   ((VLe (V.osl 0 (List.length (Prod.snd x))) (V.osl 0 (List.length (ro44o f l)))) ∧
   ((BLe (Blk.arr 1 (List.length (Prod.snd x)) (gL encI (Prod.snd x)) 100)
   (Blk.arr 1 (List.length (ro44o f l)) (gL encI (ro44o f l)) 100)) ∧
   (True)))) ∧
   ((((↑(List.length (ro75o f (decL decMsg (encL (encMsg 1) 1 l)) ((↑(Prod.fst x) : Int) + (1 : Int)))) :
   Int) ==
   (0 : Int)) =
   false) →
   ((((0 : Int) ≤ (0 : Int)) ∧
   ((0 : Int) <
   (↑(List.length (ro75o f (decL decMsg (encL (encMsg 1) 1 l)) ((↑(Prod.fst x) : Int) + (1 : Int)))) :
   Int))) ∧
   ((0 <
   List.length (ro75o f (decL decMsg (encL (encMsg 1) 1 l)) ((↑(Prod.fst x) : Int) + (1 : Int)))) ∧
   ((List.length (Prod.snd x) = List.length (Prod.snd x)) ∧
   ((List.length (Prod.snd x) + 1 ≤ 1073741824) ∧
   ((sizedL 1 1
   (rowg
   [V.int IntKind.i64
   (List.getD (ro75o f (decL decMsg (encL (encMsg 1) 1 l)) ((↑(Prod.fst x) : Int) + (1 : Int)))
   0 default)])) ∧
   ((inK IntKind.i64 ((↑(Prod.fst x) : Int) + (1 : Int) + (1 : Int))) ∧
   (∃ y : Nat × List Int, ((SLe
   (AS.mk
   [(0, V.int IntKind.i64 f), (1, encL (encMsg 1) 1 l), (4, V.nil),
   (5, V.osl 32000384 (List.length (Prod.snd x) + 1)),
   (6, V.int IntKind.i64 ((↑(Prod.fst x) : Int) + (1 : Int) + (1 : Int)))]
   [(32000384,
   Blk.arr 1 (List.length (Prod.snd x) + 1)
   (appg (List.length (Prod.snd x)) (gL encI (Prod.snd x))
   (rowg
   [V.int IntKind.i64
   (List.getD
   (ro75o f (decL decMsg (encL (encMsg 1) 1 l)) ((↑(Prod.fst x) : Int) + (1 : Int)))
   0 default)]))
   100)])
   (AS.mk
   [(0, V.int IntKind.i64 f), (1, encL (encMsg 1) 1 l), (4, V.nil),
   (5, V.osl 32000384 (List.length (Prod.snd y))),
   (6, V.int IntKind.i64 ((↑(Prod.fst y) : Int) + (1 : Int)))]
   [(32000384, Blk.arr 1 (List.length (Prod.snd y)) (gL encI (Prod.snd y)) 100)])) ∧
   (((Prod.fst y ≤ 30) ∧
   ((List.length (Prod.snd y) ≤ Prod.fst y) ∧
   (logL f l = Prod.snd y ++ logFrom f l (Prod.fst y + 1) (30 - Prod.fst y)))) ∧
   (30 - Prod.fst y < 30 - Prod.fst x)))))))))))))) ∧
   ((decide ((↑(Prod.fst x) : Int) + (1 : Int) ≤ (30 : Int)) = false) →
   ((VLe (V.osl 0 (List.length (Prod.snd x))) (V.osl 0 (List.length (ro44o f l)))) ∧
   ((BLe (Blk.arr 1 (List.length (Prod.snd x)) (gL encI (Prod.snd x)) 100)
   (Blk.arr 1 (List.length (ro44o f l)) (gL encI (ro44o f l)) 100)) ∧
   (True)))))))) := by
    obtain ⟨hr, hl⟩ := hpre
    simp only [decL_Msg, ro75o, ro44o]
    refine ⟨⟨(0, []), sle_of ⟨rfl, VLe.refl _, rfl, VLe.refl _, rfl, VLe.refl _, rfl, VLe.refl _, rfl, VLe.refl _, trivial⟩ ⟨rfl, ble_nil _, trivial⟩, by simp, by simp, by simp [logL]⟩, ?_⟩
    rintro ⟨i, out⟩ ⟨hi, ho, hj⟩
    simp only at hi ho hj ⊢
    refine ⟨fun h => ?_, fun h => ?_⟩
    · have hlt : i < 30 := by simp at h; omega
      have hs : logFrom f l (i + 1) (30 - i) = match decidedL f l ((i : Int) + 1) with
        | [] => []
        | v :: _ => v :: logFrom f l (i + 1 + 1) (30 - (i + 1)) := by
        have e1 : 30 - i = (30 - (i + 1)) + 1 := by omega
        rw [e1]
        rfl
      refine ⟨⟨VLe.refl _, hr, hl⟩, fun h2 => ?_, fun h2 => ?_⟩
      · have hn : decidedL f l ((i : Int) + 1) = [] := List.length_eq_zero_iff.1 (by simpa using h2)
        rw [hn] at hs
        rw [hj, hs, List.append_nil]
        exact ⟨VLe.refl _, BLe.refl _, trivial⟩
      · have hn : decidedL f l ((i : Int) + 1) ≠ [] := fun e => by rw [e] at h2; simp at h2
        obtain ⟨v, r, he⟩ : ∃ v r, decidedL f l ((i : Int) + 1) = v :: r := by
          cases hc : decidedL f l ((i : Int) + 1) with
          | nil => exact absurd hc hn
          | cons v r => exact ⟨v, r, rfl⟩
        rw [he] at hs ⊢
        simp only at hs
        refine ⟨⟨by omega, by simp only [List.length_cons]; omega⟩, by simp, trivial, by omega, fun k hk => ?_, inK64 (by omega), (i + 1, out ++ [v]), ?_, ⟨by simp only; omega, by simp only [List.length_append, List.length_singleton]; omega, ?_⟩, by simp only; omega⟩
        · have hk0 : k = 0 := by omega
          subst hk0
          exact ⟨rfl, rfl⟩
        · simp only [List.length_append, List.length_singleton]
          exact sle_of ⟨rfl, VLe.refl _, rfl, VLe.refl _, rfl, VLe.refl _, rfl, VLe.refl _, rfl, vle_int (by simp only [Int.natCast_add, Int.cast_ofNat_Int]), trivial⟩ ⟨rfl, ble_push rfl rfl, trivial⟩
        · simp only
          rw [hj, hs]
          simp
    · have : i = 30 := by simp at h; omega
      subst this
      have e : logL f l = out := by rw [hj]; simp [logFrom]
      rw [e]
      exact ⟨VLe.refl _, BLe.refl _, trivial⟩
  exact Eq.mp (by kernel_rfl) key
theorem so44o : Sound Try.prog 44 sp44o := by
  refine sound_of_bodyO hmix (tpl := [(0, 1)]) Try.func44 rfl (by kernel_rfl) fun args bin ob r bout hDe hob => ?_
  unfold sp44o at hDe
  split at hDe
  · rename_i a0 a1
    cases hDe
    exact ⟨Nat.le_of_ble_eq_true (by kernel_rfl), cx44o a0 ((decL decMsg) a1), Eq.mp (by kernel_rfl) htt, Eq.mp (by kernel_rfl) da44o, Eq.mp (by kernel_rfl) (noM_sound (P := Try.prog)), by kernel_rfl, [.int .i64 (a0), encL (encMsg 1) 1 (((decL decMsg) a1))], [], args_of_vles (⟨VLe.refl _, hob.1, trivial⟩), trivial, Eq.mp (by kernel_rfl) (bd44o a0 ((decL decMsg) a1) (hob.2))⟩
  · cases hDe

noncomputable def decidedAtF (f : Int) (l : List Msg) (slot : Int) : IntsResult :=
  if ledgerFault f l ≠ 0 then ⟨ledgerFault f l, []⟩ else if ¬ inR slot 1 30 then ⟨3, []⟩ else ⟨0, decidedL f l slot⟩
noncomputable def logOfF (f : Int) (l : List Msg) : IntsResult := if ledgerFault f l ≠ 0 then ⟨ledgerFault f l, []⟩ else ⟨0, logL f l⟩
theorem decidedAtF_len (f : Int) (l : List Msg) (slot : Int) : (decidedAtF f l slot).list.length ≤ 240 := by
  unfold decidedAtF
  split
  · simp
  · split
    · simp
    · exact Nat.le_trans (decBelow_len _ _ _ _) (by omega)
theorem logOfF_len (f : Int) (l : List Msg) : (logOfF f l).list.length ≤ 240 := by
  unfold logOfF
  split
  · simp
  · exact Nat.le_trans (logFrom_len _ _ _ _) (by omega)

/-! ### impl.DecidedAt%o -/
def pr19o (f : Int) (l : List Msg) (slot : Int) : Prop := bdL l
noncomputable def ro19o (f : Int) (l : List Msg) (slot : Int) : IntsResult := decidedAtF f l slot
noncomputable def rb19o (f : Int) (l : List Msg) (slot : Int) : List Blk := [(.arr 1 ((ro19o f l slot).list).length (gL encI ((ro19o f l slot).list)) tagS)]
noncomputable def rs19o (f : Int) (l : List Msg) (slot : Int) : V := .agg [.int .i64 ((ro19o f l slot).code), .osl 0 ((ro19o f l slot).list).length]
noncomputable def sp19o : FSpec := fun args bin => match args, bin with
  | [.int .i64 a0, a1, .int .i64 a2], [] => some (VLe a1 (encL (encMsg 1) 1 (((decL decMsg) a1))) ∧ pr19o a0 ((decL decMsg) a1) a2, rs19o a0 ((decL decMsg) a1) a2, rb19o a0 ((decL decMsg) a1) a2)
  | _, _ => none
noncomputable def D19o : Nat → Option (Bool × FSpec) := lk [(30, (false, sp30)), (45, (false, sp45)), (46, (false, sp46o))]
theorem da19o : SoundAll Try.prog D19o := soundAll_cons so30 (soundAll_cons so45 (soundAll_cons so46o (soundAll_nil)))
noncomputable def cx19o (f : Int) (l : List Msg) (slot : Int) : Cx := ⟨tt, D19o, Try.f19.ntmps, [0, 1, 2, 6, 7, 12, 17], [], [], fun _ => none, [], noM, []⟩
theorem bd19o (f : Int) (l : List Msg) (slot : Int) (hpre : pr19o f l slot) : bodyO (cx19o f l slot) Try.f19 [(1, 1)] [.int .i64 (f), encL (encMsg 1) 1 (l), .int .i64 (slot)] [] (fun rr bs => VLe rr (rs19o f l slot) ∧ BinLe bs (rb19o f l slot)) := by
  have key :
      (((VLe (encL (encMsg 1) 1 l)
   (encL (encMsg 1) 1 (decL decMsg (encL (encMsg 1) 1 l)))) ∧
   (pr30 f (decL decMsg (encL (encMsg 1) 1 l)))) ∧
   ((((ledgerFault f (decL decMsg (encL (encMsg 1) 1 l)) != (0 : Int)) = true) →
   ((VLe
   (V.agg
   [V.int IntKind.i64 (ledgerFault f (decL decMsg (encL (encMsg 1) 1 l))), V.osl 0 0])
   (V.agg
   [V.int IntKind.i64 (IntsResult.code (ro19o f l slot)),
   V.osl 0 (List.length (IntsResult.list (ro19o f l slot)))])) ∧
   ((BLe (Blk.arr 1 0 (fun (x : Nat) ↦ V.undef) 100)
   (Blk.arr 1 (List.length (IntsResult.list (ro19o f l slot))) (gL encI (IntsResult.list (ro19o f l slot)))
   100)) ∧
   (True)))) ∧
   (((ledgerFault f (decL decMsg (encL (encMsg 1) 1 l)) != (0 : Int)) = false) →
   ((pr45 slot) ∧
   ((((!decide (inR slot (1 : Int) (30 : Int))) = true) →
   ((VLe (V.agg [V.int IntKind.i64 (3 : Int), V.osl 0 0])
   (V.agg
   [V.int IntKind.i64 (IntsResult.code (ro19o f l slot)),
   V.osl 0 (List.length (IntsResult.list (ro19o f l slot)))])) ∧
   ((BLe (Blk.arr 1 0 (fun (x : Nat) ↦ V.undef) 100)
   (Blk.arr 1 (List.length (IntsResult.list (ro19o f l slot))) (gL encI (IntsResult.list (ro19o f l slot)))
   100)) ∧
   (True)))) ∧
   (((!decide (inR slot (1 : Int) (30 : Int))) = false) →
   (((VLe (encL (encMsg 1) 1 l)
   (encL (encMsg 1) 1 (decL decMsg (encL (encMsg 1) 1 l)))) ∧
   (pr46o f (decL decMsg (encL (encMsg 1) 1 l)) slot)) ∧
   ((VLe
   (V.agg
   [V.int IntKind.i64 (0 : Int),
   V.osl 0 (List.length (ro46o f (decL decMsg (encL (encMsg 1) 1 l)) slot))])
   (V.agg
   [V.int IntKind.i64 (IntsResult.code (ro19o f l slot)),
   V.osl 0 (List.length (IntsResult.list (ro19o f l slot)))])) ∧
   ((BLe
   (Blk.arr 1 (List.length (ro46o f (decL decMsg (encL (encMsg 1) 1 l)) slot))
   (gL encI (ro46o f (decL decMsg (encL (encMsg 1) 1 l)) slot)) 100)
   (Blk.arr 1 (List.length (IntsResult.list (ro19o f l slot))) (gL encI (IntsResult.list (ro19o f l slot)))
   100)) ∧
   (True)))))))))) := by
    simp only [decL_Msg, ro19o, ro46o]
    refine ⟨⟨VLe.refl _, hpre⟩, fun h => ?_, fun h => ?_⟩
    · have e : decidedAtF f l slot = ⟨ledgerFault f l, []⟩ := if_pos (by simpa using h)
      rw [e]
      exact ⟨VLe.refl _, ble_nil _, trivial⟩
    have h0 : ledgerFault f l = 0 := by simpa using h
    refine ⟨trivial, fun h => ?_, fun h => ?_⟩
    · have e : decidedAtF f l slot = ⟨3, []⟩ := by unfold decidedAtF; rw [if_neg (not_not_intro h0), if_pos (by simpa using h)]
      rw [e]
      exact ⟨VLe.refl _, ble_nil _, trivial⟩
    · have e : decidedAtF f l slot = ⟨0, decidedL f l slot⟩ := by unfold decidedAtF; rw [if_neg (not_not_intro h0), if_neg (by simpa using h)]
      rw [e]
      exact ⟨⟨VLe.refl _, right_of h0, hpre⟩, VLe.refl _, BLe.refl _, trivial⟩
  exact Eq.mp (by kernel_rfl) key
theorem so19o : Sound Try.prog 19 sp19o := by
  refine sound_of_bodyO hmix (tpl := [(1, 1)]) Try.func19 rfl (by kernel_rfl) fun args bin ob r bout hDe hob => ?_
  unfold sp19o at hDe
  split at hDe
  · rename_i a0 a1 a2
    cases hDe
    exact ⟨Nat.le_of_ble_eq_true (by kernel_rfl), cx19o a0 ((decL decMsg) a1) a2, Eq.mp (by kernel_rfl) htt, Eq.mp (by kernel_rfl) da19o, Eq.mp (by kernel_rfl) (noM_sound (P := Try.prog)), by kernel_rfl, [.int .i64 (a0), encL (encMsg 1) 1 (((decL decMsg) a1)), .int .i64 (a2)], [], args_of_vles (⟨VLe.refl _, hob.1, VLe.refl _, trivial⟩), trivial, Eq.mp (by kernel_rfl) (bd19o a0 ((decL decMsg) a1) a2 (hob.2))⟩
  · cases hDe

/-! ### impl.LogOf%o -/
def pr17o (f : Int) (l : List Msg) : Prop := bdL l
noncomputable def ro17o (f : Int) (l : List Msg) : IntsResult := logOfF f l
noncomputable def rb17o (f : Int) (l : List Msg) : List Blk := [(.arr 1 ((ro17o f l).list).length (gL encI ((ro17o f l).list)) tagS)]
noncomputable def rs17o (f : Int) (l : List Msg) : V := .agg [.int .i64 ((ro17o f l).code), .osl 0 ((ro17o f l).list).length]
noncomputable def sp17o : FSpec := fun args bin => match args, bin with
  | [.int .i64 a0, a1], [] => some (VLe a1 (encL (encMsg 1) 1 (((decL decMsg) a1))) ∧ pr17o a0 ((decL decMsg) a1), rs17o a0 ((decL decMsg) a1), rb17o a0 ((decL decMsg) a1))
  | _, _ => none
noncomputable def D17o : Nat → Option (Bool × FSpec) := lk [(30, (false, sp30)), (43, (false, sp43o))]
theorem da17o : SoundAll Try.prog D17o := soundAll_cons so30 (soundAll_cons so43o (soundAll_nil))
noncomputable def cx17o (f : Int) (l : List Msg) : Cx := ⟨tt, D17o, Try.f17.ntmps, [0, 1, 4, 5, 10], [], [], fun _ => none, [], noM, []⟩
theorem bd17o (f : Int) (l : List Msg) (hpre : pr17o f l) : bodyO (cx17o f l) Try.f17 [(1, 1)] [.int .i64 (f), encL (encMsg 1) 1 (l)] [] (fun rr bs => VLe rr (rs17o f l) ∧ BinLe bs (rb17o f l)) := by
  have key :
      (((VLe (encL (encMsg 1) 1 l)
   (encL (encMsg 1) 1 (decL decMsg (encL (encMsg 1) 1 l)))) ∧
   (pr30 f (decL decMsg (encL (encMsg 1) 1 l)))) ∧
   ((((ledgerFault f (decL decMsg (encL (encMsg 1) 1 l)) != (0 : Int)) = true) →
   ((VLe
   (V.agg
   [V.int IntKind.i64 (ledgerFault f (decL decMsg (encL (encMsg 1) 1 l))), V.osl 0 0])
   (V.agg [V.int IntKind.i64 (IntsResult.code (ro17o f l)), V.osl 0 (List.length (IntsResult.list (ro17o f l)))])) ∧
   ((BLe (Blk.arr 1 0 (fun (x : Nat) ↦ V.undef) 100)
   (Blk.arr 1 (List.length (IntsResult.list (ro17o f l))) (gL encI (IntsResult.list (ro17o f l))) 100)) ∧
   (True)))) ∧
   (((ledgerFault f (decL decMsg (encL (encMsg 1) 1 l)) != (0 : Int)) = false) →
   (((VLe (encL (encMsg 1) 1 l)
   (encL (encMsg 1) 1 (decL decMsg (encL (encMsg 1) 1 l)))) ∧
   (pr43o f (decL decMsg (encL (encMsg 1) 1 l)))) ∧
   ((VLe
   (V.agg
   [V.int IntKind.i64 (0 : Int),
   V.osl 0 (List.length (ro43o f (decL decMsg (encL (encMsg 1) 1 l))))])
   (V.agg [V.int IntKind.i64 (IntsResult.code (ro17o f l)), V.osl 0 (List.length (IntsResult.list (ro17o f l)))])) ∧
   ((BLe
   (Blk.arr 1 (List.length (ro43o f (decL decMsg (encL (encMsg 1) 1 l))))
   (gL encI (ro43o f (decL decMsg (encL (encMsg 1) 1 l)))) 100)
   (Blk.arr 1 (List.length (IntsResult.list (ro17o f l))) (gL encI (IntsResult.list (ro17o f l))) 100)) ∧
   (True))))))) := by
    simp only [decL_Msg, ro17o, ro43o]
    refine ⟨⟨VLe.refl _, hpre⟩, fun h => ?_, fun h => ?_⟩
    · have e : logOfF f l = ⟨ledgerFault f l, []⟩ := if_pos (by simpa using h)
      rw [e]
      exact ⟨VLe.refl _, ble_nil _, trivial⟩
    have h0 : ledgerFault f l = 0 := by simpa using h
    have e : logOfF f l = ⟨0, logL f l⟩ := if_neg (not_not_intro h0)
    rw [e]
    exact ⟨⟨VLe.refl _, right_of h0, hpre⟩, VLe.refl _, BLe.refl _, trivial⟩
  exact Eq.mp (by kernel_rfl) key
theorem so17o : Sound Try.prog 17 sp17o := by
  refine sound_of_bodyO hmix (tpl := [(1, 1)]) Try.func17 rfl (by kernel_rfl) fun args bin ob r bout hDe hob => ?_
  unfold sp17o at hDe
  split at hDe
  · rename_i a0 a1
    cases hDe
    exact ⟨Nat.le_of_ble_eq_true (by kernel_rfl), cx17o a0 ((decL decMsg) a1), Eq.mp (by kernel_rfl) htt, Eq.mp (by kernel_rfl) da17o, Eq.mp (by kernel_rfl) (noM_sound (P := Try.prog)), by kernel_rfl, [.int .i64 (a0), encL (encMsg 1) 1 (((decL decMsg) a1))], [], args_of_vles (⟨VLe.refl _, hob.1, trivial⟩), trivial, Eq.mp (by kernel_rfl) (bd17o a0 ((decL decMsg) a1) (hob.2))⟩
  · cases hDe

/-! ### spec.LogOf%o -/
def pr18o (f : Int) (l : List Msg) : Prop := bdL l
noncomputable def ro18o (f : Int) (l : List Msg) : IntsResult := logOfF f l
noncomputable def rb18o (f : Int) (l : List Msg) : List Blk := [(.arr 1 ((ro18o f l).list).length (gL encI ((ro18o f l).list)) tagS)]
noncomputable def rs18o (f : Int) (l : List Msg) : V := .agg [.int .i64 ((ro18o f l).code), .osl 0 ((ro18o f l).list).length]
noncomputable def sp18o : FSpec := fun args bin => match args, bin with
  | [.int .i64 a0, a1], [] => some (VLe a1 (encL (encMsg 1) 1 (((decL decMsg) a1))) ∧ pr18o a0 ((decL decMsg) a1), rs18o a0 ((decL decMsg) a1), rb18o a0 ((decL decMsg) a1))
  | _, _ => none
noncomputable def D18o : Nat → Option (Bool × FSpec) := lk [(33, (false, sp33)), (44, (false, sp44o))]
theorem da18o : SoundAll Try.prog D18o := soundAll_cons so33 (soundAll_cons so44o (soundAll_nil))
noncomputable def cx18o (f : Int) (l : List Msg) : Cx := ⟨tt, D18o, Try.f18.ntmps, [0, 1, 4, 5, 10], [], [], fun _ => none, [], noM, []⟩
theorem bd18o (f : Int) (l : List Msg) (hpre : pr18o f l) : bodyO (cx18o f l) Try.f18 [(1, 1)] [.int .i64 (f), encL (encMsg 1) 1 (l)] [] (fun rr bs => VLe rr (rs18o f l) ∧ BinLe bs (rb18o f l)) := by
  have key :
      (((VLe (encL (encMsg 1) 1 l)
   (encL (encMsg 1) 1 (decL decMsg (encL (encMsg 1) 1 l)))) ∧
   (pr33 f (decL decMsg (encL (encMsg 1) 1 l)))) ∧
   ((((ledgerFault f (decL decMsg (encL (encMsg 1) 1 l)) != (0 : Int)) = true) →
   ((VLe
   (V.agg
   [V.int IntKind.i64 (ledgerFault f (decL decMsg (encL (encMsg 1) 1 l))), V.osl 0 0])
   (V.agg [V.int IntKind.i64 (IntsResult.code (ro18o f l)), V.osl 0 (List.length (IntsResult.list (ro18o f l)))])) ∧
   ((BLe (Blk.arr 1 0 (fun (x : Nat) ↦ V.undef) 100)
   (Blk.arr 1 (List.length (IntsResult.list (ro18o f l))) (gL encI (IntsResult.list (ro18o f l))) 100)) ∧
   (True)))) ∧
   (((ledgerFault f (decL decMsg (encL (encMsg 1) 1 l)) != (0 : Int)) = false) →
   (((VLe (encL (encMsg 1) 1 l)
   (encL (encMsg 1) 1 (decL decMsg (encL (encMsg 1) 1 l)))) ∧
   (pr44o f (decL decMsg (encL (encMsg 1) 1 l)))) ∧
   ((VLe
   (V.agg
   [V.int IntKind.i64 (0 : Int),
   V.osl 0 (List.length (ro44o f (decL decMsg (encL (encMsg 1) 1 l))))])
   (V.agg [V.int IntKind.i64 (IntsResult.code (ro18o f l)), V.osl 0 (List.length (IntsResult.list (ro18o f l)))])) ∧
   ((BLe
   (Blk.arr 1 (List.length (ro44o f (decL decMsg (encL (encMsg 1) 1 l))))
   (gL encI (ro44o f (decL decMsg (encL (encMsg 1) 1 l)))) 100)
   (Blk.arr 1 (List.length (IntsResult.list (ro18o f l))) (gL encI (IntsResult.list (ro18o f l))) 100)) ∧
   (True))))))) := by
    simp only [decL_Msg, ro18o, ro44o]
    refine ⟨⟨VLe.refl _, hpre⟩, fun h => ?_, fun h => ?_⟩
    · have e : logOfF f l = ⟨ledgerFault f l, []⟩ := if_pos (by simpa using h)
      rw [e]
      exact ⟨VLe.refl _, ble_nil _, trivial⟩
    have h0 : ledgerFault f l = 0 := by simpa using h
    have e : logOfF f l = ⟨0, logL f l⟩ := if_neg (not_not_intro h0)
    rw [e]
    exact ⟨⟨VLe.refl _, right_of h0, hpre⟩, VLe.refl _, BLe.refl _, trivial⟩
  exact Eq.mp (by kernel_rfl) key
theorem so18o : Sound Try.prog 18 sp18o := by
  refine sound_of_bodyO hmix (tpl := [(1, 1)]) Try.func18 rfl (by kernel_rfl) fun args bin ob r bout hDe hob => ?_
  unfold sp18o at hDe
  split at hDe
  · rename_i a0 a1
    cases hDe
    exact ⟨Nat.le_of_ble_eq_true (by kernel_rfl), cx18o a0 ((decL decMsg) a1), Eq.mp (by kernel_rfl) htt, Eq.mp (by kernel_rfl) da18o, Eq.mp (by kernel_rfl) (noM_sound (P := Try.prog)), by kernel_rfl, [.int .i64 (a0), encL (encMsg 1) 1 (((decL decMsg) a1))], [], args_of_vles (⟨VLe.refl _, hob.1, trivial⟩), trivial, Eq.mp (by kernel_rfl) (bd18o a0 ((decL decMsg) a1) (hob.2))⟩
  · cases hDe

end Go.Av
