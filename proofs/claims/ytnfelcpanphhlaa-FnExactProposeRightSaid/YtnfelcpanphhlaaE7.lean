/- Votes and certificates: the program. -/
import Derived.Test.YtnfelcpanphhlaaE6
import Derived.Test.YtnfelcpanphhlaaS1
import Derived.Lib.RowBridge
namespace Go.Av
open Go.Proofs
set_option maxRecDepth 100000
set_option linter.unusedVariables false
set_option linter.unusedSimpArgs false

noncomputable def sendersTo (l : List Msg) (kind view slot value : Int) (i : Nat) : List Int := senders (l.take i) kind view slot value
theorem sendersTo_len (l : List Msg) (kind view slot value : Int) (i : Nat) : (sendersTo l kind view slot value i).length ≤ i := by
  unfold sendersTo senders
  rw [List.length_map]
  exact Nat.le_trans (List.length_filter_le _ _) (by simp; omega)
theorem sendersTo_succ {l : List Msg} {kind view slot value : Int} {i : Nat} (hi : i < l.length) :
    sendersTo l kind view slot value (i + 1) = sendersTo l kind view slot value i ++ if (l.getD i default).kind = kind ∧ (l.getD i default).view = view ∧ (l.getD i default).slot = slot ∧ (l.getD i default).value = value then [(l.getD i default).sender] else [] := by
  unfold sendersTo senders
  have h1 : l.take (i + 1) = l.take i ++ [l.getD i default] := by
    rw [List.take_add_one]
    simp [hi]
  rw [h1, List.filter_append, List.map_append]
  congr 1
  by_cases h : (l.getD i default).kind = kind ∧ (l.getD i default).view = view ∧ (l.getD i default).slot = slot ∧ (l.getD i default).value = value
  · rw [if_pos h]
    simp only [List.filter_cons, h, and_self, decide_true, if_true, List.filter_nil, List.map_cons, List.map_nil]
  · rw [if_neg h]
    simp only [List.filter_cons, h, decide_false, List.filter_nil]
    rfl


/-! ### impl.voters -/
def pr126 (l : List Msg) (kind : Int) (view : Int) (slot : Int) (value : Int) : Prop := l.length ≤ 240 ∧ bdL l
noncomputable def rs126 (l : List Msg) (kind : Int) (view : Int) (slot : Int) (value : Int) : V := encL encI 2 (votersF l kind view slot value)
noncomputable def sp126 : FSpec := fun args bin => match args, bin with
  | [a0, .int .i64 a1, .int .i64 a2, .int .i64 a3, .int .i64 a4], [] => some (VLe a0 (encL (encMsg 1) 1 (((decL decMsg) a0))) ∧ pr126 ((decL decMsg) a0) a1 a2 a3 a4, rs126 ((decL decMsg) a0) a1 a2 a3 a4, [])
  | _, _ => none
noncomputable def in126_3 (l : List Msg) (kind : Int) (view : Int) (slot : Int) (value : Int) : LoopInv :=
  ⟨Nat, fun i => ⟨[(0, encL (encMsg 1) 1 l), (1, .int .i64 kind), (2, .int .i64 view), (3, .int .i64 slot), (4, .int .i64 value), (11, .osl (canonT 11) (sendersTo l kind view slot value i).length), (15, encL (encMsg 1) 1 l), (16, .int .i64 l.length), (17, .int .i64 i)], [(canonT 11, .arr 1 (sendersTo l kind view slot value i).length (gL encI (sendersTo l kind view slot value i)) tagS)]⟩,
    fun i => i ≤ l.length, fun i => l.length - i⟩
noncomputable def iv126 (l : List Msg) (kind : Int) (view : Int) (slot : Int) (value : Int) : Nat → Option LoopInv := fun rg_ => match rg_ with
  | 3 => some (in126_3 l kind view slot value)
  | _ => none
noncomputable def D126 : Nat → Option (Bool × FSpec) := lk [(161, (true, sp161)), (162, (true, sp162))]
theorem da126 : SoundAll Try.prog D126 := soundAll_cons so161 (soundAll_cons so162 (soundAll_nil))
noncomputable def cx126 (l : List Msg) (kind : Int) (view : Int) (slot : Int) (value : Int) : Cx := ⟨tt, D126, Try.f126.ntmps, [0, 1, 2, 3, 4, 10, 11, 13, 15, 16, 17, 18, 42], [(3, ⟨[(0, none), (1, none), (2, none), (3, none), (4, none), (11, some 1), (15, none), (16, none), (17, none)], []⟩)], [], iv126 l kind view slot value, [], noM, []⟩
theorem bd126 (l : List Msg) (kind : Int) (view : Int) (slot : Int) (value : Int) (hpre : pr126 l kind view slot value) : bodyP (cx126 l kind view slot value) Try.f126 1 [encL (encMsg 1) 1 (l), .int .i64 (kind), .int .i64 (view), .int .i64 (slot), .int .i64 (value)] (fun rr => VLe rr (rs126 l kind view slot value)) := by
  have key :
      ((∃ x : Nat, ((SLe
   (AS.mk
   [(0, encL (encMsg 1) 1 l), (1, V.int IntKind.i64 kind),
   (2, V.int IntKind.i64 view), (3, V.int IntKind.i64 slot), (4, V.int IntKind.i64 value),
   (11, V.osl 32000768 0), (15, encL (encMsg 1) 1 l),
   (16, V.int IntKind.i64 (↑(List.length l) : Int)), (17, V.int IntKind.i64 (0 : Int))]
   [(32000768, Blk.arr 1 0 (rowg []) 100)])
   (AS.mk
   [(0, encL (encMsg 1) 1 l), (1, V.int IntKind.i64 kind),
   (2, V.int IntKind.i64 view), (3, V.int IntKind.i64 slot), (4, V.int IntKind.i64 value),
   (11, V.osl 32000768 (List.length (sendersTo l kind view slot value x))),
   (15, encL (encMsg 1) 1 l), (16, V.int IntKind.i64 (↑(List.length l) : Int)),
   (17, V.int IntKind.i64 (↑x : Int))]
   [(32000768,
   Blk.arr 1 (List.length (sendersTo l kind view slot value x))
   (gL encI (sendersTo l kind view slot value x)) 100)])) ∧
   (x ≤ List.length l))) ∧
   (∀ x : Nat,
   ((x ≤ List.length l) →
   (((decide ((↑x : Int) < (↑(List.length l) : Int)) = true) →
   ((((0 : Int) ≤ (↑x : Int)) ∧
   ((↑x : Int) < (↑(List.length l) : Int))) ∧
   ((tq (Msg.kind (List.getD l (Int.toNat (↑x : Int)) default) == kind)) ∧
   ((tq (Msg.kind (List.getD l (Int.toNat (↑x : Int)) default) == kind)) ∧
   ((tq (Msg.kind (List.getD l (Int.toNat (↑x : Int)) default) == kind)) ∧
   (((true = true) →
   (((Msg.kind (List.getD l (Int.toNat (↑x : Int)) default) == kind) = true) →
   ((Msg.kind (List.getD l (Int.toNat (↑x : Int)) default) == kind) = true))) ∧
   (∀ b : Bool,
   ((b =
   bif Msg.kind (List.getD l (Int.toNat (↑x : Int)) default) == kind then
   Msg.view (List.getD l (Int.toNat (↑x : Int)) default) == view
   else false) →
   ((tq (b)) ∧
   ((tq (b)) ∧
   ((tq (b)) ∧
   (((true = true) →
   ((b = true) →
   (b = true))) ∧
   (∀ b_1 : Bool,
   ((b_1 = bif b then Msg.slot (List.getD l (Int.toNat (↑x : Int)) default) == slot else false) →
   ((tq (b_1)) ∧
   ((tq (b_1)) ∧
   ((tq (b_1)) ∧
   (((true = true) →
   ((b_1 = true) →
   (b_1 = true))) ∧
   (∀ b_2 : Bool,
   ((b_2 = bif b_1 then Msg.value (List.getD l (Int.toNat (↑x : Int)) default) == value else false) →
   (((b_2 = true) →
   ((List.length (sendersTo l kind view slot value x) = List.length (sendersTo l kind view slot value x)) ∧
   ((List.length (sendersTo l kind view slot value x) + 1 ≤ 1073741824) ∧
   ((sizedL 1 1 (rowg [V.int IntKind.i64 (Msg.sender (List.getD l (Int.toNat (↑x : Int)) default))])) ∧
   ((inK IntKind.i64 ((↑x : Int) + (1 : Int))) ∧
   (∃ y : Nat, ((SLe
   (AS.mk
   [(0, encL (encMsg 1) 1 l), (1, V.int IntKind.i64 kind),
   (2, V.int IntKind.i64 view), (3, V.int IntKind.i64 slot), (4, V.int IntKind.i64 value),
   (11, V.osl 32000768 (List.length (sendersTo l kind view slot value x) + 1)),
   (15, encL (encMsg 1) 1 l), (16, V.int IntKind.i64 (↑(List.length l) : Int)),
   (17, V.int IntKind.i64 ((↑x : Int) + (1 : Int)))]
   [(32000768,
   Blk.arr 1 (List.length (sendersTo l kind view slot value x) + 1)
   (appg (List.length (sendersTo l kind view slot value x)) (gL encI (sendersTo l kind view slot value x))
   (rowg [V.int IntKind.i64 (Msg.sender (List.getD l (Int.toNat (↑x : Int)) default))]))
   100)])
   (AS.mk
   [(0, encL (encMsg 1) 1 l), (1, V.int IntKind.i64 kind),
   (2, V.int IntKind.i64 view), (3, V.int IntKind.i64 slot), (4, V.int IntKind.i64 value),
   (11, V.osl 32000768 (List.length (sendersTo l kind view slot value y))),
   (15, encL (encMsg 1) 1 l), (16, V.int IntKind.i64 (↑(List.length l) : Int)),
   (17, V.int IntKind.i64 (↑y : Int))]
   [(32000768,
   Blk.arr 1 (List.length (sendersTo l kind view slot value y))
   (gL encI (sendersTo l kind view slot value y)) 100)])) ∧
   ((y ≤ List.length l) ∧
   (List.length l - y < List.length l - x))))))))) ∧
   ((b_2 = false) →
   ((inK IntKind.i64 ((↑x : Int) + (1 : Int))) ∧
   (∃ y : Nat, ((SLe
   (AS.mk
   [(0, encL (encMsg 1) 1 l), (1, V.int IntKind.i64 kind),
   (2, V.int IntKind.i64 view), (3, V.int IntKind.i64 slot), (4, V.int IntKind.i64 value),
   (11, V.osl 32000768 (List.length (sendersTo l kind view slot value x))),
   (15, encL (encMsg 1) 1 l), (16, V.int IntKind.i64 (↑(List.length l) : Int)),
   (17, V.int IntKind.i64 ((↑x : Int) + (1 : Int)))]
   [(32000768,
   Blk.arr 1 (List.length (sendersTo l kind view slot value x))
   (gL encI (sendersTo l kind view slot value x)) 100)])
   (AS.mk
   [(0, encL (encMsg 1) 1 l), (1, V.int IntKind.i64 kind),
   (2, V.int IntKind.i64 view), (3, V.int IntKind.i64 slot), (4, V.int IntKind.i64 value),
   (11, V.osl 32000768 (List.length (sendersTo l kind view slot value y))),
   (15, encL (encMsg 1) 1 l), (16, V.int IntKind.i64 (↑(List.length l) : Int)),
   (17, V.int IntKind.i64 (↑y : Int))]
   [(32000768,
   Blk.arr 1 (List.length (sendersTo l kind view slot value y))
   (gL encI (sendersTo l kind view slot value y)) 100)])) ∧
   ((y ≤ List.length l) ∧
   (List.length l - y < List.length l - x))))))))))))))))))))))))))) ∧
   ((decide ((↑x : Int) < (↑(List.length l) : Int)) = false) →
   (((List.length (sendersTo l kind view slot value x) = List.length (sendersTo l kind view slot value x)) ∧
   ((List.length (sendersTo l kind view slot value x) < 4611686018427387904) ∧
   (ints (List.length (sendersTo l kind view slot value x)) (gL encI (sendersTo l kind view slot value x))))) ∧
   ((List.length (sendersTo l kind view slot value x) = List.length (sendersTo l kind view slot value x)) ∧
   (((List.length (sendersTo l kind view slot value x) = List.length (sendersTo l kind view slot value x)) ∧
   ((List.length (sendersTo l kind view slot value x) < 4611686018427387904) ∧
   ((ints (List.length (sendersTo l kind view slot value x))
   (gL encI
   (sortI (rowI (List.length (sendersTo l kind view slot value x)) (gL encI (sendersTo l kind view slot value x)))))) ∧
   (List.length
   (Lib.compact
   (rowI (List.length (sendersTo l kind view slot value x))
   (gL encI
   (sortI
   (rowI (List.length (sendersTo l kind view slot value x))
   (gL encI (sendersTo l kind view slot value x))))))) ≤
   List.length (sendersTo l kind view slot value x))))) ∧
   ((List.length (sendersTo l kind view slot value x) = List.length (sendersTo l kind view slot value x)) ∧
   (VLe
   (V.sl
   (List.length
   (Lib.compact
   (rowI (List.length (sendersTo l kind view slot value x))
   (gL encI
   (sortI
   (rowI (List.length (sendersTo l kind view slot value x))
   (gL encI (sendersTo l kind view slot value x))))))))
   (gL encI
   (compI
   (rowI (List.length (sendersTo l kind view slot value x))
   (gL encI
   (sortI
   (rowI (List.length (sendersTo l kind view slot value x))
   (gL encI (sendersTo l kind view slot value x))))))))
   2)
   (encL encI 2 (votersF l kind view slot value)))))))))))) := by
    obtain ⟨h240, hl⟩ := hpre
    refine ⟨⟨0, ?_, by omega⟩, ?_⟩
    · refine sle_of ⟨rfl, VLe.refl _, rfl, VLe.refl _, rfl, VLe.refl _, rfl, VLe.refl _, rfl, VLe.refl _, rfl, VLe.refl _, rfl, VLe.refl _, rfl, VLe.refl _, rfl, VLe.refl _, trivial⟩ ⟨rfl, ?_, trivial⟩
      exact ble_arr (fun i hi => by simp at hi) (Or.inl rfl)
    · intro i hi
      have hlen := sendersTo_len l kind view slot value i
      refine ⟨fun h => ?_, fun h => ?_⟩
      · have hlt : i < l.length := by simpa using h
        have hs := sendersTo_succ (kind := kind) (view := view) (slot := slot) (value := value) hlt
        simp only [Int.toNat_natCast]
        refine ⟨⟨by omega, by omega⟩, ?_⟩
        repeat (first | (refine And.intro (fun h _ => h) ?_) | (refine And.intro (fun _ h => h) ?_) | (refine And.intro ?aa ?_; case aa => (simp [pr161, pr162]; done)) | (refine And.intro ?aa ?_; case aa => (simp_all [pr161, pr162]; done)) | (refine And.intro ?aa ?_; case aa => (intros; exact inK64 (by omega))) | (refine And.intro ?aa ?_; case aa => (intros; simp only [decide_eq_true_eq] at *; omega)) | (intro q hq))
        have e0 : q = decide ((l.getD i default).kind = kind ∧ (l.getD i default).view = view ∧ (l.getD i default).slot = slot ∧ (l.getD i default).value = value) := by
          subst_vars
          rw [Bool.eq_iff_iff]
          simp [and_assoc]
        clear hq
        refine ⟨fun h2 => ⟨trivial, by omega, fun k hk => ?_, inK64 (by omega), i + 1, ?_, by omega, by omega⟩, fun h2 => ⟨inK64 (by omega), i + 1, ?_, by omega, by omega⟩⟩
        · have hk0 : k = 0 := by omega
          subst hk0
          exact ⟨rfl, rfl⟩
        · rw [e0] at h2
          rw [if_pos (of_decide_eq_true h2)] at hs
          rw [hs]
          simp only [List.length_append, List.length_singleton]
          refine sle_of ⟨rfl, VLe.refl _, rfl, VLe.refl _, rfl, VLe.refl _, rfl, VLe.refl _, rfl, VLe.refl _, rfl, VLe.refl _, rfl, VLe.refl _, rfl, VLe.refl _, rfl, vle_int (by omega), trivial⟩ ⟨rfl, ?_, trivial⟩
          refine ble_arr (fun k hk => ELe.of_eq ?_) (Or.inl rfl)
          simp only [appg, gL]
          by_cases hk' : k < (sendersTo l kind view slot value i).length
          · rw [if_pos hk']
            simp [List.getElem?_append_left hk']
          · have hk0 : k = (sendersTo l kind view slot value i).length := by omega
            subst hk0
            rw [if_neg (Nat.lt_irrefl _)]
            simp [rowg, allInt, encI]
        · rw [e0] at h2
          rw [if_neg (of_decide_eq_false h2), List.append_nil] at hs
          rw [hs]
          exact sle_of ⟨rfl, VLe.refl _, rfl, VLe.refl _, rfl, VLe.refl _, rfl, VLe.refl _, rfl, VLe.refl _, rfl, VLe.refl _, rfl, VLe.refl _, rfl, VLe.refl _, rfl, vle_int (by omega), trivial⟩ ⟨rfl, BLe.refl _, trivial⟩
      · have he : i = l.length := by simp at h; omega
        have hS : sendersTo l kind view slot value i = senders l kind view slot value := by
          subst he
          unfold sendersTo
          rw [List.take_length]
        have r1 := rowI_gL (sendersTo l kind view slot value i)
        have r2 := rowI_gL (sortI (sendersTo l kind view slot value i))
        rw [sortI_len] at r2
        have hcl := Lib.compact_length_le (sortI (sendersTo l kind view slot value i))
        rw [sortI_len] at hcl
        simp only [r1, r2]
        refine ⟨⟨trivial, by omega, ints_gL _ _⟩, trivial, ⟨trivial, by omega, ints_gL _ _, hcl⟩, trivial, ?_⟩
        have hv : votersF l kind view slot value = Lib.compact (sortI (sendersTo l kind view slot value i)) := by
          unfold votersF
          rw [hS]
        rw [hv]
        refine vle_encL_eq rfl (fun k hk => ?_) (Or.inl rfl)
        have hk2 : k < (compI (sortI (sendersTo l kind view slot value i))).length := by
          unfold compI
          rw [List.length_append]
          omega
        rw [gL_lt _ _ _ hk2]
        exact congrArg encI (List.getElem_append_left hk)
  exact Eq.mp (by kernel_rfl) key
theorem so126 : Sound Try.prog 126 sp126 := by
  refine sound_of_body hmix (pol := 1) Try.func126 rfl (by kernel_rfl) fun args bin ob r bout hDe hob => ?_
  unfold sp126 at hDe
  split at hDe
  · rename_i a0 a1 a2 a3 a4
    cases hDe
    exact ⟨rfl, rfl, Nat.le_of_ble_eq_true (by kernel_rfl), cx126 ((decL decMsg) a0) a1 a2 a3 a4, Eq.mp (by kernel_rfl) htt, Eq.mp (by kernel_rfl) da126, Eq.mp (by kernel_rfl) (noM_sound (P := Try.prog)), by kernel_rfl, [encL (encMsg 1) 1 (((decL decMsg) a0)), .int .i64 (a1), .int .i64 (a2), .int .i64 (a3), .int .i64 (a4)], args_of_vles (⟨hob.1, VLe.refl _, VLe.refl _, VLe.refl _, VLe.refl _, trivial⟩), Eq.mp (by kernel_rfl) (bd126 ((decL decMsg) a0) a1 a2 a3 a4 (hob.2))⟩
  · cases hDe

/-! ### impl.isEnough -/
def pr156 (f : Int) (l : List Msg) (kind : Int) (view : Int) (slot : Int) (value : Int) : Prop := okF f ∧ l.length ≤ 240 ∧ bdL l
noncomputable def rs156 (f : Int) (l : List Msg) (kind : Int) (view : Int) (slot : Int) (value : Int) : V := .bool (decide (2 * f + 1 ≤ ((votersF l kind view slot value).length : Int)))
noncomputable def sp156 : FSpec := fun args bin => match args, bin with
  | [.int .i64 a0, a1, .int .i64 a2, .int .i64 a3, .int .i64 a4, .int .i64 a5], [] => some (VLe a1 (encL (encMsg 1) 1 (((decL decMsg) a1))) ∧ pr156 a0 ((decL decMsg) a1) a2 a3 a4 a5, rs156 a0 ((decL decMsg) a1) a2 a3 a4 a5, [])
  | _, _ => none
noncomputable def D156 : Nat → Option (Bool × FSpec) := lk [(126, (false, sp126))]
theorem da156 : SoundAll Try.prog D156 := soundAll_cons so126 (soundAll_nil)
noncomputable def cx156 (f : Int) (l : List Msg) (kind : Int) (view : Int) (slot : Int) (value : Int) : Cx := ⟨tt, D156, Try.f156.ntmps, [0, 1, 2, 3, 4, 5, 12], [], [], fun _ => none, [], noM, []⟩
theorem bd156 (f : Int) (l : List Msg) (kind : Int) (view : Int) (slot : Int) (value : Int) (hpre : pr156 f l kind view slot value) : bodyP (cx156 f l kind view slot value) Try.f156 0 [.int .i64 (f), encL (encMsg 1) 1 (l), .int .i64 (kind), .int .i64 (view), .int .i64 (slot), .int .i64 (value)] (fun rr => VLe rr (rs156 f l kind view slot value)) := by
  have key :
      (((VLe (encL (encMsg 1) 1 l)
   (encL (encMsg 1) 1 (decL decMsg (encL (encMsg 1) 1 l)))) ∧
   (pr126 (decL decMsg (encL (encMsg 1) 1 l)) kind view slot value)) ∧
   ((inK IntKind.i64 ((2 : Int) * f)) ∧
   ((inK IntKind.i64 ((2 : Int) * f + (1 : Int))) ∧
   (VLe
   (V.bool
   (decide
   ((↑(List.length (votersF (decL decMsg (encL (encMsg 1) 1 l)) kind view slot value)) : Int) ≥
   (2 : Int) * f + (1 : Int))))
   (V.bool (decide ((2 : Int) * f + (1 : Int) ≤ (↑(List.length (votersF l kind view slot value)) : Int)))))))) := by
    obtain ⟨hf, h240, hl⟩ := hpre
    have hf' : 1 ≤ f ∧ f ≤ 2 := by unfold okF at hf; omega
    simp only [decL_Msg]
    exact ⟨⟨VLe.refl _, h240, hl⟩, inK64 (by omega), inK64 (by omega), vle_bool rfl⟩
  exact Eq.mp (by kernel_rfl) key
theorem so156 : Sound Try.prog 156 sp156 := by
  refine sound_of_body hmix (pol := 0) Try.func156 rfl (by kernel_rfl) fun args bin ob r bout hDe hob => ?_
  unfold sp156 at hDe
  split at hDe
  · rename_i a0 a1 a2 a3 a4 a5
    cases hDe
    exact ⟨rfl, rfl, Nat.le_of_ble_eq_true (by kernel_rfl), cx156 a0 ((decL decMsg) a1) a2 a3 a4 a5, Eq.mp (by kernel_rfl) htt, Eq.mp (by kernel_rfl) da156, Eq.mp (by kernel_rfl) (noM_sound (P := Try.prog)), by kernel_rfl, [.int .i64 (a0), encL (encMsg 1) 1 (((decL decMsg) a1)), .int .i64 (a2), .int .i64 (a3), .int .i64 (a4), .int .i64 (a5)], args_of_vles (⟨VLe.refl _, hob.1, VLe.refl _, VLe.refl _, VLe.refl _, VLe.refl _, trivial⟩), Eq.mp (by kernel_rfl) (bd156 a0 ((decL decMsg) a1) a2 a3 a4 a5 (hob.2))⟩
  · cases hDe

/-- A certificate that enough prepared, as the program reckons it. -/
def certOk (f : Int) (l : List Msg) (c : Cert) : Prop := inR c.slot 1 30 ∧ inR c.view 0 20 ∧ inR c.value 0 12 ∧ 2 * f + 1 ≤ ((votersF l 2 c.view c.slot c.value).length : Int)
noncomputable instance (f : Int) (l : List Msg) (c : Cert) : Decidable (certOk f l c) := Classical.propDecidable _

/-! ### impl.certRight -/
def pr120 (f : Int) (l : List Msg) (c : Cert) : Prop := okF f ∧ l.length ≤ 240 ∧ bdL l
noncomputable def rs120 (f : Int) (l : List Msg) (c : Cert) : V := .bool (decide (certOk f l c))
noncomputable def sp120 : FSpec := fun args bin => match args, bin with
  | [.int .i64 a0, a1, a2], [] => some (VLe a1 (encL (encMsg 1) 1 (((decL decMsg) a1))) ∧ VLe a2 (encCert 1 ((decCert a2))) ∧ pr120 a0 ((decL decMsg) a1) (decCert a2), rs120 a0 ((decL decMsg) a1) (decCert a2), [])
  | _, _ => none
noncomputable def D120 : Nat → Option (Bool × FSpec) := lk [(130, (false, sp130)), (84, (false, sp84)), (143, (false, sp143)), (156, (false, sp156))]
theorem da120 : SoundAll Try.prog D120 := soundAll_cons so130 (soundAll_cons so84 (soundAll_cons so143 (soundAll_cons so156 (soundAll_nil))))
noncomputable def cx120 (f : Int) (l : List Msg) (c : Cert) : Cx := ⟨tt, D120, Try.f120.ntmps, [0, 1, 2, 5, 6], [], [], fun _ => none, [], noM, []⟩
theorem bd120 (f : Int) (l : List Msg) (c : Cert) (hpre : pr120 f l c) : bodyP (cx120 f l c) Try.f120 0 [.int .i64 (f), encL (encMsg 1) 1 (l), encCert 1 (c)] (fun rr => VLe rr (rs120 f l c)) := by
  have key :
      ((pr130 (Cert.slot c)) ∧
   ((tq (decide (inR (Cert.slot c) (1 : Int) (30 : Int)))) ∧
   ((tq (decide (inR (Cert.slot c) (1 : Int) (30 : Int)))) ∧
   (((decide (inR (Cert.slot c) (1 : Int) (30 : Int)) = true) →
   (pr84 (Cert.view c))) ∧
   (((true = true) →
   ((decide (inR (Cert.slot c) (1 : Int) (30 : Int)) = true) →
   (decide (inR (Cert.slot c) (1 : Int) (30 : Int)) = true))) ∧
   (∀ b : Bool,
   ((b = bif decide (inR (Cert.slot c) (1 : Int) (30 : Int)) then decide (inR (Cert.view c) (0 : Int) (20 : Int)) else false) →
   ((tq (b)) ∧
   ((tq (b)) ∧
   (((b = true) →
   (pr143 (Cert.value c))) ∧
   (((true = true) →
   ((b = true) →
   (b = true))) ∧
   (∀ b_1 : Bool,
   ((b_1 = bif b then decide (inR (Cert.value c) (0 : Int) (12 : Int)) else false) →
   ((tq (b_1)) ∧
   ((tq (b_1)) ∧
   ((tq (b_1)) ∧
   ((tq (b_1)) ∧
   ((tq (b_1)) ∧
   ((tq (b_1)) ∧
   ((tq (b_1)) ∧
   ((tq (b_1)) ∧
   (((b_1 = true) →
   ((VLe (encL (encMsg 1) 1 l)
   (encL (encMsg 1) 1 (decL decMsg (encL (encMsg 1) 1 l)))) ∧
   (pr156 f (decL decMsg (encL (encMsg 1) 1 l)) (2 : Int) (Cert.view c) (Cert.slot c) (Cert.value c)))) ∧
   (((true = true) →
   ((b_1 = true) →
   (b_1 = true))) ∧
   (∀ b_2 : Bool,
   ((b_2 =
   bif b_1 then
   decide
   ((2 : Int) * f + (1 : Int) ≤
   (↑(List.length
   (votersF (decL decMsg (encL (encMsg 1) 1 l)) (2 : Int) (Cert.view c) (Cert.slot c)
   (Cert.value c))) :
   Int))
   else false) →
   (VLe (V.bool b_2) (V.bool (decide (certOk f l c))))))))))))))))))))))))))))) := by
    simp only [decL_Msg]
    repeat (first | (refine And.intro ?aa ?_; case aa => (simp [pr130, pr84, pr143, pr156]; done)) | (refine And.intro ?aa ?_; case aa => (intro _; exact ⟨VLe.refl _, hpre⟩)) | (intro q hq))
    subst_vars
    refine vle_bool ?_
    rw [Bool.eq_iff_iff, decide_eq_true_eq]
    unfold certOk
    simp [and_assoc]
  exact Eq.mp (by kernel_rfl) key
theorem so120 : Sound Try.prog 120 sp120 := by
  refine sound_of_body hmix (pol := 0) Try.func120 rfl (by kernel_rfl) fun args bin ob r bout hDe hob => ?_
  unfold sp120 at hDe
  split at hDe
  · rename_i a0 a1 a2
    cases hDe
    exact ⟨rfl, rfl, Nat.le_of_ble_eq_true (by kernel_rfl), cx120 a0 ((decL decMsg) a1) (decCert a2), Eq.mp (by kernel_rfl) htt, Eq.mp (by kernel_rfl) da120, Eq.mp (by kernel_rfl) (noM_sound (P := Try.prog)), by kernel_rfl, [.int .i64 (a0), encL (encMsg 1) 1 (((decL decMsg) a1)), encCert 1 ((decCert a2))], args_of_vles (⟨VLe.refl _, hob.1, hob.2.1, trivial⟩), Eq.mp (by kernel_rfl) (bd120 a0 ((decL decMsg) a1) (decCert a2) (hob.2.2))⟩
  · cases hDe

/-! ### impl.CertRight -/
def pr59 (f : Int) (l : List Msg) (c : Cert) : Prop := bdL l
noncomputable def rs59 (f : Int) (l : List Msg) (c : Cert) : V := .bool (decide (ledgerFault f l = 0 ∧ certOk f l c))
noncomputable def sp59 : FSpec := fun args bin => match args, bin with
  | [.int .i64 a0, a1, a2], [] => some (VLe a1 (encL (encMsg 1) 1 (((decL decMsg) a1))) ∧ VLe a2 (encCert 1 ((decCert a2))) ∧ pr59 a0 ((decL decMsg) a1) (decCert a2), rs59 a0 ((decL decMsg) a1) (decCert a2), [])
  | _, _ => none
noncomputable def D59 : Nat → Option (Bool × FSpec) := lk [(37, (false, sp37)), (120, (false, sp120))]
theorem da59 : SoundAll Try.prog D59 := soundAll_cons so37 (soundAll_cons so120 (soundAll_nil))
noncomputable def cx59 (f : Int) (l : List Msg) (c : Cert) : Cx := ⟨tt, D59, Try.f59.ntmps, [0, 1, 2, 5, 6], [], [], fun _ => none, [], noM, []⟩
theorem bd59 (f : Int) (l : List Msg) (c : Cert) (hpre : pr59 f l c) : bodyP (cx59 f l c) Try.f59 0 [.int .i64 (f), encL (encMsg 1) 1 (l), encCert 1 (c)] (fun rr => VLe rr (rs59 f l c)) := by
  have key :
      (((VLe (encL (encMsg 1) 1 l)
   (encL (encMsg 1) 1 (decL decMsg (encL (encMsg 1) 1 l)))) ∧
   (pr37 f (decL decMsg (encL (encMsg 1) 1 l)))) ∧
   ((tq (ledgerFault f (decL decMsg (encL (encMsg 1) 1 l)) == (0 : Int))) ∧
   ((tq (ledgerFault f (decL decMsg (encL (encMsg 1) 1 l)) == (0 : Int))) ∧
   ((tq (ledgerFault f (decL decMsg (encL (encMsg 1) 1 l)) == (0 : Int))) ∧
   ((((ledgerFault f (decL decMsg (encL (encMsg 1) 1 l)) == (0 : Int)) = true) →
   ((VLe (encL (encMsg 1) 1 l)
   (encL (encMsg 1) 1 (decL decMsg (encL (encMsg 1) 1 l)))) ∧
   ((VLe (encCert 1 c) (encCert 1 (decCert (encCert 1 c)))) ∧
   (pr120 f (decL decMsg (encL (encMsg 1) 1 l)) (decCert (encCert 1 c)))))) ∧
   (((true = true) →
   (((ledgerFault f (decL decMsg (encL (encMsg 1) 1 l)) == (0 : Int)) = true) →
   ((ledgerFault f (decL decMsg (encL (encMsg 1) 1 l)) == (0 : Int)) = true))) ∧
   (∀ b : Bool,
   ((b =
   bif ledgerFault f (decL decMsg (encL (encMsg 1) 1 l)) == (0 : Int) then
   decide (certOk f (decL decMsg (encL (encMsg 1) 1 l)) (decCert (encCert 1 c)))
   else false) →
   (VLe (V.bool b) (V.bool (decide (ledgerFault f l = (0 : Int) ∧ certOk f l c)))))))))))) := by
    simp only [decL_Msg, dec_encCert]
    repeat (first | (refine And.intro ?aa ?_; case aa => (exact ⟨VLe.refl _, hpre⟩)) | (refine And.intro ?aa ?_; case aa => (simp [pr37, pr120]; done)) | (refine And.intro ?aa ?_; case aa => (intro hg; have hr := right_of (eq_of_beq hg); exact ⟨VLe.refl _, VLe.refl _, hr.okf, hr.len, hpre⟩)) | (intro q hq))
    subst_vars
    refine vle_bool ?_
    rw [Bool.eq_iff_iff]
    simp
  exact Eq.mp (by kernel_rfl) key
theorem so59 : Sound Try.prog 59 sp59 := by
  refine sound_of_body hmix (pol := 0) Try.func59 rfl (by kernel_rfl) fun args bin ob r bout hDe hob => ?_
  unfold sp59 at hDe
  split at hDe
  · rename_i a0 a1 a2
    cases hDe
    exact ⟨rfl, rfl, Nat.le_of_ble_eq_true (by kernel_rfl), cx59 a0 ((decL decMsg) a1) (decCert a2), Eq.mp (by kernel_rfl) htt, Eq.mp (by kernel_rfl) da59, Eq.mp (by kernel_rfl) (noM_sound (P := Try.prog)), by kernel_rfl, [.int .i64 (a0), encL (encMsg 1) 1 (((decL decMsg) a1)), encCert 1 ((decCert a2))], args_of_vles (⟨VLe.refl _, hob.1, hob.2.1, trivial⟩), Eq.mp (by kernel_rfl) (bd59 a0 ((decL decMsg) a1) (decCert a2) (hob.2.2))⟩
  · cases hDe

/-! ### spec.CertRight -/
def pr57 (f : Int) (l : List Msg) (c : Cert) : Prop := bdL l
noncomputable def rs57 (f : Int) (l : List Msg) (c : Cert) : V := .bool (decide (ledgerFault f l = 0 ∧ inR c.slot 1 30 ∧ inR c.view 0 20 ∧ inR c.value 0 12 ∧ 2 * f + 1 ≤ ((votesF f l 2 c).length : Int)))
noncomputable def sp57 : FSpec := fun args bin => match args, bin with
  | [.int .i64 a0, a1, a2], [] => some (VLe a1 (encL (encMsg 1) 1 (((decL decMsg) a1))) ∧ VLe a2 (encCert 1 ((decCert a2))) ∧ pr57 a0 ((decL decMsg) a1) (decCert a2), rs57 a0 ((decL decMsg) a1) (decCert a2), [])
  | _, _ => none
noncomputable def D57 : Nat → Option (Bool × FSpec) := lk [(95, (false, sp95)), (118, (false, sp118)), (119, (false, sp119))]
theorem da57 : SoundAll Try.prog D57 := soundAll_cons so95 (soundAll_cons so118 (soundAll_cons so119 (soundAll_nil)))
noncomputable def cx57 (f : Int) (l : List Msg) (c : Cert) : Cx := ⟨tt, D57, Try.f57.ntmps, [0, 1, 2, 5, 6], [], [], fun _ => none, [], noM, []⟩
theorem bd57 (f : Int) (l : List Msg) (c : Cert) (hpre : pr57 f l c) : bodyP (cx57 f l c) Try.f57 0 [.int .i64 (f), encL (encMsg 1) 1 (l), encCert 1 (c)] (fun rr => VLe rr (rs57 f l c)) := by
  have key :
      (((VLe (encL (encMsg 1) 1 l)
   (encL (encMsg 1) 1 (decL decMsg (encL (encMsg 1) 1 l)))) ∧
   (pr95 f (decL decMsg (encL (encMsg 1) 1 l)))) ∧
   ((tq (ledgerFault f (decL decMsg (encL (encMsg 1) 1 l)) == (0 : Int))) ∧
   ((((ledgerFault f (decL decMsg (encL (encMsg 1) 1 l)) == (0 : Int)) = true) →
   ((VLe (encCert 1 c) (encCert 1 (decCert (encCert 1 c)))) ∧
   (pr118 (decCert (encCert 1 c))))) ∧
   (((true = true) →
   (((ledgerFault f (decL decMsg (encL (encMsg 1) 1 l)) == (0 : Int)) = true) →
   ((ledgerFault f (decL decMsg (encL (encMsg 1) 1 l)) == (0 : Int)) = true))) ∧
   (∀ b : Bool,
   ((b =
   bif ledgerFault f (decL decMsg (encL (encMsg 1) 1 l)) == (0 : Int) then
   decide
   (inR (Cert.slot (decCert (encCert 1 c))) (1 : Int) (30 : Int) ∧
   inR (Cert.view (decCert (encCert 1 c))) (0 : Int) (20 : Int) ∧
   inR (Cert.value (decCert (encCert 1 c))) (0 : Int) (12 : Int))
   else false) →
   ((tq (b)) ∧
   ((tq (b)) ∧
   ((tq (b)) ∧
   (((b = true) →
   ((VLe (encL (encMsg 1) 1 l)
   (encL (encMsg 1) 1 (decL decMsg (encL (encMsg 1) 1 l)))) ∧
   ((VLe (encCert 1 c) (encCert 1 (decCert (encCert 1 c)))) ∧
   (pr119 f (decL decMsg (encL (encMsg 1) 1 l)) (2 : Int) (decCert (encCert 1 c)))))) ∧
   (((true = true) →
   ((b = true) →
   (b = true))) ∧
   (∀ b_1 : Bool,
   ((b_1 =
   bif b then
   decide
   ((2 : Int) * f + (1 : Int) ≤
   (↑(List.length
   (votesF f (decL decMsg (encL (encMsg 1) 1 l)) (2 : Int)
   (decCert (encCert 1 c)))) :
   Int))
   else false) →
   (VLe (V.bool b_1)
   (V.bool
   (decide
   (ledgerFault f l = (0 : Int) ∧
   inR (Cert.slot c) (1 : Int) (30 : Int) ∧
   inR (Cert.view c) (0 : Int) (20 : Int) ∧
   inR (Cert.value c) (0 : Int) (12 : Int) ∧
   (2 : Int) * f + (1 : Int) ≤ (↑(List.length (votesF f l (2 : Int) c)) : Int)))))))))))))))))) := by
    simp only [decL_Msg, dec_encCert]
    repeat (first | (refine And.intro ?aa ?_; case aa => (exact ⟨VLe.refl _, hpre⟩)) | (refine And.intro ?aa ?_; case aa => (simp [pr95, pr118, pr119]; done)) | (refine And.intro ?aa ?_; case aa => (intro hg; rw [hq] at hg; simp at hg; have hr := right_of hg.1; exact ⟨VLe.refl _, VLe.refl _, hr.okf, hpre⟩)) | (intro q hq))
    subst_vars
    refine vle_bool ?_
    rw [Bool.eq_iff_iff]
    simp [and_assoc]
  exact Eq.mp (by kernel_rfl) key
theorem so57 : Sound Try.prog 57 sp57 := by
  refine sound_of_body hmix (pol := 0) Try.func57 rfl (by kernel_rfl) fun args bin ob r bout hDe hob => ?_
  unfold sp57 at hDe
  split at hDe
  · rename_i a0 a1 a2
    cases hDe
    exact ⟨rfl, rfl, Nat.le_of_ble_eq_true (by kernel_rfl), cx57 a0 ((decL decMsg) a1) (decCert a2), Eq.mp (by kernel_rfl) htt, Eq.mp (by kernel_rfl) da57, Eq.mp (by kernel_rfl) (noM_sound (P := Try.prog)), by kernel_rfl, [.int .i64 (a0), encL (encMsg 1) 1 (((decL decMsg) a1)), encCert 1 ((decCert a2))], args_of_vles (⟨VLe.refl _, hob.1, hob.2.1, trivial⟩), Eq.mp (by kernel_rfl) (bd57 a0 ((decL decMsg) a1) (decCert a2) (hob.2.2))⟩
  · cases hDe

end Go.Av
