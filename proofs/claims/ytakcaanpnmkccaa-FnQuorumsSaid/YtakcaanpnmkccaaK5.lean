/- Votes told as the caller's own; the law on votes. -/
import Derived.Test.YtakcaanpnmkccaaK3
import Derived.Test.YtakcaanpnmkccaaP10
namespace Go.Av
open Go.Proofs
set_option maxRecDepth 100000
set_option linter.unusedVariables false
set_option linter.unusedSimpArgs false


/-! ### impl.voters%o -/
def pr32o (l : List Msg) (kind : Int) (view : Int) (slot : Int) (value : Int) : Prop := l.length ≤ 240 ∧ bdL l
noncomputable def ro32o (l : List Msg) (kind : Int) (view : Int) (slot : Int) (value : Int) : List Int := votersF l kind view slot value
noncomputable def rb32o (l : List Msg) (kind : Int) (view : Int) (slot : Int) (value : Int) : List Blk := [(.arr 1 (ro32o l kind view slot value).length (gL encI (ro32o l kind view slot value)) tagS)]
noncomputable def rs32o (l : List Msg) (kind : Int) (view : Int) (slot : Int) (value : Int) : V := .osl 0 (ro32o l kind view slot value).length
noncomputable def sp32o : FSpec := fun args bin => match args, bin with
  | [a0, .int .i64 a1, .int .i64 a2, .int .i64 a3, .int .i64 a4], [] => some (VLe a0 (encL (encMsg 1) 1 (((decL decMsg) a0))) ∧ pr32o ((decL decMsg) a0) a1 a2 a3 a4, rs32o ((decL decMsg) a0) a1 a2 a3 a4, rb32o ((decL decMsg) a0) a1 a2 a3 a4)
  | _, _ => none
noncomputable def in32o_3 (l : List Msg) (kind : Int) (view : Int) (slot : Int) (value : Int) : LoopInv :=
  ⟨Nat, fun i => ⟨[(0, encL (encMsg 1) 1 l), (1, .int .i64 kind), (2, .int .i64 view), (3, .int .i64 slot), (4, .int .i64 value), (11, .osl (canonT 11) (sendersTo l kind view slot value i).length), (15, encL (encMsg 1) 1 l), (16, .int .i64 l.length), (17, .int .i64 i)], [(canonT 11, .arr 1 (sendersTo l kind view slot value i).length (gL encI (sendersTo l kind view slot value i)) tagS)]⟩,
    fun i => i ≤ l.length, fun i => l.length - i⟩
noncomputable def iv32o (l : List Msg) (kind : Int) (view : Int) (slot : Int) (value : Int) : Nat → Option LoopInv := fun rg_ => match rg_ with
  | 3 => some (in32o_3 l kind view slot value)
  | _ => none
noncomputable def D32o : Nat → Option (Bool × FSpec) := lk [(68, (true, sp68)), (69, (true, sp69))]
theorem da32o : SoundAll Try.prog D32o := soundAll_cons so68 (soundAll_cons so69 (soundAll_nil))
noncomputable def cx32o (l : List Msg) (kind : Int) (view : Int) (slot : Int) (value : Int) : Cx := ⟨tt, D32o, Try.f32.ntmps, [0, 1, 2, 3, 4, 10, 11, 13, 15, 16, 17, 18, 42], [(3, ⟨[(0, none), (1, none), (2, none), (3, none), (4, none), (11, some 1), (15, none), (16, none), (17, none)], []⟩)], [], iv32o l kind view slot value, [], noM, []⟩
theorem bd32o (l : List Msg) (kind : Int) (view : Int) (slot : Int) (value : Int) (hpre : pr32o l kind view slot value) : bodyO (cx32o l kind view slot value) Try.f32 [(0, 1)] [encL (encMsg 1) 1 (l), .int .i64 (kind), .int .i64 (view), .int .i64 (slot), .int .i64 (value)] [] (fun rr bs => VLe rr (rs32o l kind view slot value) ∧ BinLe bs (rb32o l kind view slot value)) := by
  have key :
      ((∃ x : Nat, ((SLe
   (AS.mk
   [(0, encL (encMsg 1) 1 l), (1, V.int IntKind.i64 kind),
   (2, V.int IntKind.i64 view), (3, V.int IntKind.i64 slot), (4, V.int IntKind.i64 value),
   (11, V.osl 32000768 0), (15, encL (encMsg 1) 1 l),
   (16, V.int IntKind.i64 (↑(List.length l) : Int)), (17, V.int IntKind.i64 (0 : Int))]
   [(32000768, Blk.arr 1 0 (rowg []) 100)])
   (AS.mk
   [(0, encL (encMsg 1) 1 l), (1, V.int IntKind.i64 kind),
   (2, V.int IntKind.i64 view), (3, V.int IntKind.i64 slot), (4, V.int IntKind.i64 value),
   (11, V.osl 32000768 (List.length (sendersTo l kind view slot value x))),
   (15, encL (encMsg 1) 1 l), (16, V.int IntKind.i64 (↑(List.length l) : Int)),
   (17, V.int IntKind.i64 (↑x : Int))]
   [(32000768,
   Blk.arr 1 (List.length (sendersTo l kind view slot value x))
   (gL encI (sendersTo l kind view slot value x)) 100)])) ∧
   (x ≤ List.length l))) ∧
   (∀ x : Nat,
   ((x ≤ List.length l) →
   (((decide ((↑x : Int) < (↑(List.length l) : Int)) = true) →
   ((((0 : Int) ≤ (↑x : Int)) ∧
   ((↑x : Int) < (↑(List.length l) : Int))) ∧
   ((tq (Msg.kind (List.getD l (Int.toNat (↑x : Int)) default) == kind)) ∧
   ((tq (Msg.kind (List.getD l (Int.toNat (↑x : Int)) default) == kind)) ∧
   ((tq (Msg.kind (List.getD l (Int.toNat (↑x : Int)) default) == kind)) ∧
   (((true = true) →
   (((Msg.kind (List.getD l (Int.toNat (↑x : Int)) default) == kind) = true) →
   ((Msg.kind (List.getD l (Int.toNat (↑x : Int)) default) == kind) = true))) ∧
   (∀ b : Bool,
   ((b =
   bif Msg.kind (List.getD l (Int.toNat (↑x : Int)) default) == kind then
   Msg.view (List.getD l (Int.toNat (↑x : Int)) default) == view
   else false) →
   ((tq (b)) ∧
   ((tq (b)) ∧
   ((tq (b)) ∧
   (((true = true) →
   ((b = true) →
   (b = true))) ∧
   (∀ b_1 : Bool,
   ((b_1 = bif b then Msg.slot (List.getD l (Int.toNat (↑x : Int)) default) == slot else false) →
   ((tq (b_1)) ∧
   ((tq (b_1)) ∧
   ((tq (b_1)) ∧
   (((true = true) →
   ((b_1 = true) →
   (b_1 = true))) ∧
   (∀ b_2 : Bool,
   ((b_2 = bif b_1 then Msg.value (List.getD l (Int.toNat (↑x : Int)) default) == value else false) →
   (((b_2 = true) →
   ((List.length (sendersTo l kind view slot value x) = List.length (sendersTo l kind view slot value x)) ∧
   ((List.length (sendersTo l kind view slot value x) + 1 ≤ 1073741824) ∧
   ((sizedL 1 1 (rowg [V.int IntKind.i64 (Msg.sender (List.getD l (Int.toNat (↑x : Int)) default))])) ∧
   ((inK IntKind.i64 ((↑x : Int) + (1 : Int))) ∧
   (∃ y : Nat, ((SLe
   (AS.mk
   [(0, encL (encMsg 1) 1 l), (1, V.int IntKind.i64 kind),
   (2, V.int IntKind.i64 view), (3, V.int IntKind.i64 slot), (4, V.int IntKind.i64 value),
   (11, V.osl 32000768 (List.length (sendersTo l kind view slot value x) + 1)),
   (15, encL (encMsg 1) 1 l), (16, V.int IntKind.i64 (↑(List.length l) : Int)),
   (17, V.int IntKind.i64 ((↑x : Int) + (1 : Int)))]
   [(32000768,
   Blk.arr 1 (List.length (sendersTo l kind view slot value x) + 1)
   (appg (List.length (sendersTo l kind view slot value x)) (gL encI (sendersTo l kind view slot value x))
   (rowg [V.int IntKind.i64 (Msg.sender (List.getD l (Int.toNat (↑x : Int)) default))]))
   100)])
   (AS.mk
   [(0, encL (encMsg 1) 1 l), (1, V.int IntKind.i64 kind),
   (2, V.int IntKind.i64 view), (3, V.int IntKind.i64 slot), (4, V.int IntKind.i64 value),
   (11, V.osl 32000768 (List.length (sendersTo l kind view slot value y))),
   (15, encL (encMsg 1) 1 l), (16, V.int IntKind.i64 (↑(List.length l) : Int)),
   (17, V.int IntKind.i64 (↑y : Int))]
   [(32000768,
   Blk.arr 1 (List.length (sendersTo l kind view slot value y))
   (gL encI (sendersTo l kind view slot value y)) 100)])) ∧
   ((y ≤ List.length l) ∧
   (List.length l - y < List.length l - x))))))))) ∧
   ((b_2 = false) →
   ((inK IntKind.i64 ((↑x : Int) + (1 : Int))) ∧
   (∃ y : Nat, ((SLe
   (AS.mk
   [(0, encL (encMsg 1) 1 l), (1, V.int IntKind.i64 kind),
   (2, V.int IntKind.i64 view), (3, V.int IntKind.i64 slot), (4, V.int IntKind.i64 value),
   (11, V.osl 32000768 (List.length (sendersTo l kind view slot value x))),
   (15, encL (encMsg 1) 1 l), (16, V.int IntKind.i64 (↑(List.length l) : Int)),
   (17, V.int IntKind.i64 ((↑x : Int) + (1 : Int)))]
   [(32000768,
   Blk.arr 1 (List.length (sendersTo l kind view slot value x))
   (gL encI (sendersTo l kind view slot value x)) 100)])
   (AS.mk
   [(0, encL (encMsg 1) 1 l), (1, V.int IntKind.i64 kind),
   (2, V.int IntKind.i64 view), (3, V.int IntKind.i64 slot), (4, V.int IntKind.i64 value),
   (11, V.osl 32000768 (List.length (sendersTo l kind view slot value y))),
   (15, encL (encMsg 1) 1 l), (16, V.int IntKind.i64 (↑(List.length l) : Int)),
   (17, V.int IntKind.i64 (↑y : Int))]
   [(32000768,
   Blk.arr 1 (List.length (sendersTo l kind view slot value y))
   (gL encI (sendersTo l kind view slot value y)) 100)])) ∧
   ((y ≤ List.length l) ∧
   (List.length l - y < List.length l - x))))))))))))))))))))))))))) ∧
   ((decide ((↑x : Int) < (↑(List.length l) : Int)) = false) →
   (((List.length (sendersTo l kind view slot value x) = List.length (sendersTo l kind view slot value x)) ∧
   ((List.length (sendersTo l kind view slot value x) < 4611686018427387904) ∧
   (ints (List.length (sendersTo l kind view slot value x)) (gL encI (sendersTo l kind view slot value x))))) ∧
   ((List.length (sendersTo l kind view slot value x) = List.length (sendersTo l kind view slot value x)) ∧
   (((List.length (sendersTo l kind view slot value x) = List.length (sendersTo l kind view slot value x)) ∧
   ((List.length (sendersTo l kind view slot value x) < 4611686018427387904) ∧
   ((ints (List.length (sendersTo l kind view slot value x))
   (gL encI
   (sortI (rowI (List.length (sendersTo l kind view slot value x)) (gL encI (sendersTo l kind view slot value x)))))) ∧
   (List.length
   (Lib.compact
   (rowI (List.length (sendersTo l kind view slot value x))
   (gL encI
   (sortI
   (rowI (List.length (sendersTo l kind view slot value x))
   (gL encI (sendersTo l kind view slot value x))))))) ≤
   List.length (sendersTo l kind view slot value x))))) ∧
   ((List.length (sendersTo l kind view slot value x) = List.length (sendersTo l kind view slot value x)) ∧
   ((VLe
   (V.osl 0
   (List.length
   (Lib.compact
   (rowI (List.length (sendersTo l kind view slot value x))
   (gL encI
   (sortI
   (rowI (List.length (sendersTo l kind view slot value x))
   (gL encI (sendersTo l kind view slot value x)))))))))
   (V.osl 0 (List.length (ro32o l kind view slot value)))) ∧
   ((BLe
   (Blk.arr 1
   (List.length
   (Lib.compact
   (rowI (List.length (sendersTo l kind view slot value x))
   (gL encI
   (sortI
   (rowI (List.length (sendersTo l kind view slot value x))
   (gL encI (sendersTo l kind view slot value x))))))))
   (gL encI
   (compI
   (rowI (List.length (sendersTo l kind view slot value x))
   (gL encI
   (sortI
   (rowI (List.length (sendersTo l kind view slot value x))
   (gL encI (sendersTo l kind view slot value x))))))))
   100)
   (Blk.arr 1 (List.length (ro32o l kind view slot value)) (gL encI (ro32o l kind view slot value)) 100)) ∧
   (True)))))))))))) := by
    obtain ⟨h240, hl⟩ := hpre
    refine ⟨⟨0, ?_, by omega⟩, ?_⟩
    · refine sle_of ⟨rfl, VLe.refl _, rfl, VLe.refl _, rfl, VLe.refl _, rfl, VLe.refl _, rfl, VLe.refl _, rfl, VLe.refl _, rfl, VLe.refl _, rfl, VLe.refl _, rfl, VLe.refl _, trivial⟩ ⟨rfl, ?_, trivial⟩
      exact ble_arr (fun i hi => by simp at hi) (Or.inl rfl)
    · intro i hi
      have hlen := sendersTo_len l kind view slot value i
      refine ⟨fun h => ?_, fun h => ?_⟩
      · have hlt : i < l.length := by simpa using h
        have hs := sendersTo_succ (kind := kind) (view := view) (slot := slot) (value := value) hlt
        simp only [Int.toNat_natCast]
        refine ⟨⟨by omega, by omega⟩, ?_⟩
        repeat (first | (refine And.intro (fun h _ => h) ?_) | (refine And.intro (fun _ h => h) ?_) | (refine And.intro ?aa ?_; case aa => (simp [pr68, pr69]; done)) | (refine And.intro ?aa ?_; case aa => (simp_all [pr68, pr69]; done)) | (refine And.intro ?aa ?_; case aa => (intros; exact inK64 (by omega))) | (refine And.intro ?aa ?_; case aa => (intros; simp only [decide_eq_true_eq] at *; omega)) | (intro q hq))
        have e0 : q = decide ((l.getD i default).kind = kind ∧ (l.getD i default).view = view ∧ (l.getD i default).slot = slot ∧ (l.getD i default).value = value) := by
          subst_vars
          rw [Bool.eq_iff_iff]
          simp [and_assoc]
        clear hq
        refine ⟨fun h2 => ⟨trivial, by omega, fun k hk => ?_, inK64 (by omega), i + 1, ?_, by omega, by omega⟩, fun h2 => ⟨inK64 (by omega), i + 1, ?_, by omega, by omega⟩⟩
        · have hk0 : k = 0 := by omega
          subst hk0
          exact ⟨rfl, rfl⟩
        · rw [e0] at h2
          rw [if_pos (of_decide_eq_true h2)] at hs
          rw [hs]
          simp only [List.length_append, List.length_singleton]
          refine sle_of ⟨rfl, VLe.refl _, rfl, VLe.refl _, rfl, VLe.refl _, rfl, VLe.refl _, rfl, VLe.refl _, rfl, VLe.refl _, rfl, VLe.refl _, rfl, VLe.refl _, rfl, vle_int (by omega), trivial⟩ ⟨rfl, ?_, trivial⟩
          refine ble_arr (fun k hk => ELe.of_eq ?_) (Or.inl rfl)
          simp only [appg, gL]
          by_cases hk' : k < (sendersTo l kind view slot value i).length
          · rw [if_pos hk']
            simp [List.getElem?_append_left hk']
          · have hk0 : k = (sendersTo l kind view slot value i).length := by omega
            subst hk0
            rw [if_neg (Nat.lt_irrefl _)]
            simp [rowg, allInt, encI]
        · rw [e0] at h2
          rw [if_neg (of_decide_eq_false h2), List.append_nil] at hs
          rw [hs]
          exact sle_of ⟨rfl, VLe.refl _, rfl, VLe.refl _, rfl, VLe.refl _, rfl, VLe.refl _, rfl, VLe.refl _, rfl, VLe.refl _, rfl, VLe.refl _, rfl, VLe.refl _, rfl, vle_int (by omega), trivial⟩ ⟨rfl, BLe.refl _, trivial⟩
      · have he : i = l.length := by simp at h; omega
        have hS : sendersTo l kind view slot value i = senders l kind view slot value := by
          subst he
          unfold sendersTo
          rw [List.take_length]
        have r1 := rowI_gL (sendersTo l kind view slot value i)
        have r2 := rowI_gL (sortI (sendersTo l kind view slot value i))
        rw [sortI_len] at r2
        have hcl := Lib.compact_length_le (sortI (sendersTo l kind view slot value i))
        rw [sortI_len] at hcl
        simp only [r1, r2]
        refine ⟨⟨trivial, by omega, ints_gL _ _⟩, trivial, ⟨trivial, by omega, ints_gL _ _, hcl⟩, trivial, ?_⟩
        have hv : votersF l kind view slot value = Lib.compact (sortI (sendersTo l kind view slot value i)) := by
          unfold votersF
          rw [hS]
        unfold ro32o
        rw [hv]
        refine ⟨VLe.refl _, ble_arr (fun k hk => ELe.of_eq ?_) (Or.inl rfl), trivial⟩
        have hk2 : k < (compI (sortI (sendersTo l kind view slot value i))).length := by
          unfold compI
          rw [List.length_append]
          omega
        rw [gL_lt _ _ _ hk2, gL_lt _ _ _ hk]
        exact congrArg encI (List.getElem_append_left hk)
  exact Eq.mp (by kernel_rfl) key
theorem so32o : Sound Try.prog 32 sp32o := by
  refine sound_of_bodyO hmix (tpl := [(0, 1)]) Try.func32 rfl (by kernel_rfl) fun args bin ob r bout hDe hob => ?_
  unfold sp32o at hDe
  split at hDe
  · rename_i a0 a1 a2 a3 a4
    cases hDe
    exact ⟨Nat.le_of_ble_eq_true (by kernel_rfl), cx32o ((decL decMsg) a0) a1 a2 a3 a4, Eq.mp (by kernel_rfl) htt, Eq.mp (by kernel_rfl) da32o, Eq.mp (by kernel_rfl) (noM_sound (P := Try.prog)), by kernel_rfl, [encL (encMsg 1) 1 (((decL decMsg) a0)), .int .i64 (a1), .int .i64 (a2), .int .i64 (a3), .int .i64 (a4)], [], args_of_vles (⟨hob.1, VLe.refl _, VLe.refl _, VLe.refl _, VLe.refl _, trivial⟩), trivial, Eq.mp (by kernel_rfl) (bd32o ((decL decMsg) a0) a1 a2 a3 a4 (hob.2))⟩
  · cases hDe

/-! ### spec.l9Votes%o -/
def pr35o (f : Int) (l : List Msg) (kind : Int) (c : Cert) : Prop := okF f ∧ bdL l
noncomputable def ro35o (f : Int) (l : List Msg) (kind : Int) (c : Cert) : List Int := votesF f l kind c
noncomputable def rb35o (f : Int) (l : List Msg) (kind : Int) (c : Cert) : List Blk := [(.arr 1 (ro35o f l kind c).length (gL encI (ro35o f l kind c)) tagS)]
noncomputable def rs35o (f : Int) (l : List Msg) (kind : Int) (c : Cert) : V := .osl 0 (ro35o f l kind c).length
noncomputable def sp35o : FSpec := fun args bin => match args, bin with
  | [.int .i64 a0, a1, .int .i64 a2, a3], [] => some (VLe a1 (encL (encMsg 1) 1 (((decL decMsg) a1))) ∧ VLe a3 (encCert 1 ((decCert a3))) ∧ pr35o a0 ((decL decMsg) a1) a2 (decCert a3), rs35o a0 ((decL decMsg) a1) a2 (decCert a3), rb35o a0 ((decL decMsg) a1) a2 (decCert a3))
  | _, _ => none
noncomputable def in35o_3 (f : Int) (l : List Msg) (kind : Int) (c : Cert) : LoopInv :=
  ⟨Nat, fun i => ⟨[(0, .int .i64 f), (1, encL (encMsg 1) 1 l), (2, .int .i64 kind), (7, .oref 512 0 0), (9, .osl (canonT 9) (votesTo l kind c i).length), (10, .int .i64 ((i : Int) + 1))], [(canonT 9, .arr 1 (votesTo l kind c i).length (gL encI (votesTo l kind c i)) tagS), (512, .box (encCert 1 c).cells)]⟩,
    fun i => (i : Int) ≤ 3 * f + 1, fun i => (3 * f + 1).toNat - i⟩
noncomputable def iv35o (f : Int) (l : List Msg) (kind : Int) (c : Cert) : Nat → Option LoopInv := fun rg_ => match rg_ with
  | 3 => some (in35o_3 f l kind c)
  | _ => none
noncomputable def D35o : Nat → Option (Bool × FSpec) := lk [(57, (false, sp57))]
theorem da35o : SoundAll Try.prog D35o := soundAll_cons so57 (soundAll_nil)
noncomputable def cx35o (f : Int) (l : List Msg) (kind : Int) (c : Cert) : Cx := ⟨tt, D35o, Try.f35.ntmps, [0, 1, 2, 3, 7, 8, 9, 10, 11, 17, 31], [(3, ⟨[(0, none), (1, none), (2, none), (7, none), (9, some 1), (10, none)], [(512, [])]⟩)], [], iv35o f l kind c, [], noM, []⟩
theorem bd35o (f : Int) (l : List Msg) (kind : Int) (c : Cert) (hpre : pr35o f l kind c) : bodyO (cx35o f l kind c) Try.f35 [(0, 1)] [.int .i64 (f), encL (encMsg 1) 1 (l), .int .i64 (kind), encCert 1 (c)] [] (fun rr bs => VLe rr (rs35o f l kind c) ∧ BinLe bs (rb35o f l kind c)) := by
  have key :
      ((∃ x : Nat, ((SLe
   (AS.mk
   [(0, V.int IntKind.i64 f), (1, encL (encMsg 1) 1 l),
   (2, V.int IntKind.i64 kind), (7, V.oref 512 0 0),
   (9, V.osl 32000640 0), (10, V.int IntKind.i64 (1 : Int))]
   [(32000640, Blk.arr 1 0 (rowg []) 100),
   (512,
   Blk.box [V.int IntKind.i64 (Cert.slot c), V.int IntKind.i64 (Cert.view c), V.int IntKind.i64 (Cert.value c)])])
   (AS.mk
   [(0, V.int IntKind.i64 f), (1, encL (encMsg 1) 1 l),
   (2, V.int IntKind.i64 kind), (7, V.oref 512 0 0),
   (9, V.osl 32000640 (List.length (votesTo l kind c x))),
   (10, V.int IntKind.i64 ((↑x : Int) + (1 : Int)))]
   [(32000640,
   Blk.arr 1 (List.length (votesTo l kind c x)) (gL encI (votesTo l kind c x)) 100),
   (512,
   Blk.box [V.int IntKind.i64 (Cert.slot c), V.int IntKind.i64 (Cert.view c), V.int IntKind.i64 (Cert.value c)])])) ∧
   ((↑x : Int) ≤ (3 : Int) * f + (1 : Int)))) ∧
   (∀ x : Nat,
   (((↑x : Int) ≤ (3 : Int) * f + (1 : Int)) →
   ((inK IntKind.i64 ((3 : Int) * f)) ∧
   ((inK IntKind.i64 ((3 : Int) * f + (1 : Int))) ∧
   (((decide ((↑x : Int) + (1 : Int) ≤ (3 : Int) * f + (1 : Int)) = true) →
   (((VLe (encL (encMsg 1) 1 l)
   (encL (encMsg 1) 1 (decL decMsg (encL (encMsg 1) 1 l)))) ∧
   ((VLe
   (V.ptr
   [V.int IntKind.i64 kind, V.int IntKind.i64 (Cert.view c), V.int IntKind.i64 ((↑x : Int) + (1 : Int)),
   V.int IntKind.i64 (Cert.slot c), V.int IntKind.i64 (Cert.value c), V.nil, V.nil]
   0 1)
   (encPMsg 1
   (decPMsg
   (V.ptr
   [V.int IntKind.i64 kind, V.int IntKind.i64 (Cert.view c), V.int IntKind.i64 ((↑x : Int) + (1 : Int)),
   V.int IntKind.i64 (Cert.slot c), V.int IntKind.i64 (Cert.value c), V.nil, V.nil]
   0 1)))) ∧
   (pr57 (decL decMsg (encL (encMsg 1) 1 l))
   (decPMsg
   (V.ptr
   [V.int IntKind.i64 kind, V.int IntKind.i64 (Cert.view c), V.int IntKind.i64 ((↑x : Int) + (1 : Int)),
   V.int IntKind.i64 (Cert.slot c), V.int IntKind.i64 (Cert.value c), V.nil, V.nil]
   0 1))))) ∧
   (((decide
   (msgAt (decL decMsg (encL (encMsg 1) 1 l))
   (decPMsg
   (V.ptr
   [V.int IntKind.i64 kind, V.int IntKind.i64 (Cert.view c), V.int IntKind.i64 ((↑x : Int) + (1 : Int)),
   V.int IntKind.i64 (Cert.slot c), V.int IntKind.i64 (Cert.value c), V.nil, V.nil]
   0 1)) ≥
   (0 : Int)) =
   true) →
   ((List.length (votesTo l kind c x) = List.length (votesTo l kind c x)) ∧
   ((List.length (votesTo l kind c x) + 1 ≤ 1073741824) ∧
   ((sizedL 1 1 (rowg [V.int IntKind.i64 ((↑x : Int) + (1 : Int))])) ∧
   ((inK IntKind.i64 ((↑x : Int) + (1 : Int) + (1 : Int))) ∧
   (∃ y : Nat, ((SLe
   (AS.mk
   [(0, V.int IntKind.i64 f), (1, encL (encMsg 1) 1 l),
   (2, V.int IntKind.i64 kind), (7, V.oref 512 0 0),
   (9, V.osl 32000640 (List.length (votesTo l kind c x) + 1)),
   (10, V.int IntKind.i64 ((↑x : Int) + (1 : Int) + (1 : Int)))]
   [(32000640,
   Blk.arr 1 (List.length (votesTo l kind c x) + 1)
   (appg (List.length (votesTo l kind c x)) (gL encI (votesTo l kind c x))
   (rowg [V.int IntKind.i64 ((↑x : Int) + (1 : Int))]))
   100),
   (512,
   Blk.box [V.int IntKind.i64 (Cert.slot c), V.int IntKind.i64 (Cert.view c), V.int IntKind.i64 (Cert.value c)])])
   (AS.mk
   [(0, V.int IntKind.i64 f), (1, encL (encMsg 1) 1 l),
   (2, V.int IntKind.i64 kind), (7, V.oref 512 0 0),
   (9, V.osl 32000640 (List.length (votesTo l kind c y))),
   (10, V.int IntKind.i64 ((↑y : Int) + (1 : Int)))]
   [(32000640,
   Blk.arr 1 (List.length (votesTo l kind c y)) (gL encI (votesTo l kind c y)) 100),
   (512,
   Blk.box [V.int IntKind.i64 (Cert.slot c), V.int IntKind.i64 (Cert.view c), V.int IntKind.i64 (Cert.value c)])])) ∧
   (((↑y : Int) ≤ (3 : Int) * f + (1 : Int)) ∧
   (Int.toNat ((3 : Int) * f + (1 : Int)) - y < Int.toNat ((3 : Int) * f + (1 : Int)) - x))))))))) ∧
   ((decide
   (msgAt (decL decMsg (encL (encMsg 1) 1 l))
   (decPMsg
   (V.ptr
   [V.int IntKind.i64 kind, V.int IntKind.i64 (Cert.view c), V.int IntKind.i64 ((↑x : Int) + (1 : Int)),
   V.int IntKind.i64 (Cert.slot c), V.int IntKind.i64 (Cert.value c), V.nil, V.nil]
   0 1)) ≥
   (0 : Int)) =
   false) →
   ((inK IntKind.i64 ((↑x : Int) + (1 : Int) + (1 : Int))) ∧
   (∃ y : Nat, ((SLe
   (AS.mk
   [(0, V.int IntKind.i64 f), (1, encL (encMsg 1) 1 l),
   (2, V.int IntKind.i64 kind), (7, V.oref 512 0 0),
   (9, V.osl 32000640 (List.length (votesTo l kind c x))),
   (10, V.int IntKind.i64 ((↑x : Int) + (1 : Int) + (1 : Int)))]
   [(32000640,
   Blk.arr 1 (List.length (votesTo l kind c x)) (gL encI (votesTo l kind c x)) 100),
   (512,
   Blk.box [V.int IntKind.i64 (Cert.slot c), V.int IntKind.i64 (Cert.view c), V.int IntKind.i64 (Cert.value c)])])
   (AS.mk
   [(0, V.int IntKind.i64 f), (1, encL (encMsg 1) 1 l),
   (2, V.int IntKind.i64 kind), (7, V.oref 512 0 0),
   (9, V.osl 32000640 (List.length (votesTo l kind c y))),
   (10, V.int IntKind.i64 ((↑y : Int) + (1 : Int)))]
   [(32000640,
   Blk.arr 1 (List.length (votesTo l kind c y)) (gL encI (votesTo l kind c y)) 100),
   (512,
   Blk.box [V.int IntKind.i64 (Cert.slot c), V.int IntKind.i64 (Cert.view c), V.int IntKind.i64 (Cert.value c)])])) ∧
   (((↑y : Int) ≤ (3 : Int) * f + (1 : Int)) ∧
   (Int.toNat ((3 : Int) * f + (1 : Int)) - y < Int.toNat ((3 : Int) * f + (1 : Int)) - x))))))))) ∧
   ((decide ((↑x : Int) + (1 : Int) ≤ (3 : Int) * f + (1 : Int)) = false) →
   ((VLe (V.osl 0 (List.length (votesTo l kind c x))) (V.osl 0 (List.length (ro35o f l kind c)))) ∧
   ((BLe (Blk.arr 1 (List.length (votesTo l kind c x)) (gL encI (votesTo l kind c x)) 100)
   (Blk.arr 1 (List.length (ro35o f l kind c)) (gL encI (ro35o f l kind c)) 100)) ∧
   (True)))))))))) := by
    obtain ⟨hf, hl⟩ := hpre
    have hf' : 1 ≤ f ∧ f ≤ 2 := by unfold okF at hf; omega
    refine ⟨⟨0, ?_, by omega⟩, ?_⟩
    · refine sle_of ⟨rfl, VLe.refl _, rfl, VLe.refl _, rfl, VLe.refl _, rfl, VLe.refl _, rfl, VLe.refl _, rfl, VLe.refl _, trivial⟩ ⟨rfl, ?_, rfl, BLe.refl _, trivial⟩
      exact ble_arr (fun i hi => by simp at hi) (Or.inl rfl)
    · intro i hi
      have hd : decPMsg (.ptr [.int .i64 kind, .int .i64 c.view, .int .i64 ((i : Int) + 1), .int .i64 c.slot, .int .i64 c.value, .nil, .nil] 0 1) = bareMsg kind c (i + 1) := rfl
      have hv : VLe (.ptr [.int .i64 kind, .int .i64 c.view, .int .i64 ((i : Int) + 1), .int .i64 c.slot, .int .i64 c.value, .nil, .nil] 0 1) (encPMsg 1 (bareMsg kind c (i + 1))) :=
        vle_ptr rfl (PLes.at (a := [.int .i64 kind, .int .i64 c.view, .int .i64 ((i : Int) + 1), .int .i64 c.slot, .int .i64 c.value, .nil, .nil]) (b := (encMsg 1 (bareMsg kind c (i + 1))).cells)
          ⟨PLe.refl _, PLe.refl _, PLe.refl _, PLe.refl _, PLe.refl _, ple_nil _ _, ple_nil _ _, trivial⟩) (Or.inl rfl)
      have hlen := votesTo_len l kind c i
      simp only [hd, decL_Msg]
      refine ⟨inK64 (by omega), inK64 (by omega), fun h => ?_, fun h => ?_⟩
      · have h' := of_decide_eq_true h
        have hs := votesTo_succ l kind c i
        refine ⟨⟨VLe.refl _, hv, hl⟩, fun h2 => ⟨trivial, by omega, fun k hk => ?_, inK64 (by omega), i + 1, ?_, by omega, by omega⟩, fun h2 => ⟨inK64 (by omega), i + 1, ?_, by omega, by omega⟩⟩
        · have hk0 : k = 0 := by omega
          subst hk0
          exact ⟨rfl, rfl⟩
        · have hm : bareMsg kind c (i + 1) ∈ l := msgAt_nonneg.1 (of_decide_eq_true h2)
          rw [if_pos hm] at hs
          rw [hs]
          simp only [List.length_append, List.length_singleton]
          refine sle_of ⟨rfl, VLe.refl _, rfl, VLe.refl _, rfl, VLe.refl _, rfl, VLe.refl _, rfl, VLe.refl _, rfl, vle_int (by omega), trivial⟩ ⟨rfl, ?_, rfl, BLe.refl _, trivial⟩
          refine ble_arr (fun k hk => ELe.of_eq ?_) (Or.inl rfl)
          simp only [appg, gL]
          by_cases hk' : k < (votesTo l kind c i).length
          · rw [if_pos hk']
            simp [List.getElem?_append_left hk']
          · have hk0 : k = (votesTo l kind c i).length := by omega
            subst hk0
            rw [if_neg (Nat.lt_irrefl _)]
            simp [rowg, allInt, encI]
        · have hm : bareMsg kind c (i + 1) ∉ l := fun hm => (of_decide_eq_false h2) (msgAt_nonneg.2 hm)
          rw [if_neg hm, List.append_nil] at hs
          rw [hs]
          exact sle_of ⟨rfl, VLe.refl _, rfl, VLe.refl _, rfl, VLe.refl _, rfl, VLe.refl _, rfl, VLe.refl _, rfl, vle_int (by omega), trivial⟩ ⟨rfl, BLe.refl _, rfl, BLe.refl _, trivial⟩
      · have h' := of_decide_eq_false h
        have he : i = (3 * f + 1).toNat := by omega
        subst he
        exact ⟨VLe.refl _, BLe.refl _, trivial⟩
  exact Eq.mp (by kernel_rfl) key
theorem so35o : Sound Try.prog 35 sp35o := by
  refine sound_of_bodyO hmix (tpl := [(0, 1)]) Try.func35 rfl (by kernel_rfl) fun args bin ob r bout hDe hob => ?_
  unfold sp35o at hDe
  split at hDe
  · rename_i a0 a1 a2 a3
    cases hDe
    exact ⟨Nat.le_of_ble_eq_true (by kernel_rfl), cx35o a0 ((decL decMsg) a1) a2 (decCert a3), Eq.mp (by kernel_rfl) htt, Eq.mp (by kernel_rfl) da35o, Eq.mp (by kernel_rfl) (noM_sound (P := Try.prog)), by kernel_rfl, [.int .i64 (a0), encL (encMsg 1) 1 (((decL decMsg) a1)), .int .i64 (a2), encCert 1 ((decCert a3))], [], args_of_vles (⟨VLe.refl _, hob.1, VLe.refl _, hob.2.1, trivial⟩), trivial, Eq.mp (by kernel_rfl) (bd35o a0 ((decL decMsg) a1) a2 (decCert a3) (hob.2.2))⟩
  · cases hDe

noncomputable def votesForF (f : Int) (l : List Msg) (m : Msg) : IntsResult :=
  if ledgerFault f l ≠ 0 then ⟨ledgerFault f l, []⟩ else if msgFault f m ≠ 0 then ⟨msgFault f m, []⟩ else if m.kind ≠ 2 ∧ m.kind ≠ 3 then ⟨1, []⟩ else ⟨0, votesF f l m.kind ⟨m.slot, m.view, m.value⟩⟩
theorem votesForF_len {f : Int} {l : List Msg} {m : Msg} : (votesForF f l m).list.length ≤ 240 := by
  unfold votesForF
  split
  · simp
  · rename_i h0
    split
    · simp
    · split
      · simp
      · have h1 := (right_of (Classical.not_not.1 h0)).okf
        have h2 := votesTo_len l m.kind ⟨m.slot, m.view, m.value⟩ (3 * f + 1).toNat
        unfold okF at h1
        show (votesF f l m.kind _).length ≤ 240
        unfold votesF
        omega
theorem votesFor_1 {f : Int} {l : List Msg} {m : Msg} (h : ledgerFault f l ≠ 0) : votesForF f l m = ⟨ledgerFault f l, []⟩ := if_pos h
theorem votesFor_2 {f : Int} {l : List Msg} {m : Msg} (h : ledgerFault f l = 0) (h2 : msgFault f m ≠ 0) : votesForF f l m = ⟨msgFault f m, []⟩ := by unfold votesForF; rw [if_neg (not_not_intro h), if_pos h2]
theorem votesFor_3 {f : Int} {l : List Msg} {m : Msg} (h : ledgerFault f l = 0) (h2 : msgFault f m = 0) (h3 : m.kind ≠ 2 ∧ m.kind ≠ 3) : votesForF f l m = ⟨1, []⟩ := by unfold votesForF; rw [if_neg (not_not_intro h), if_neg (not_not_intro h2), if_pos h3]
theorem votesFor_4 {f : Int} {l : List Msg} {m : Msg} (h : ledgerFault f l = 0) (h2 : msgFault f m = 0) (h3 : ¬ (m.kind ≠ 2 ∧ m.kind ≠ 3)) : votesForF f l m = ⟨0, votesF f l m.kind ⟨m.slot, m.view, m.value⟩⟩ := by unfold votesForF; rw [if_neg (not_not_intro h), if_neg (not_not_intro h2), if_neg h3]

/-! ### impl.VotesFor%o -/
def pr8o (f : Int) (l : List Msg) (m : Msg) : Prop := bdL l ∧ m.bd
noncomputable def ro8o (f : Int) (l : List Msg) (m : Msg) : IntsResult := votesForF f l m
noncomputable def rb8o (f : Int) (l : List Msg) (m : Msg) : List Blk := [(.arr 1 ((ro8o f l m).list).length (gL encI ((ro8o f l m).list)) tagS)]
noncomputable def rs8o (f : Int) (l : List Msg) (m : Msg) : V := .agg [.int .i64 ((ro8o f l m).code), .osl 0 ((ro8o f l m).list).length]
noncomputable def sp8o : FSpec := fun args bin => match args, bin with
  | [.int .i64 a0, a1, a2], [] => some (VLe a1 (encL (encMsg 1) 1 (((decL decMsg) a1))) ∧ VLe a2 (encMsg 1 ((decMsg a2))) ∧ pr8o a0 ((decL decMsg) a1) (decMsg a2), rs8o a0 ((decL decMsg) a1) (decMsg a2), rb8o a0 ((decL decMsg) a1) (decMsg a2))
  | _, _ => none
noncomputable def D8o : Nat → Option (Bool × FSpec) := lk [(30, (false, sp30)), (31, (false, sp31)), (32, (false, sp32o))]
theorem da8o : SoundAll Try.prog D8o := soundAll_cons so30 (soundAll_cons so31 (soundAll_cons so32o (soundAll_nil)))
noncomputable def cx8o (f : Int) (l : List Msg) (m : Msg) : Cx := ⟨tt, D8o, Try.f8.ntmps, [0, 1, 2, 5, 6, 7, 8, 13, 20, 30], [], [], fun _ => none, [], noM, []⟩
theorem bd8o (f : Int) (l : List Msg) (m : Msg) (hpre : pr8o f l m) : bodyO (cx8o f l m) Try.f8 [(1, 1)] [.int .i64 (f), encL (encMsg 1) 1 (l), encMsg 1 (m)] [] (fun rr bs => VLe rr (rs8o f l m) ∧ BinLe bs (rb8o f l m)) := by
  have key :
      (((VLe (encL (encMsg 1) 1 l)
   (encL (encMsg 1) 1 (decL decMsg (encL (encMsg 1) 1 l)))) ∧
   (pr30 f (decL decMsg (encL (encMsg 1) 1 l)))) ∧
   ((((ledgerFault f (decL decMsg (encL (encMsg 1) 1 l)) != (0 : Int)) = true) →
   ((VLe
   (V.agg
   [V.int IntKind.i64 (ledgerFault f (decL decMsg (encL (encMsg 1) 1 l))), V.osl 0 0])
   (V.agg
   [V.int IntKind.i64 (IntsResult.code (ro8o f l m)), V.osl 0 (List.length (IntsResult.list (ro8o f l m)))])) ∧
   ((BLe (Blk.arr 1 0 (fun (x : Nat) ↦ V.undef) 100)
   (Blk.arr 1 (List.length (IntsResult.list (ro8o f l m))) (gL encI (IntsResult.list (ro8o f l m))) 100)) ∧
   (True)))) ∧
   (((ledgerFault f (decL decMsg (encL (encMsg 1) 1 l)) != (0 : Int)) = false) →
   (((VLe (encMsg 1 m) (encMsg 1 (decMsg (encMsg 1 m)))) ∧
   (pr31 f (decMsg (encMsg 1 m)))) ∧
   ((((msgFault f (decMsg (encMsg 1 m)) != (0 : Int)) = true) →
   ((VLe (V.agg [V.int IntKind.i64 (msgFault f (decMsg (encMsg 1 m))), V.osl 0 0])
   (V.agg
   [V.int IntKind.i64 (IntsResult.code (ro8o f l m)), V.osl 0 (List.length (IntsResult.list (ro8o f l m)))])) ∧
   ((BLe (Blk.arr 1 0 (fun (x : Nat) ↦ V.undef) 100)
   (Blk.arr 1 (List.length (IntsResult.list (ro8o f l m))) (gL encI (IntsResult.list (ro8o f l m))) 100)) ∧
   (True)))) ∧
   (((msgFault f (decMsg (encMsg 1 m)) != (0 : Int)) = false) →
   ((tq (Msg.kind m != (2 : Int))) ∧
   ((tq (Msg.kind m != (2 : Int))) ∧
   (((true = true) →
   (((Msg.kind m != (2 : Int)) = true) →
   ((Msg.kind m != (2 : Int)) = true))) ∧
   (∀ b : Bool,
   ((b = bif Msg.kind m != (2 : Int) then Msg.kind m != (3 : Int) else false) →
   (((b = true) →
   ((VLe (V.agg [V.int IntKind.i64 (1 : Int), V.osl 0 0])
   (V.agg
   [V.int IntKind.i64 (IntsResult.code (ro8o f l m)), V.osl 0 (List.length (IntsResult.list (ro8o f l m)))])) ∧
   ((BLe (Blk.arr 1 0 (fun (x : Nat) ↦ V.undef) 100)
   (Blk.arr 1 (List.length (IntsResult.list (ro8o f l m))) (gL encI (IntsResult.list (ro8o f l m))) 100)) ∧
   (True)))) ∧
   ((b = false) →
   (((VLe (encL (encMsg 1) 1 l)
   (encL (encMsg 1) 1 (decL decMsg (encL (encMsg 1) 1 l)))) ∧
   (pr32o (decL decMsg (encL (encMsg 1) 1 l)) (Msg.kind m) (Msg.view m) (Msg.slot m) (Msg.value m))) ∧
   ((VLe
   (V.agg
   [V.int IntKind.i64 (0 : Int),
   V.osl 0
   (List.length
   (ro32o (decL decMsg (encL (encMsg 1) 1 l)) (Msg.kind m) (Msg.view m) (Msg.slot m)
   (Msg.value m)))])
   (V.agg
   [V.int IntKind.i64 (IntsResult.code (ro8o f l m)), V.osl 0 (List.length (IntsResult.list (ro8o f l m)))])) ∧
   ((BLe
   (Blk.arr 1
   (List.length
   (ro32o (decL decMsg (encL (encMsg 1) 1 l)) (Msg.kind m) (Msg.view m) (Msg.slot m) (Msg.value m)))
   (gL encI
   (ro32o (decL decMsg (encL (encMsg 1) 1 l)) (Msg.kind m) (Msg.view m) (Msg.slot m) (Msg.value m)))
   100)
   (Blk.arr 1 (List.length (IntsResult.list (ro8o f l m))) (gL encI (IntsResult.list (ro8o f l m))) 100)) ∧
   (True))))))))))))))))) := by
    obtain ⟨hl, hm⟩ := hpre
    simp only [decL_Msg, dec_encMsg, decL_ints]
    unfold ro8o
    refine ⟨⟨VLe.refl _, hl⟩, fun h => ?_, fun h => ?_⟩
    · rw [votesFor_1 (by simpa using h)]
      exact ⟨VLe.refl _, ble_nil _, trivial⟩
    have h0 : ledgerFault f l = 0 := by simpa using h
    have hr := right_of h0
    refine ⟨⟨VLe.refl _, hr.okf, hm⟩, fun h => ?_, fun h => ?_⟩
    · rw [votesFor_2 h0 (by simpa using h)]
      exact ⟨VLe.refl _, ble_nil _, trivial⟩
    have h1 : msgFault f m = 0 := by simpa using h
    repeat (first | (refine And.intro (fun h _ => h) ?_) | (refine And.intro (fun _ h => h) ?_) | (refine And.intro ?aa ?_; case aa => (exact trivial)) | (refine And.intro ?aa ?_; case aa => (intros; simp_all [pr30, pr31, pr32o]; done)) | (refine And.intro ?aa ?_; case aa => (intros; exact inK64 (by omega))) | (refine And.intro ?aa ?_; case aa => (intros; simp only [decide_eq_true_eq] at *; omega)) | (intro q hq))
    have e0 : q = decide (m.kind ≠ 2 ∧ m.kind ≠ 3) := by
      subst_vars
      rw [Bool.eq_iff_iff]
      by_cases h2 : m.kind = 2 <;> simp [h2]
    clear hq
    refine ⟨fun h => ?_, fun h => ?_⟩
    · rw [e0] at h
      rw [votesFor_3 h0 h1 (of_decide_eq_true h)]
      exact ⟨VLe.refl _, ble_nil _, trivial⟩
    · rw [e0] at h
      have h2 := of_decide_eq_false h
      rw [votesFor_4 h0 h1 h2]
      have hk : m.kind = 2 ∨ m.kind = 3 := by omega
      have hv := votes_eq hr hk ⟨m.slot, m.view, m.value⟩
      unfold ro32o
      simp only at hv
      rw [hv]
      exact ⟨⟨VLe.refl _, hr.len, hl⟩, VLe.refl _, BLe.refl _, trivial⟩
  exact Eq.mp (by kernel_rfl) key
theorem so8o : Sound Try.prog 8 sp8o := by
  refine sound_of_bodyO hmix (tpl := [(1, 1)]) Try.func8 rfl (by kernel_rfl) fun args bin ob r bout hDe hob => ?_
  unfold sp8o at hDe
  split at hDe
  · rename_i a0 a1 a2
    cases hDe
    exact ⟨Nat.le_of_ble_eq_true (by kernel_rfl), cx8o a0 ((decL decMsg) a1) (decMsg a2), Eq.mp (by kernel_rfl) htt, Eq.mp (by kernel_rfl) da8o, Eq.mp (by kernel_rfl) (noM_sound (P := Try.prog)), by kernel_rfl, [.int .i64 (a0), encL (encMsg 1) 1 (((decL decMsg) a1)), encMsg 1 ((decMsg a2))], [], args_of_vles (⟨VLe.refl _, hob.1, hob.2.1, trivial⟩), trivial, Eq.mp (by kernel_rfl) (bd8o a0 ((decL decMsg) a1) (decMsg a2) (hob.2.2))⟩
  · cases hDe

/-! ### spec.VotesFor%o -/
def pr9o (f : Int) (l : List Msg) (m : Msg) : Prop := bdL l ∧ m.bd
noncomputable def ro9o (f : Int) (l : List Msg) (m : Msg) : IntsResult := votesForF f l m
noncomputable def rb9o (f : Int) (l : List Msg) (m : Msg) : List Blk := [(.arr 1 ((ro9o f l m).list).length (gL encI ((ro9o f l m).list)) tagS)]
noncomputable def rs9o (f : Int) (l : List Msg) (m : Msg) : V := .agg [.int .i64 ((ro9o f l m).code), .osl 0 ((ro9o f l m).list).length]
noncomputable def sp9o : FSpec := fun args bin => match args, bin with
  | [.int .i64 a0, a1, a2], [] => some (VLe a1 (encL (encMsg 1) 1 (((decL decMsg) a1))) ∧ VLe a2 (encMsg 1 ((decMsg a2))) ∧ pr9o a0 ((decL decMsg) a1) (decMsg a2), rs9o a0 ((decL decMsg) a1) (decMsg a2), rb9o a0 ((decL decMsg) a1) (decMsg a2))
  | _, _ => none
noncomputable def D9o : Nat → Option (Bool × FSpec) := lk [(33, (false, sp33)), (34, (false, sp34)), (35, (false, sp35o))]
theorem da9o : SoundAll Try.prog D9o := soundAll_cons so33 (soundAll_cons so34 (soundAll_cons so35o (soundAll_nil)))
noncomputable def cx9o (f : Int) (l : List Msg) (m : Msg) : Cx := ⟨tt, D9o, Try.f9.ntmps, [0, 1, 2, 5, 6, 7, 8, 13, 19, 29], [], [], fun _ => none, [], noM, []⟩
theorem bd9o (f : Int) (l : List Msg) (m : Msg) (hpre : pr9o f l m) : bodyO (cx9o f l m) Try.f9 [(1, 1)] [.int .i64 (f), encL (encMsg 1) 1 (l), encMsg 1 (m)] [] (fun rr bs => VLe rr (rs9o f l m) ∧ BinLe bs (rb9o f l m)) := by
  have key :
      (((VLe (encL (encMsg 1) 1 l)
   (encL (encMsg 1) 1 (decL decMsg (encL (encMsg 1) 1 l)))) ∧
   (pr33 f (decL decMsg (encL (encMsg 1) 1 l)))) ∧
   ((((ledgerFault f (decL decMsg (encL (encMsg 1) 1 l)) != (0 : Int)) = true) →
   ((VLe
   (V.agg
   [V.int IntKind.i64 (ledgerFault f (decL decMsg (encL (encMsg 1) 1 l))), V.osl 0 0])
   (V.agg
   [V.int IntKind.i64 (IntsResult.code (ro9o f l m)), V.osl 0 (List.length (IntsResult.list (ro9o f l m)))])) ∧
   ((BLe (Blk.arr 1 0 (fun (x : Nat) ↦ V.undef) 100)
   (Blk.arr 1 (List.length (IntsResult.list (ro9o f l m))) (gL encI (IntsResult.list (ro9o f l m))) 100)) ∧
   (True)))) ∧
   (((ledgerFault f (decL decMsg (encL (encMsg 1) 1 l)) != (0 : Int)) = false) →
   (((VLe (encPMsg 1 m) (encPMsg 1 (decPMsg (encPMsg 1 m)))) ∧
   (pr34 f (decPMsg (encPMsg 1 m)))) ∧
   ((((msgFault f (decPMsg (encPMsg 1 m)) != (0 : Int)) = true) →
   ((VLe (V.agg [V.int IntKind.i64 (msgFault f (decPMsg (encPMsg 1 m))), V.osl 0 0])
   (V.agg
   [V.int IntKind.i64 (IntsResult.code (ro9o f l m)), V.osl 0 (List.length (IntsResult.list (ro9o f l m)))])) ∧
   ((BLe (Blk.arr 1 0 (fun (x : Nat) ↦ V.undef) 100)
   (Blk.arr 1 (List.length (IntsResult.list (ro9o f l m))) (gL encI (IntsResult.list (ro9o f l m))) 100)) ∧
   (True)))) ∧
   (((msgFault f (decPMsg (encPMsg 1 m)) != (0 : Int)) = false) →
   ((tq (Msg.kind m != (2 : Int))) ∧
   ((tq (Msg.kind m != (2 : Int))) ∧
   (((true = true) →
   (((Msg.kind m != (2 : Int)) = true) →
   ((Msg.kind m != (2 : Int)) = true))) ∧
   (∀ b : Bool,
   ((b = bif Msg.kind m != (2 : Int) then Msg.kind m != (3 : Int) else false) →
   (((b = true) →
   ((VLe (V.agg [V.int IntKind.i64 (1 : Int), V.osl 0 0])
   (V.agg
   [V.int IntKind.i64 (IntsResult.code (ro9o f l m)), V.osl 0 (List.length (IntsResult.list (ro9o f l m)))])) ∧
   ((BLe (Blk.arr 1 0 (fun (x : Nat) ↦ V.undef) 100)
   (Blk.arr 1 (List.length (IntsResult.list (ro9o f l m))) (gL encI (IntsResult.list (ro9o f l m))) 100)) ∧
   (True)))) ∧
   ((b = false) →
   (((VLe (encL (encMsg 1) 1 l)
   (encL (encMsg 1) 1 (decL decMsg (encL (encMsg 1) 1 l)))) ∧
   ((VLe (V.agg [V.int IntKind.i64 (Msg.slot m), V.int IntKind.i64 (Msg.view m), V.int IntKind.i64 (Msg.value m)])
   (encCert 1
   (decCert (V.agg [V.int IntKind.i64 (Msg.slot m), V.int IntKind.i64 (Msg.view m), V.int IntKind.i64 (Msg.value m)])))) ∧
   (pr35o f (decL decMsg (encL (encMsg 1) 1 l)) (Msg.kind m)
   (decCert (V.agg [V.int IntKind.i64 (Msg.slot m), V.int IntKind.i64 (Msg.view m), V.int IntKind.i64 (Msg.value m)]))))) ∧
   ((VLe
   (V.agg
   [V.int IntKind.i64 (0 : Int),
   V.osl 0
   (List.length
   (ro35o f (decL decMsg (encL (encMsg 1) 1 l)) (Msg.kind m)
   (decCert
   (V.agg
   [V.int IntKind.i64 (Msg.slot m), V.int IntKind.i64 (Msg.view m), V.int IntKind.i64 (Msg.value m)]))))])
   (V.agg
   [V.int IntKind.i64 (IntsResult.code (ro9o f l m)), V.osl 0 (List.length (IntsResult.list (ro9o f l m)))])) ∧
   ((BLe
   (Blk.arr 1
   (List.length
   (ro35o f (decL decMsg (encL (encMsg 1) 1 l)) (Msg.kind m)
   (decCert
   (V.agg [V.int IntKind.i64 (Msg.slot m), V.int IntKind.i64 (Msg.view m), V.int IntKind.i64 (Msg.value m)]))))
   (gL encI
   (ro35o f (decL decMsg (encL (encMsg 1) 1 l)) (Msg.kind m)
   (decCert
   (V.agg [V.int IntKind.i64 (Msg.slot m), V.int IntKind.i64 (Msg.view m), V.int IntKind.i64 (Msg.value m)]))))
   100)
   (Blk.arr 1 (List.length (IntsResult.list (ro9o f l m))) (gL encI (IntsResult.list (ro9o f l m))) 100)) ∧
   (True))))))))))))))))) := by
    obtain ⟨hl, hm⟩ := hpre
    have hd : decCert (.agg [.int .i64 m.slot, .int .i64 m.view, .int .i64 m.value]) = ⟨m.slot, m.view, m.value⟩ := rfl
    simp only [decL_Msg, dec_encPMsg, dec_encCert, hd]
    unfold ro9o
    refine ⟨⟨VLe.refl _, hl⟩, fun h => ?_, fun h => ?_⟩
    · rw [votesFor_1 (by simpa using h)]
      exact ⟨VLe.refl _, ble_nil _, trivial⟩
    have h0 : ledgerFault f l = 0 := by simpa using h
    have hr := right_of h0
    refine ⟨⟨VLe.refl _, hr.okf, hm⟩, fun h => ?_, fun h => ?_⟩
    · rw [votesFor_2 h0 (by simpa using h)]
      exact ⟨VLe.refl _, ble_nil _, trivial⟩
    have h1 : msgFault f m = 0 := by simpa using h
    repeat (first | (refine And.intro (fun h _ => h) ?_) | (refine And.intro (fun _ h => h) ?_) | (refine And.intro ?aa ?_; case aa => (exact trivial)) | (refine And.intro ?aa ?_; case aa => (intros; simp_all [pr33, pr34, pr35o]; done)) | (refine And.intro ?aa ?_; case aa => (intros; exact inK64 (by omega))) | (refine And.intro ?aa ?_; case aa => (intros; simp only [decide_eq_true_eq] at *; omega)) | (intro q hq))
    have e0 : q = decide (m.kind ≠ 2 ∧ m.kind ≠ 3) := by
      subst_vars
      rw [Bool.eq_iff_iff]
      by_cases h2 : m.kind = 2 <;> simp [h2]
    clear hq
    refine ⟨fun h => ?_, fun h => ?_⟩
    · rw [e0] at h
      rw [votesFor_3 h0 h1 (of_decide_eq_true h)]
      exact ⟨VLe.refl _, ble_nil _, trivial⟩
    · rw [e0] at h
      rw [votesFor_4 h0 h1 (of_decide_eq_false h)]
      exact ⟨⟨VLe.refl _, VLe.refl _, hr.okf, hl⟩, VLe.refl _, BLe.refl _, trivial⟩
  exact Eq.mp (by kernel_rfl) key
theorem so9o : Sound Try.prog 9 sp9o := by
  refine sound_of_bodyO hmix (tpl := [(1, 1)]) Try.func9 rfl (by kernel_rfl) fun args bin ob r bout hDe hob => ?_
  unfold sp9o at hDe
  split at hDe
  · rename_i a0 a1 a2
    cases hDe
    exact ⟨Nat.le_of_ble_eq_true (by kernel_rfl), cx9o a0 ((decL decMsg) a1) (decMsg a2), Eq.mp (by kernel_rfl) htt, Eq.mp (by kernel_rfl) da9o, Eq.mp (by kernel_rfl) (noM_sound (P := Try.prog)), by kernel_rfl, [.int .i64 (a0), encL (encMsg 1) 1 (((decL decMsg) a1)), encMsg 1 ((decMsg a2))], [], args_of_vles (⟨VLe.refl _, hob.1, hob.2.1, trivial⟩), trivial, Eq.mp (by kernel_rfl) (bd9o a0 ((decL decMsg) a1) (decMsg a2) (hob.2.2))⟩
  · cases hDe

end Go.Av
