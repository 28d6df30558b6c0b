/- Votes and certificates: the program. -/
import Derived.Test.YtakcaanpnmkccaaGreatE6
import Derived.Test.YtakcaanpnmkccaaGreatS1
import Derived.Lib.RowBridge
namespace Go.Av
open Go.Proofs
set_option maxRecDepth 100000
set_option linter.unusedVariables false
set_option linter.unusedSimpArgs false

noncomputable def sendersTo (l : List Msg) (kind view slot value : Int) (i : Nat) : List Int := senders (l.take i) kind view slot value
theorem sendersTo_len (l : List Msg) (kind view slot value : Int) (i : Nat) : (sendersTo l kind view slot value i).length ≤ i := by
  unfold sendersTo senders
  rw [List.length_map]
  exact Nat.le_trans (List.length_filter_le _ _) (by simp; omega)
theorem sendersTo_succ {l : List Msg} {kind view slot value : Int} {i : Nat} (hi : i < l.length) :
    sendersTo l kind view slot value (i + 1) = sendersTo l kind view slot value i ++ if (l.getD i default).kind = kind ∧ (l.getD i default).view = view ∧ (l.getD i default).slot = slot ∧ (l.getD i default).value = value then [(l.getD i default).sender] else [] := by
  unfold sendersTo senders
  have h1 : l.take (i + 1) = l.take i ++ [l.getD i default] := by
    rw [List.take_add_one]
    simp [hi]
  rw [h1, List.filter_append, List.map_append]
  congr 1
  by_cases h : (l.getD i default).kind = kind ∧ (l.getD i default).view = view ∧ (l.getD i default).slot = slot ∧ (l.getD i default).value = value
  · rw [if_pos h]
    simp only [List.filter_cons, h, and_self, decide_true, if_true, List.filter_nil, List.map_cons, List.map_nil]
  · rw [if_neg h]
    simp only [List.filter_cons, h, decide_false, List.filter_nil]
    rfl


/-! ### impl.voters -/
def pr106 (l : List Msg) (kind : Int) (view : Int) (slot : Int) (value : Int) : Prop := l.length ≤ 240 ∧ bdL l
noncomputable def rs106 (l : List Msg) (kind : Int) (view : Int) (slot : Int) (value : Int) : V := encL encI 2 (votersF l kind view slot value)
noncomputable def sp106 : FSpec := fun args bin => match args, bin with
  | [a0, .int .i64 a1, .int .i64 a2, .int .i64 a3, .int .i64 a4], [] => some (VLe a0 (encL (encMsg 1) 1 (((decL decMsg) a0))) ∧ pr106 ((decL decMsg) a0) a1 a2 a3 a4, rs106 ((decL decMsg) a0) a1 a2 a3 a4, [])
  | _, _ => none
noncomputable def in106_3 (l : List Msg) (kind : Int) (view : Int) (slot : Int) (value : Int) : LoopInv :=
  ⟨Nat, fun i => ⟨[(0, encL (encMsg 1) 1 l), (1, .int .i64 kind), (2, .int .i64 view), (3, .int .i64 slot), (4, .int .i64 value), (11, .osl (canonT 11) (sendersTo l kind view slot value i).length), (15, encL (encMsg 1) 1 l), (16, .int .i64 l.length), (17, .int .i64 i)], [(canonT 11, .arr 1 (sendersTo l kind view slot value i).length (gL encI (sendersTo l kind view slot value i)) tagS)]⟩,
    fun i => i ≤ l.length, fun i => l.length - i⟩
noncomputable def iv106 (l : List Msg) (kind : Int) (view : Int) (slot : Int) (value : Int) : Nat → Option LoopInv := fun rg_ => match rg_ with
  | 3 => some (in106_3 l kind view slot value)
  | _ => none
noncomputable def D106 : Nat → Option (Bool × FSpec) := lk [(107, (true, sp107)), (109, (true, sp109))]
theorem da106 : SoundAll Tryz.prog D106 := soundAll_cons so107 (soundAll_cons so109 (soundAll_nil))
noncomputable def cx106 (l : List Msg) (kind : Int) (view : Int) (slot : Int) (value : Int) : Cx := ⟨tt, D106, Tryz.f106.ntmps, [0, 1, 2, 3, 4, 10, 11, 13, 15, 16, 17, 18, 42], [(3, ⟨[(0, none), (1, none), (2, none), (3, none), (4, none), (11, some 1), (15, none), (16, none), (17, none)], []⟩)], [], iv106 l kind view slot value, [], noM, []⟩
noncomputable def k106_0 (l : List Msg) (kind : Int) (view : Int) (slot : Int) (value : Int) (y : Nat) : AS := (AS.mk [(0, encL (encMsg 1) 1 l), (1, vi kind), (2, vi view), (3, vi slot), (4, vi value), (11, V.osl 32000768 (List.length (sendersTo l kind view slot value y))), (15, encL (encMsg 1) 1 l), (16, vi (↑(List.length l) : Int)), (17, vi (↑y : Int))] [(32000768, Blk.arr 1 (List.length (sendersTo l kind view slot value y)) (gL encI (sendersTo l kind view slot value y)) 100)])
noncomputable def k106_1 (l : List Msg) (kind : Int) (view : Int) (slot : Int) (value : Int) (x : Nat) : Nat := (List.length (sendersTo l kind view slot value x))
theorem bd106 (l : List Msg) (kind : Int) (view : Int) (slot : Int) (value : Int) (hpre : pr106 l kind view slot value) : bodyP (cx106 l kind view slot value) Tryz.f106 1 [encL (encMsg 1) 1 (l), .int .i64 (kind), .int .i64 (view), .int .i64 (slot), .int .i64 (value)] (fun rr => VLe rr (rs106 l kind view slot value)) := by
  have key : ((∃ x : Nat, ((SLe (AS.mk [(0, encL (encMsg 1) 1 l), (1, vi kind), (2, vi view), (3, vi slot), (4, vi value), (11, V.osl 32000768 0), (15, encL (encMsg 1) 1 l), (16, vi (↑(List.length l) : Int)), (17, vi (0 : Int))] [(32000768, Blk.arr 1 0 (rowg []) 100)]) (AS.mk [(0, encL (encMsg 1) 1 l), (1, vi kind), (2, vi view), (3, vi slot), (4, vi value), (11, V.osl 32000768 (k106_1 l kind view slot value x)), (15, encL (encMsg 1) 1 l), (16, vi (↑(List.length l) : Int)), (17, vi (↑x : Int))] [(32000768, Blk.arr 1 (k106_1 l kind view slot value x) (gL encI (sendersTo l kind view slot value x)) 100)])) ∧ (x ≤ List.length l))) ∧ (∀ x : Nat, ((x ≤ List.length l) → (((decide ((↑x : Int) < (↑(List.length l) : Int)) = true) → ((((0 : Int) ≤ (↑x : Int)) ∧ ((↑x : Int) < (↑(List.length l) : Int))) ∧ ((tq (Msg.kind (List.getD l (Int.toNat (↑x : Int)) default) == kind)) ∧ ((tq (Msg.kind (List.getD l (Int.toNat (↑x : Int)) default) == kind)) ∧ ((tq (Msg.kind (List.getD l (Int.toNat (↑x : Int)) default) == kind)) ∧ (((true = true) → (((Msg.kind (List.getD l (Int.toNat (↑x : Int)) default) == kind) = true) → ((Msg.kind (List.getD l (Int.toNat (↑x : Int)) default) == kind) = true))) ∧ (∀ b : Bool, ((b = bif Msg.kind (List.getD l (Int.toNat (↑x : Int)) default) == kind then Msg.view (List.getD l (Int.toNat (↑x : Int)) default) == view else false) → ((tq (b)) ∧ ((tq (b)) ∧ ((tq (b)) ∧ (((true = true) → ((b = true) → (b = true))) ∧ (∀ b_1 : Bool, ((b_1 = bif b then Msg.slot (List.getD l (Int.toNat (↑x : Int)) default) == slot else false) → ((tq (b_1)) ∧ ((tq (b_1)) ∧ ((tq (b_1)) ∧ (((true = true) → ((b_1 = true) → (b_1 = true))) ∧ (∀ b_2 : Bool, ((b_2 = bif b_1 then Msg.value (List.getD l (Int.toNat (↑x : Int)) default) == value else false) → (((b_2 = true) → ((List.length (sendersTo l kind view slot value x) = List.length (sendersTo l kind view slot value x)) ∧ ((List.length (sendersTo l kind view slot value x) + 1 ≤ 1073741824) ∧ ((sizedL 1 1 (rowg [vi (Msg.sender (List.getD l (Int.toNat (↑x : Int)) default))])) ∧ ((inK IntKind.i64 ((↑x : Int) + (1 : Int))) ∧ (∃ y : Nat, ((SLe (AS.mk [(0, encL (encMsg 1) 1 l), (1, vi kind), (2, vi view), (3, vi slot), (4, vi value), (11, V.osl 32000768 (List.length (sendersTo l kind view slot value x) + 1)), (15, encL (encMsg 1) 1 l), (16, vi (↑(List.length l) : Int)), (17, vi ((↑x : Int) + (1 : Int)))] [(32000768, Blk.arr 1 (List.length (sendersTo l kind view slot value x) + 1) (appg (k106_1 l kind view slot value x) (gL encI (sendersTo l kind view slot value x)) (rowg [vi (Msg.sender (List.getD l (Int.toNat (↑x : Int)) default))])) 100)]) (k106_0 l kind view slot value y)) ∧ ((y ≤ List.length l) ∧ (List.length l - y < List.length l - x))))))))) ∧ ((b_2 = false) → ((inK IntKind.i64 ((↑x : Int) + (1 : Int))) ∧ (∃ y : Nat, ((SLe (AS.mk [(0, encL (encMsg 1) 1 l), (1, vi kind), (2, vi view), (3, vi slot), (4, vi value), (11, V.osl 32000768 (k106_1 l kind view slot value x)), (15, encL (encMsg 1) 1 l), (16, vi (↑(List.length l) : Int)), (17, vi ((↑x : Int) + (1 : Int)))] [(32000768, Blk.arr 1 (k106_1 l kind view slot value x) (gL encI (sendersTo l kind view slot value x)) 100)]) (k106_0 l kind view slot value y)) ∧ ((y ≤ List.length l) ∧ (List.length l - y < List.length l - x))))))))))))))))))))))))))) ∧ ((decide ((↑x : Int) < (↑(List.length l) : Int)) = false) → (((List.length (sendersTo l kind view slot value x) = List.length (sendersTo l kind view slot value x)) ∧ ((List.length (sendersTo l kind view slot value x) < 4611686018427387904) ∧ (ints (k106_1 l kind view slot value x) (gL encI (sendersTo l kind view slot value x))))) ∧ ((List.length (sendersTo l kind view slot value x) = List.length (sendersTo l kind view slot value x)) ∧ (((List.length (sendersTo l kind view slot value x) = List.length (sendersTo l kind view slot value x)) ∧ ((List.length (sendersTo l kind view slot value x) < 4611686018427387904) ∧ ((ints (k106_1 l kind view slot value x) (gL encI (sortI (rowI (k106_1 l kind view slot value x) (gL encI (sendersTo l kind view slot value x)))))) ∧ (List.length (Lib.compact (rowI (k106_1 l kind view slot value x) (gL encI (sortI (rowI (k106_1 l kind view slot value x) (gL encI (sendersTo l kind view slot value x))))))) ≤ List.length (sendersTo l kind view slot value x))))) ∧ ((List.length (sendersTo l kind view slot value x) = List.length (sendersTo l kind view slot value x)) ∧ (VLe (V.sl (List.length (Lib.compact (rowI (k106_1 l kind view slot value x) (gL encI (sortI (rowI (k106_1 l kind view slot value x) (gL encI (sendersTo l kind view slot value x)))))))) (gL encI (compI (rowI (k106_1 l kind view slot value x) (gL encI (sortI (rowI (k106_1 l kind view slot value x) (gL encI (sendersTo l kind view slot value x)))))))) 2) (encL encI 2 (votersF l kind view slot value)))))))))))) := by
    delta k106_1; delta k106_0; delta vi
    obtain ⟨h240, hl⟩ := hpre
    refine ⟨⟨0, ?_, by omega⟩, ?_⟩
    · refine sle_of ⟨rfl, VLe.refl _, rfl, VLe.refl _, rfl, VLe.refl _, rfl, VLe.refl _, rfl, VLe.refl _, rfl, VLe.refl _, rfl, VLe.refl _, rfl, VLe.refl _, rfl, VLe.refl _, trivial⟩ ⟨rfl, ?_, trivial⟩
      exact ble_arr (fun i hi => by simp at hi) (Or.inl rfl)
    · intro i hi
      have hlen := sendersTo_len l kind view slot value i
      refine ⟨fun h => ?_, fun h => ?_⟩
      · have hlt : i < l.length := by simpa using h
        have hs := sendersTo_succ (kind := kind) (view := view) (slot := slot) (value := value) hlt
        simp only [Int.toNat_natCast]
        refine ⟨⟨by omega, by omega⟩, ?_⟩
        repeat (first | (refine And.intro (fun h _ => h) ?_) | (refine And.intro (fun _ h => h) ?_) | (refine And.intro ?aa ?_; case aa => (simp [pr107, pr109]; done)) | (refine And.intro ?aa ?_; case aa => (simp_all [pr107, pr109]; done)) | (refine And.intro ?aa ?_; case aa => (intros; exact inK64 (by omega))) | (refine And.intro ?aa ?_; case aa => (intros; simp only [decide_eq_true_eq] at *; omega)) | (intro q hq))
        have e0 : q = decide ((l.getD i default).kind = kind ∧ (l.getD i default).view = view ∧ (l.getD i default).slot = slot ∧ (l.getD i default).value = value) := by
          subst_vars
          rw [Bool.eq_iff_iff]
          simp [and_assoc]
        clear hq
        refine ⟨fun h2 => ⟨trivial, by omega, fun k hk => ?_, inK64 (by omega), i + 1, ?_, by omega, by omega⟩, fun h2 => ⟨inK64 (by omega), i + 1, ?_, by omega, by omega⟩⟩
        · have hk0 : k = 0 := by omega
          subst hk0
          exact ⟨rfl, rfl⟩
        · rw [e0] at h2
          rw [if_pos (of_decide_eq_true h2)] at hs
          rw [hs]
          simp only [List.length_append, List.length_singleton]
          refine sle_of ⟨rfl, VLe.refl _, rfl, VLe.refl _, rfl, VLe.refl _, rfl, VLe.refl _, rfl, VLe.refl _, rfl, VLe.refl _, rfl, VLe.refl _, rfl, VLe.refl _, rfl, vle_int (by omega), trivial⟩ ⟨rfl, ?_, trivial⟩
          refine ble_arr (fun k hk => ELe.of_eq ?_) (Or.inl rfl)
          simp only [appg, gL]
          by_cases hk' : k < (sendersTo l kind view slot value i).length
          · rw [if_pos hk']
            simp [List.getElem?_append_left hk']
          · have hk0 : k = (sendersTo l kind view slot value i).length := by omega
            subst hk0
            rw [if_neg (Nat.lt_irrefl _)]
            simp [rowg, allInt, encI]
        · rw [e0] at h2
          rw [if_neg (of_decide_eq_false h2), List.append_nil] at hs
          rw [hs]
          exact sle_of ⟨rfl, VLe.refl _, rfl, VLe.refl _, rfl, VLe.refl _, rfl, VLe.refl _, rfl, VLe.refl _, rfl, VLe.refl _, rfl, VLe.refl _, rfl, VLe.refl _, rfl, vle_int (by omega), trivial⟩ ⟨rfl, BLe.refl _, trivial⟩
      · have he : i = l.length := by simp at h; omega
        have hS : sendersTo l kind view slot value i = senders l kind view slot value := by
          subst he
          unfold sendersTo
          rw [List.take_length]
        have r1 := rowI_gL (sendersTo l kind view slot value i)
        have r2 := rowI_gL (sortI (sendersTo l kind view slot value i))
        rw [sortI_len] at r2
        have hcl := Lib.compact_length_le (sortI (sendersTo l kind view slot value i))
        rw [sortI_len] at hcl
        simp only [r1, r2]
        refine ⟨⟨trivial, by omega, ints_gL _ _⟩, trivial, ⟨trivial, by omega, ints_gL _ _, hcl⟩, trivial, ?_⟩
        have hv : votersF l kind view slot value = Lib.compact (sortI (sendersTo l kind view slot value i)) := by
          unfold votersF
          rw [hS]
        rw [hv]
        refine vle_encL_eq rfl (fun k hk => ?_) (Or.inl rfl)
        have hk2 : k < (compI (sortI (sendersTo l kind view slot value i))).length := by
          unfold compI
          rw [List.length_append]
          omega
        rw [gL_lt _ _ _ hk2]
        exact congrArg encI (List.getElem_append_left hk)
  exact Eq.mp (by kernel_rfl) key
theorem so106 : Sound Tryz.prog 106 sp106 := by
  refine sound_of_body hmix (pol := 1) Tryz.func106 rfl (by kernel_rfl) fun args bin ob r bout hDe hob => ?_
  unfold sp106 at hDe
  split at hDe
  · rename_i a0 a1 a2 a3 a4
    cases hDe
    exact ⟨rfl, rfl, Nat.le_of_ble_eq_true (by kernel_rfl), cx106 ((decL decMsg) a0) a1 a2 a3 a4, Eq.mp (by kernel_rfl) htt, Eq.mp (by kernel_rfl) da106, Eq.mp (by kernel_rfl) (noM_sound (P := Tryz.prog)), by kernel_rfl, [encL (encMsg 1) 1 (((decL decMsg) a0)), .int .i64 (a1), .int .i64 (a2), .int .i64 (a3), .int .i64 (a4)], args_of_vles (⟨hob.1, VLe.refl _, VLe.refl _, VLe.refl _, VLe.refl _, trivial⟩), Eq.mp (by kernel_rfl) (bd106 ((decL decMsg) a0) a1 a2 a3 a4 (hob.2))⟩
  · cases hDe

/-! ### impl.isEnough -/
def pr94 (f : Int) (l : List Msg) (kind : Int) (view : Int) (slot : Int) (value : Int) : Prop := okF f ∧ l.length ≤ 240 ∧ bdL l
noncomputable def rs94 (f : Int) (l : List Msg) (kind : Int) (view : Int) (slot : Int) (value : Int) : V := .bool (decide (2 * f + 1 ≤ ((votersF l kind view slot value).length : Int)))
noncomputable def sp94 : FSpec := fun args bin => match args, bin with
  | [.int .i64 a0, a1, .int .i64 a2, .int .i64 a3, .int .i64 a4, .int .i64 a5], [] => some (VLe a1 (encL (encMsg 1) 1 (((decL decMsg) a1))) ∧ pr94 a0 ((decL decMsg) a1) a2 a3 a4 a5, rs94 a0 ((decL decMsg) a1) a2 a3 a4 a5, [])
  | _, _ => none
noncomputable def D94 : Nat → Option (Bool × FSpec) := lk [(106, (false, sp106))]
theorem da94 : SoundAll Tryz.prog D94 := soundAll_cons so106 (soundAll_nil)
noncomputable def cx94 (f : Int) (l : List Msg) (kind : Int) (view : Int) (slot : Int) (value : Int) : Cx := ⟨tt, D94, Tryz.f94.ntmps, [0, 1, 2, 3, 4, 5, 12], [], [], fun _ => none, [], noM, []⟩
theorem bd94 (f : Int) (l : List Msg) (kind : Int) (view : Int) (slot : Int) (value : Int) (hpre : pr94 f l kind view slot value) : bodyP (cx94 f l kind view slot value) Tryz.f94 0 [.int .i64 (f), encL (encMsg 1) 1 (l), .int .i64 (kind), .int .i64 (view), .int .i64 (slot), .int .i64 (value)] (fun rr => VLe rr (rs94 f l kind view slot value)) := by
  have key : (((VLe (encL (encMsg 1) 1 l) (encL (encMsg 1) 1 (decL decMsg (encL (encMsg 1) 1 l)))) ∧ (pr106 (decL decMsg (encL (encMsg 1) 1 l)) kind view slot value)) ∧ ((inK IntKind.i64 ((2 : Int) * f)) ∧ ((inK IntKind.i64 ((2 : Int) * f + (1 : Int))) ∧ (VLe (V.bool (decide ((↑(List.length (votersF (decL decMsg (encL (encMsg 1) 1 l)) kind view slot value)) : Int) ≥ (2 : Int) * f + (1 : Int)))) (V.bool (decide ((2 : Int) * f + (1 : Int) ≤ (↑(List.length (votersF l kind view slot value)) : Int)))))))) := by
    obtain ⟨hf, h240, hl⟩ := hpre
    have hf' : 1 ≤ f ∧ f ≤ 2 := by unfold okF at hf; omega
    simp only [decL_Msg]
    exact ⟨⟨VLe.refl _, h240, hl⟩, inK64 (by omega), inK64 (by omega), vle_bool rfl⟩
  exact Eq.mp (by kernel_rfl) key
theorem so94 : Sound Tryz.prog 94 sp94 := by
  refine sound_of_body hmix (pol := 0) Tryz.func94 rfl (by kernel_rfl) fun args bin ob r bout hDe hob => ?_
  unfold sp94 at hDe
  split at hDe
  · rename_i a0 a1 a2 a3 a4 a5
    cases hDe
    exact ⟨rfl, rfl, Nat.le_of_ble_eq_true (by kernel_rfl), cx94 a0 ((decL decMsg) a1) a2 a3 a4 a5, Eq.mp (by kernel_rfl) htt, Eq.mp (by kernel_rfl) da94, Eq.mp (by kernel_rfl) (noM_sound (P := Tryz.prog)), by kernel_rfl, [.int .i64 (a0), encL (encMsg 1) 1 (((decL decMsg) a1)), .int .i64 (a2), .int .i64 (a3), .int .i64 (a4), .int .i64 (a5)], args_of_vles (⟨VLe.refl _, hob.1, VLe.refl _, VLe.refl _, VLe.refl _, VLe.refl _, trivial⟩), Eq.mp (by kernel_rfl) (bd94 a0 ((decL decMsg) a1) a2 a3 a4 a5 (hob.2))⟩
  · cases hDe

/-- A certificate that enough prepared, as the program reckons it. -/
def certOk (f : Int) (l : List Msg) (c : Cert) : Prop := inR c.slot 1 30 ∧ inR c.view 0 20 ∧ inR c.value 0 12 ∧ 2 * f + 1 ≤ ((votersF l 2 c.view c.slot c.value).length : Int)
noncomputable instance (f : Int) (l : List Msg) (c : Cert) : Decidable (certOk f l c) := Classical.propDecidable _

/-! ### impl.certRight -/
def pr71 (f : Int) (l : List Msg) (c : Cert) : Prop := okF f ∧ l.length ≤ 240 ∧ bdL l
noncomputable def rs71 (f : Int) (l : List Msg) (c : Cert) : V := .bool (decide (certOk f l c))
noncomputable def sp71 : FSpec := fun args bin => match args, bin with
  | [.int .i64 a0, a1, a2], [] => some (VLe a1 (encL (encMsg 1) 1 (((decL decMsg) a1))) ∧ VLe a2 (encCert 1 ((decCert a2))) ∧ pr71 a0 ((decL decMsg) a1) (decCert a2), rs71 a0 ((decL decMsg) a1) (decCert a2), [])
  | _, _ => none
noncomputable def D71 : Nat → Option (Bool × FSpec) := lk [(78, (false, sp78)), (31, (false, sp31)), (79, (false, sp79)), (94, (false, sp94))]
theorem da71 : SoundAll Tryz.prog D71 := soundAll_cons so78 (soundAll_cons so31 (soundAll_cons so79 (soundAll_cons so94 (soundAll_nil))))
noncomputable def cx71 (f : Int) (l : List Msg) (c : Cert) : Cx := ⟨tt, D71, Tryz.f71.ntmps, [0, 1, 2, 5, 6], [], [], fun _ => none, [], noM, []⟩
theorem bd71 (f : Int) (l : List Msg) (c : Cert) (hpre : pr71 f l c) : bodyP (cx71 f l c) Tryz.f71 0 [.int .i64 (f), encL (encMsg 1) 1 (l), encCert 1 (c)] (fun rr => VLe rr (rs71 f l c)) := by
  have key : ((pr78 (Cert.slot c)) ∧ ((tq (decide (inR (Cert.slot c) (1 : Int) (30 : Int)))) ∧ ((tq (decide (inR (Cert.slot c) (1 : Int) (30 : Int)))) ∧ (((decide (inR (Cert.slot c) (1 : Int) (30 : Int)) = true) → (pr31 (Cert.view c))) ∧ (((true = true) → ((decide (inR (Cert.slot c) (1 : Int) (30 : Int)) = true) → (decide (inR (Cert.slot c) (1 : Int) (30 : Int)) = true))) ∧ (∀ b : Bool, ((b = bif decide (inR (Cert.slot c) (1 : Int) (30 : Int)) then decide (inR (Cert.view c) (0 : Int) (20 : Int)) else false) → ((tq (b)) ∧ ((tq (b)) ∧ (((b = true) → (pr79 (Cert.value c))) ∧ (((true = true) → ((b = true) → (b = true))) ∧ (∀ b_1 : Bool, ((b_1 = bif b then decide (inR (Cert.value c) (0 : Int) (12 : Int)) else false) → ((tq (b_1)) ∧ ((tq (b_1)) ∧ ((tq (b_1)) ∧ ((tq (b_1)) ∧ ((tq (b_1)) ∧ ((tq (b_1)) ∧ ((tq (b_1)) ∧ ((tq (b_1)) ∧ (((b_1 = true) → ((VLe (encL (encMsg 1) 1 l) (encL (encMsg 1) 1 (decL decMsg (encL (encMsg 1) 1 l)))) ∧ (pr94 f (decL decMsg (encL (encMsg 1) 1 l)) (2 : Int) (Cert.view c) (Cert.slot c) (Cert.value c)))) ∧ (((true = true) → ((b_1 = true) → (b_1 = true))) ∧ (∀ b_2 : Bool, ((b_2 = bif b_1 then decide ((2 : Int) * f + (1 : Int) ≤ (↑(List.length (votersF (decL decMsg (encL (encMsg 1) 1 l)) (2 : Int) (Cert.view c) (Cert.slot c) (Cert.value c))) : Int)) else false) → (VLe (V.bool b_2) (V.bool (decide (certOk f l c))))))))))))))))))))))))))))) := by
    simp only [decL_Msg]
    repeat (first | (refine And.intro ?aa ?_; case aa => (simp [pr78, pr31, pr79, pr94]; done)) | (refine And.intro ?aa ?_; case aa => (intro _; exact ⟨VLe.refl _, hpre⟩)) | (intro q hq))
    subst_vars
    refine vle_bool ?_
    rw [Bool.eq_iff_iff, decide_eq_true_eq]
    unfold certOk
    simp [and_assoc]
  exact Eq.mp (by kernel_rfl) key
theorem so71 : Sound Tryz.prog 71 sp71 := by
  refine sound_of_body hmix (pol := 0) Tryz.func71 rfl (by kernel_rfl) fun args bin ob r bout hDe hob => ?_
  unfold sp71 at hDe
  split at hDe
  · rename_i a0 a1 a2
    cases hDe
    exact ⟨rfl, rfl, Nat.le_of_ble_eq_true (by kernel_rfl), cx71 a0 ((decL decMsg) a1) (decCert a2), Eq.mp (by kernel_rfl) htt, Eq.mp (by kernel_rfl) da71, Eq.mp (by kernel_rfl) (noM_sound (P := Tryz.prog)), by kernel_rfl, [.int .i64 (a0), encL (encMsg 1) 1 (((decL decMsg) a1)), encCert 1 ((decCert a2))], args_of_vles (⟨VLe.refl _, hob.1, hob.2.1, trivial⟩), Eq.mp (by kernel_rfl) (bd71 a0 ((decL decMsg) a1) (decCert a2) (hob.2.2))⟩
  · cases hDe

end Go.Av
