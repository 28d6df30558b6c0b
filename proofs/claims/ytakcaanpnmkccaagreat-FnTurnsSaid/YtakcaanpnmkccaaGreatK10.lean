/- The first changes to a view. -/
import Derived.Test.YtakcaanpnmkccaaGreatK3
import Derived.Test.YtakcaanpnmkccaaGreatI1
import Derived.Test.YtakcaanpnmkccaaGreatE9
import Derived.Test.YtakcaanpnmkccaaGreatF1
import Derived.Test.YtakcaanpnmkccaaGreatP21
namespace Go.Av
open Go.Proofs
set_option maxRecDepth 100000
set_option linter.unusedVariables false
set_option linter.unusedSimpArgs false


/-! ### impl.changesFor%o -/
def pr32o (f : Int) (l : List Msg) (view : Int) : Prop := Right f l ∧ bdL l
noncomputable def ro32o (f : Int) (l : List Msg) (view : Int) : List Int := chL f l view
noncomputable def rb32o (f : Int) (l : List Msg) (view : Int) : List Blk := [(.arr 1 (ro32o f l view).length (gL encI (ro32o f l view)) tagS)]
noncomputable def rs32o (f : Int) (l : List Msg) (view : Int) : V := .osl 0 (ro32o f l view).length
noncomputable def sp32o : FSpec := fun args bin => match args, bin with
  | [.int .i64 a0, a1, .int .i64 a2], [] => some (VLe a1 (encL (encMsg 1) 1 (((decL decMsg) a1))) ∧ pr32o a0 ((decL decMsg) a1) a2, rs32o a0 ((decL decMsg) a1) a2, rb32o a0 ((decL decMsg) a1) a2)
  | _, _ => none
noncomputable def in32o_3 (f : Int) (l : List Msg) (view : Int) : LoopInv :=
  ⟨Nat, fun i => ⟨[(0, .int .i64 f), (1, encL (encMsg 1) 1 l), (2, .int .i64 view), (7, .osl (canonT 7) (chTo f l view i).length), (8, .osl (canonT 8) (sendersOf l (chTo f l view i)).length), (13, encL (encMsg 1) 1 l), (14, .int .i64 l.length), (15, .int .i64 i)],
    [(canonT 7, .arr 1 (chTo f l view i).length (gL encI (chTo f l view i)) tagS), (canonT 8, .arr 1 (sendersOf l (chTo f l view i)).length (gL encI (sendersOf l (chTo f l view i))) tagS)]⟩,
    fun i => i ≤ l.length, fun i => l.length - i⟩
noncomputable def iv32o (f : Int) (l : List Msg) (view : Int) : Nat → Option LoopInv := fun rg_ => match rg_ with
  | 3 => some (in32o_3 f l view)
  | _ => none
noncomputable def D32o : Nat → Option (Bool × FSpec) := lk [(63, (false, sp63)), (35, (false, sp35))]
theorem da32o : SoundAll Tryz.prog D32o := soundAll_cons so63 (soundAll_cons so35 (soundAll_nil))
noncomputable def cx32o (f : Int) (l : List Msg) (view : Int) : Cx := ⟨tt, D32o, Tryz.f32.ntmps, [0, 1, 2, 6, 7, 8, 9, 10, 13, 14, 15, 16, 44], [(3, ⟨[(0, none), (1, none), (2, none), (7, some 1), (8, some 1), (13, none), (14, none), (15, none)], []⟩)], [], iv32o f l view, [], noM, []⟩
noncomputable def k32o_0 (f : Int) (l : List Msg) (view : Int) (y : Nat) : AS := (AS.mk [(0, vi f), (1, encL (encMsg 1) 1 l), (2, vi view), (7, V.osl 32000512 (List.length (chTo f l view y))), (8, V.osl 32000576 (List.length (sendersOf l (chTo f l view y)))), (13, encL (encMsg 1) 1 l), (14, vi (↑(List.length l) : Int)), (15, vi (↑y : Int))] [(32000512, Blk.arr 1 (List.length (chTo f l view y)) (gL encI (chTo f l view y)) 100), (32000576, Blk.arr 1 (List.length (sendersOf l (chTo f l view y))) (gL encI (sendersOf l (chTo f l view y))) 100)])
noncomputable def k32o_1 (f : Int) (l : List Msg) (view : Int) (x : Nat) : List (Nat × Blk) := [(32000512, Blk.arr 1 (List.length (chTo f l view x)) (gL encI (chTo f l view x)) 100), (32000576, Blk.arr 1 (List.length (sendersOf l (chTo f l view x))) (gL encI (sendersOf l (chTo f l view x))) 100)]
theorem bd32o (f : Int) (l : List Msg) (view : Int) (hpre : pr32o f l view) : bodyO (cx32o f l view) Tryz.f32 [(0, 1)] [.int .i64 (f), encL (encMsg 1) 1 (l), .int .i64 (view)] [] (fun rr bs => VLe rr (rs32o f l view) ∧ BinLe bs (rb32o f l view)) := by
  have key : ((∃ x : Nat, ((SLe (AS.mk [(0, vi f), (1, encL (encMsg 1) 1 l), (2, vi view), (7, V.osl 32000512 0), (8, V.osl 32000576 0), (13, encL (encMsg 1) 1 l), (14, vi (↑(List.length l) : Int)), (15, vi (0 : Int))] [(32000512, Blk.arr 1 0 (rowg []) 100), (32000576, Blk.arr 1 0 (rowg []) 100)]) (AS.mk [(0, vi f), (1, encL (encMsg 1) 1 l), (2, vi view), (7, V.osl 32000512 (List.length (chTo f l view x))), (8, V.osl 32000576 (List.length (sendersOf l (chTo f l view x)))), (13, encL (encMsg 1) 1 l), (14, vi (↑(List.length l) : Int)), (15, vi (↑x : Int))] (k32o_1 f l view x))) ∧ (x ≤ List.length l))) ∧ (∀ x : Nat, ((x ≤ List.length l) → (((decide ((↑x : Int) < (↑(List.length l) : Int)) = true) → ((((0 : Int) ≤ (↑x : Int)) ∧ ((↑x : Int) < (↑(List.length l) : Int))) ∧ ((inK IntKind.i64 ((2 : Int) * f)) ∧ ((inK IntKind.i64 ((2 : Int) * f + (1 : Int))) ∧ ((tq (decide ((↑(List.length (chTo f l view x)) : Int) < (2 : Int) * f + (1 : Int)))) ∧ ((tq (decide ((↑(List.length (chTo f l view x)) : Int) < (2 : Int) * f + (1 : Int)))) ∧ ((tq (decide ((↑(List.length (chTo f l view x)) : Int) < (2 : Int) * f + (1 : Int)))) ∧ (((true = true) → ((decide ((↑(List.length (chTo f l view x)) : Int) < (2 : Int) * f + (1 : Int)) = true) → (decide ((↑(List.length (chTo f l view x)) : Int) < (2 : Int) * f + (1 : Int)) = true))) ∧ (∀ b : Bool, ((b = bif decide ((↑(List.length (chTo f l view x)) : Int) < (2 : Int) * f + (1 : Int)) then Msg.view (List.getD l (Int.toNat (↑x : Int)) default) == view else false) → ((tq (b)) ∧ ((tq (b)) ∧ ((tq (b)) ∧ (((b = true) → ((VLe (encL encI 1 (sendersOf l (chTo f l view x))) (encL encI 1 (decL decI (encL encI 1 (sendersOf l (chTo f l view x)))))) ∧ (pr63 (decL decI (encL encI 1 (sendersOf l (chTo f l view x)))) (Msg.sender (List.getD l (Int.toNat (↑x : Int)) default))))) ∧ ((tq (b)) ∧ (((true = true) → ((b = true) → (b = true))) ∧ (∀ b_1 : Bool, ((b_1 = bif b then !decide (Msg.sender (List.getD l (Int.toNat (↑x : Int)) default) ∈ decL decI (encL encI 1 (sendersOf l (chTo f l view x)))) else false) → ((tq (b_1)) ∧ ((tq (b_1)) ∧ ((tq (b_1)) ∧ (((b_1 = true) → ((VLe (encL (encMsg 1) 1 l) (encL (encMsg 1) 1 (decL decMsg (encL (encMsg 1) 1 l)))) ∧ (pr35 f (decL decMsg (encL (encMsg 1) 1 l)) (↑x : Int)))) ∧ (((true = true) → ((b_1 = true) → (b_1 = true))) ∧ (∀ b_2 : Bool, ((b_2 = bif b_1 then decide (changeOk f (decL decMsg (encL (encMsg 1) 1 l)) (↑x : Int)) else false) → (((b_2 = true) → ((List.length (chTo f l view x) = List.length (chTo f l view x)) ∧ ((List.length (chTo f l view x) + 1 ≤ 1073741824) ∧ ((sizedL 1 1 (rowg [vi (↑x : Int)])) ∧ ((List.length (sendersOf l (chTo f l view x)) = List.length (sendersOf l (chTo f l view x))) ∧ ((List.length (sendersOf l (chTo f l view x)) + 1 ≤ 1073741824) ∧ ((sizedL 1 1 (rowg [vi (Msg.sender (List.getD l (Int.toNat (↑x : Int)) default))])) ∧ ((inK IntKind.i64 ((↑x : Int) + (1 : Int))) ∧ (∃ y : Nat, ((SLe (AS.mk [(0, vi f), (1, encL (encMsg 1) 1 l), (2, vi view), (7, V.osl 32000512 (List.length (chTo f l view x) + 1)), (8, V.osl 32000576 (List.length (sendersOf l (chTo f l view x)) + 1)), (13, encL (encMsg 1) 1 l), (14, vi (↑(List.length l) : Int)), (15, vi ((↑x : Int) + (1 : Int)))] [(32000512, Blk.arr 1 (List.length (chTo f l view x) + 1) (appg (List.length (chTo f l view x)) (gL encI (chTo f l view x)) (rowg [vi (↑x : Int)])) 100), (32000576, Blk.arr 1 (List.length (sendersOf l (chTo f l view x)) + 1) (appg (List.length (sendersOf l (chTo f l view x))) (gL encI (sendersOf l (chTo f l view x))) (rowg [vi (Msg.sender (List.getD l (Int.toNat (↑x : Int)) default))])) 100)]) (k32o_0 f l view y)) ∧ ((y ≤ List.length l) ∧ (List.length l - y < List.length l - x)))))))))))) ∧ ((b_2 = false) → ((inK IntKind.i64 ((↑x : Int) + (1 : Int))) ∧ (∃ y : Nat, ((SLe (AS.mk [(0, vi f), (1, encL (encMsg 1) 1 l), (2, vi view), (7, V.osl 32000512 (List.length (chTo f l view x))), (8, V.osl 32000576 (List.length (sendersOf l (chTo f l view x)))), (13, encL (encMsg 1) 1 l), (14, vi (↑(List.length l) : Int)), (15, vi ((↑x : Int) + (1 : Int)))] (k32o_1 f l view x)) (k32o_0 f l view y)) ∧ ((y ≤ List.length l) ∧ (List.length l - y < List.length l - x)))))))))))))))))))))))))))))))) ∧ ((decide ((↑x : Int) < (↑(List.length l) : Int)) = false) → ((VLe (V.osl 0 (List.length (chTo f l view x))) (V.osl 0 (List.length (ro32o f l view)))) ∧ ((BLe (Blk.arr 1 (List.length (chTo f l view x)) (gL encI (chTo f l view x)) 100) (Blk.arr 1 (List.length (ro32o f l view)) (gL encI (ro32o f l view)) 100)) ∧ (True)))))))) := by
    delta k32o_1; delta k32o_0; delta vi
    obtain ⟨hr, hl⟩ := hpre
    have h240 := hr.len
    have hf' : 1 ≤ f ∧ f ≤ 2 := by have := hr.okf; unfold okF at this; omega
    simp only [decL_Msg, decL_ints]
    refine ⟨⟨0, sle_of ⟨rfl, VLe.refl _, rfl, VLe.refl _, rfl, VLe.refl _, rfl, VLe.refl _, rfl, VLe.refl _, rfl, VLe.refl _, rfl, VLe.refl _, rfl, VLe.refl _, trivial⟩ ⟨rfl, ble_nil _, rfl, ble_nil _, trivial⟩, by omega⟩, fun i hi => ⟨fun h => ?_, fun h => ?_⟩⟩
    · have hlt : i < l.length := by simpa using h
      have hlen := chTo_len f l view i
      have hsl : (sendersOf l (chTo f l view i)).length = (chTo f l view i).length := by simp [sendersOf]
      have pc : ∀ v, pr63 (sendersOf l (chTo f l view i)) v := fun v => by
        show (sendersOf l (chTo f l view i)).length ≤ maxLen
        unfold maxLen; omega
      simp only [Int.toNat_natCast]
      refine ⟨by omega, ?_⟩
      repeat (first | (refine And.intro (fun h _ => h) ?_) | (refine And.intro (fun _ h => h) ?_) | (refine And.intro ?aa ?_; case aa => (exact fun _ => ⟨VLe.refl _, pc _⟩)) | (refine And.intro ?aa ?_; case aa => (exact fun _ => ⟨VLe.refl _, hr, hl⟩)) | (refine And.intro ?aa ?_; case aa => (exact by intros; exact inK64 (by omega))) | (refine And.intro ?aa ?_; case aa => (exact inK64 (by omega))) | (refine And.intro ?aa ?_; case aa => (intros; simp_all [pr63, pr35]; done)) | (refine And.intro ?aa ?_; case aa => (intros; exact inK64 (by omega))) | (refine And.intro ?aa ?_; case aa => (intros; simp only [decide_eq_true_eq] at *; omega)) | (intro q hq))
      have e0 : q = decide (takesCh f l view (chTo f l view i) i) := by
        subst_vars
        rw [Bool.eq_iff_iff, decide_eq_true_eq]
        unfold takesCh
        rw [← sendersOf_mem]
        simp [and_assoc]
      clear hq
      have hs : chTo f l view (i + 1) = chStep f l view (chTo f l view i) i := rfl
      refine ⟨fun h => ?_, fun h => ⟨inK64 (by omega), i + 1, ?_, by omega, by omega⟩⟩
      · rw [e0] at h
        unfold chStep at hs
        rw [if_pos (of_decide_eq_true h)] at hs
        have hs2 : sendersOf l (chTo f l view (i + 1)) = sendersOf l (chTo f l view i) ++ [(l.getD i default).sender] := by
          rw [hs]
          simp [sendersOf, atM]
        have ok1 : ∀ v : Int, sizedL 1 1 (rowg [V.int IntKind.i64 v]) := fun v k hk => by
          have hk0 : k = 0 := by omega
          subst hk0
          exact ⟨rfl, rfl⟩
        repeat (first | (refine And.intro trivial ?_) | (refine And.intro (ok1 _) ?_) | (refine And.intro (by omega) ?_) | (refine And.intro (inK64 (by omega)) ?_))
        refine ⟨i + 1, ?_, by omega, by omega⟩
        rw [hs2, hs, List.length_append, List.length_append]
        exact sle_of ⟨rfl, VLe.refl _, rfl, VLe.refl _, rfl, VLe.refl _, rfl, VLe.refl _, rfl, VLe.refl _, rfl, VLe.refl _, rfl, VLe.refl _, rfl, vle_int (by omega), trivial⟩ ⟨rfl, ble_push rfl rfl, rfl, ble_push rfl rfl, trivial⟩
      · rw [e0] at h
        unfold chStep at hs
        rw [if_neg (of_decide_eq_false h)] at hs
        rw [hs]
        exact sle_of ⟨rfl, VLe.refl _, rfl, VLe.refl _, rfl, VLe.refl _, rfl, VLe.refl _, rfl, VLe.refl _, rfl, VLe.refl _, rfl, VLe.refl _, rfl, vle_int (by omega), trivial⟩ ⟨rfl, BLe.refl _, rfl, BLe.refl _, trivial⟩
    · have hge : i = l.length := by simp at h; omega
      subst hge
      exact ⟨VLe.refl _, BLe.refl _, trivial⟩
  exact Eq.mp (by kernel_rfl) key
theorem so32o : Sound Tryz.prog 32 sp32o := by
  refine sound_of_bodyO hmix (tpl := [(0, 1)]) Tryz.func32 rfl (by kernel_rfl) fun args bin ob r bout hDe hob => ?_
  unfold sp32o at hDe
  split at hDe
  · rename_i a0 a1 a2
    cases hDe
    exact ⟨Nat.le_of_ble_eq_true (by kernel_rfl), cx32o a0 ((decL decMsg) a1) a2, Eq.mp (by kernel_rfl) htt, Eq.mp (by kernel_rfl) da32o, Eq.mp (by kernel_rfl) (noM_sound (P := Tryz.prog)), by kernel_rfl, [.int .i64 (a0), encL (encMsg 1) 1 (((decL decMsg) a1)), .int .i64 (a2)], [], args_of_vles (⟨VLe.refl _, hob.1, VLe.refl _, trivial⟩), trivial, Eq.mp (by kernel_rfl) (bd32o a0 ((decL decMsg) a1) a2 (hob.2))⟩
  · cases hDe

/-! ### spec.l10Changes%o -/
def pr34o (f : Int) (l : List Msg) (view : Int) : Prop := Right f l ∧ bdL l
noncomputable def ro34o (f : Int) (l : List Msg) (view : Int) : List Int := chL f l view
noncomputable def rb34o (f : Int) (l : List Msg) (view : Int) : List Blk := [(.arr 1 (ro34o f l view).length (gL encI (ro34o f l view)) tagS)]
noncomputable def rs34o (f : Int) (l : List Msg) (view : Int) : V := .osl 0 (ro34o f l view).length
noncomputable def sp34o : FSpec := fun args bin => match args, bin with
  | [.int .i64 a0, a1, .int .i64 a2], [] => some (VLe a1 (encL (encMsg 1) 1 (((decL decMsg) a1))) ∧ pr34o a0 ((decL decMsg) a1) a2, rs34o a0 ((decL decMsg) a1) a2, rb34o a0 ((decL decMsg) a1) a2)
  | _, _ => none
noncomputable def in34o_3 (f : Int) (l : List Msg) (view : Int) : LoopInv :=
  ⟨Nat, fun i => ⟨[(0, .int .i64 f), (1, encL (encMsg 1) 1 l), (2, .int .i64 view), (7, .osl (canonT 7) (chTo f l view i).length), (8, .int .i64 i)], [(canonT 7, .arr 1 (chTo f l view i).length (gL encI (chTo f l view i)) tagS)]⟩,
    fun i => i ≤ l.length, fun i => l.length - i⟩
noncomputable def iv34o (f : Int) (l : List Msg) (view : Int) : Nat → Option LoopInv := fun rg_ => match rg_ with
  | 3 => some (in34o_3 f l view)
  | _ => none
noncomputable def D34o : Nat → Option (Bool × FSpec) := lk [(56, (false, sp56)), (67, (false, sp67)), (68, (false, sp68))]
theorem da34o : SoundAll Tryz.prog D34o := soundAll_cons so56 (soundAll_cons so67 (soundAll_cons so68 (soundAll_nil)))
noncomputable def cx34o (f : Int) (l : List Msg) (view : Int) : Cx := ⟨tt, D34o, Tryz.f34.ntmps, [0, 1, 2, 6, 7, 8, 20, 46], [(3, ⟨[(0, none), (1, none), (2, none), (7, some 1), (8, none)], []⟩)], [], iv34o f l view, [], noM, []⟩
noncomputable def k34o_0 (f : Int) (l : List Msg) (view : Int) (y : Nat) : AS := (AS.mk [(0, vi f), (1, encL (encMsg 1) 1 l), (2, vi view), (7, V.osl 32000512 (List.length (chTo f l view y))), (8, vi (↑y : Int))] [(32000512, Blk.arr 1 (List.length (chTo f l view y)) (gL encI (chTo f l view y)) 100)])
noncomputable def k34o_1 (l : List Msg) (x : Nat) : Bool := (decide ((↑x : Int) < (↑(List.length l) : Int)))
theorem bd34o (f : Int) (l : List Msg) (view : Int) (hpre : pr34o f l view) : bodyO (cx34o f l view) Tryz.f34 [(0, 1)] [.int .i64 (f), encL (encMsg 1) 1 (l), .int .i64 (view)] [] (fun rr bs => VLe rr (rs34o f l view) ∧ BinLe bs (rb34o f l view)) := by
  have key : ((∃ x : Nat, ((SLe (AS.mk [(0, vi f), (1, encL (encMsg 1) 1 l), (2, vi view), (7, V.osl 32000512 0), (8, vi (0 : Int))] [(32000512, Blk.arr 1 0 (rowg []) 100)]) (AS.mk [(0, vi f), (1, encL (encMsg 1) 1 l), (2, vi view), (7, V.osl 32000512 (List.length (chTo f l view x))), (8, vi (↑x : Int))] [(32000512, Blk.arr 1 (List.length (chTo f l view x)) (gL encI (chTo f l view x)) 100)])) ∧ (x ≤ List.length l))) ∧ (∀ x : Nat, ((x ≤ List.length l) → ((tq (k34o_1 l x)) ∧ ((tq (k34o_1 l x)) ∧ (((decide ((↑x : Int) < (↑(List.length l) : Int)) = true) → (pr56 f)) ∧ ((tq (k34o_1 l x)) ∧ ((tq (k34o_1 l x)) ∧ (((true = true) → ((decide ((↑x : Int) < (↑(List.length l) : Int)) = true) → (decide ((↑x : Int) < (↑(List.length l) : Int)) = true))) ∧ (∀ b : Bool, ((b = bif decide ((↑x : Int) < (↑(List.length l) : Int)) then decide ((↑(List.length (chTo f l view x)) : Int) < (2 : Int) * f + (1 : Int)) else false) → (((b = true) → ((((0 : Int) ≤ (↑x : Int)) ∧ ((↑x : Int) < (↑(List.length l) : Int))) ∧ ((tq (Msg.view (List.getD l (Int.toNat (↑x : Int)) default) == view)) ∧ ((tq (Msg.view (List.getD l (Int.toNat (↑x : Int)) default) == view)) ∧ ((tq (Msg.view (List.getD l (Int.toNat (↑x : Int)) default) == view)) ∧ ((((Msg.view (List.getD l (Int.toNat (↑x : Int)) default) == view) = true) → ((VLe (encL (encMsg 1) 1 l) (encL (encMsg 1) 1 (decL decMsg (encL (encMsg 1) 1 l)))) ∧ (pr67 f (decL decMsg (encL (encMsg 1) 1 l)) (↑x : Int)))) ∧ (((true = true) → (((Msg.view (List.getD l (Int.toNat (↑x : Int)) default) == view) = true) → ((Msg.view (List.getD l (Int.toNat (↑x : Int)) default) == view) = true))) ∧ (∀ b_1 : Bool, ((b_1 = bif Msg.view (List.getD l (Int.toNat (↑x : Int)) default) == view then decide (changeOk f (decL decMsg (encL (encMsg 1) 1 l)) (↑x : Int)) else false) → ((tq (b_1)) ∧ ((tq (b_1)) ∧ (((b_1 = true) → (((0 : Int) ≤ (↑x : Int)) ∧ ((↑x : Int) < (↑(List.length l) : Int)))) ∧ ((tq (b_1)) ∧ ((tq (b_1)) ∧ ((tq (b_1)) ∧ ((tq (b_1)) ∧ ((tq (b_1)) ∧ (((b_1 = true) → ((VLe (encL (encMsg 1) 1 l) (encL (encMsg 1) 1 (decL decMsg (encL (encMsg 1) 1 l)))) ∧ ((VLe (encL encI 1 (chTo f l view x)) (encL encI 1 (decL decI (encL encI 1 (chTo f l view x))))) ∧ (pr68 (decL decMsg (encL (encMsg 1) 1 l)) (decL decI (encL encI 1 (chTo f l view x))) (Msg.sender (List.getD l (Int.toNat (↑x : Int)) default)))))) ∧ ((tq (b_1)) ∧ (((true = true) → ((b_1 = true) → (b_1 = true))) ∧ (∀ b_2 : Bool, ((b_2 = bif b_1 then !decide (standsIn (decL decMsg (encL (encMsg 1) 1 l)) (decL decI (encL encI 1 (chTo f l view x))) (Msg.sender (List.getD l (Int.toNat (↑x : Int)) default))) else false) → (((b_2 = true) → ((List.length (chTo f l view x) = List.length (chTo f l view x)) ∧ ((List.length (chTo f l view x) + 1 ≤ 1073741824) ∧ ((sizedL 1 1 (rowg [vi (↑x : Int)])) ∧ ((inK IntKind.i64 ((↑x : Int) + (1 : Int))) ∧ (∃ y : Nat, ((SLe (AS.mk [(0, vi f), (1, encL (encMsg 1) 1 l), (2, vi view), (7, V.osl 32000512 (List.length (chTo f l view x) + 1)), (8, vi ((↑x : Int) + (1 : Int)))] [(32000512, Blk.arr 1 (List.length (chTo f l view x) + 1) (appg (List.length (chTo f l view x)) (gL encI (chTo f l view x)) (rowg [vi (↑x : Int)])) 100)]) (k34o_0 f l view y)) ∧ ((y ≤ List.length l) ∧ (List.length l - y < List.length l - x))))))))) ∧ ((b_2 = false) → ((inK IntKind.i64 ((↑x : Int) + (1 : Int))) ∧ (∃ y : Nat, ((SLe (AS.mk [(0, vi f), (1, encL (encMsg 1) 1 l), (2, vi view), (7, V.osl 32000512 (List.length (chTo f l view x))), (8, vi ((↑x : Int) + (1 : Int)))] [(32000512, Blk.arr 1 (List.length (chTo f l view x)) (gL encI (chTo f l view x)) 100)]) (k34o_0 f l view y)) ∧ ((y ≤ List.length l) ∧ (List.length l - y < List.length l - x))))))))))))))))))))))))))))) ∧ ((b = false) → ((VLe (V.osl 0 (List.length (chTo f l view x))) (V.osl 0 (List.length (ro34o f l view)))) ∧ ((BLe (Blk.arr 1 (List.length (chTo f l view x)) (gL encI (chTo f l view x)) 100) (Blk.arr 1 (List.length (ro34o f l view)) (gL encI (ro34o f l view)) 100)) ∧ (True)))))))))))))))) := by
    delta k34o_1; delta k34o_0; delta vi
    obtain ⟨hr, hl⟩ := hpre
    have h240 := hr.len
    have hf' : 1 ≤ f ∧ f ≤ 2 := by have := hr.okf; unfold okF at this; omega
    simp only [decL_Msg, decL_ints]
    refine ⟨⟨0, sle_of ⟨rfl, VLe.refl _, rfl, VLe.refl _, rfl, VLe.refl _, rfl, VLe.refl _, rfl, VLe.refl _, trivial⟩ ⟨rfl, ble_nil _, trivial⟩, by omega⟩, fun i hi => ?_⟩
    have hlen := chTo_len f l view i
    simp only [Int.toNat_natCast]
    repeat (first | (refine And.intro (fun h _ => h) ?_) | (refine And.intro (fun _ h => h) ?_) | (refine And.intro ?aa ?_; case aa => (exact fun _ => hr.okf)) | (refine And.intro ?aa ?_; case aa => (intros; simp_all [pr56, pr67, pr68]; done)) | (refine And.intro ?aa ?_; case aa => (intros; exact inK64 (by omega))) | (refine And.intro ?aa ?_; case aa => (intros; simp only [decide_eq_true_eq] at *; omega)) | (intro q hq))
    have e0 : q = decide (i < l.length ∧ ((chTo f l view i).length : Int) < 2 * f + 1) := by
      subst_vars
      rw [Bool.eq_iff_iff]
      simp
    clear hq
    refine ⟨fun h => ?_, fun h => ?_⟩
    · rw [e0] at h
      obtain ⟨hlt, hfew⟩ := of_decide_eq_true h
      have hin := chTo_in f l view i hi
      have pf : ∀ w, pr68 l (chTo f l view i) w := fun w => ⟨by unfold maxLen; omega, hin⟩
      refine ⟨⟨by omega, by omega⟩, ?_⟩
      repeat (first | (refine And.intro (fun h _ => h) ?_) | (refine And.intro (fun _ h => h) ?_) | (refine And.intro ?aa ?_; case aa => (exact fun _ => ⟨VLe.refl _, hr, hl⟩)) | (refine And.intro ?aa ?_; case aa => (exact fun _ => ⟨by omega, by omega⟩)) | (refine And.intro ?aa ?_; case aa => (exact fun _ => ⟨VLe.refl _, VLe.refl _, pf _⟩)) | (refine And.intro ?aa ?_; case aa => (intros; simp_all [pr56, pr67, pr68]; done)) | (refine And.intro ?aa ?_; case aa => (intros; exact inK64 (by omega))) | (refine And.intro ?aa ?_; case aa => (intros; simp only [decide_eq_true_eq] at *; omega)) | (intro q hq))
      have e1 : q = decide (takesCh f l view (chTo f l view i) i) := by
        subst_vars
        rw [Bool.eq_iff_iff, decide_eq_true_eq]
        unfold takesCh
        simp only [hfew, true_and]
        constructor
        · intro g
          simp only [Bool.cond_eq_ite] at g
          by_cases a1 : (l.getD i default).view = view <;> by_cases a2 : changeOk f l i <;> simp_all
        · rintro ⟨a1, a2, a3⟩
          simp_all
      clear hq
      have hs : chTo f l view (i + 1) = chStep f l view (chTo f l view i) i := rfl
      refine ⟨fun h => ⟨trivial, by omega, fun k hk => ?_, inK64 (by omega), i + 1, ?_, by omega, by omega⟩, fun h => ⟨inK64 (by omega), i + 1, ?_, by omega, by omega⟩⟩
      · have hk0 : k = 0 := by omega
        subst hk0
        exact ⟨rfl, rfl⟩
      · rw [e1] at h
        unfold chStep at hs
        rw [if_pos (of_decide_eq_true h)] at hs
        rw [hs, List.length_append]
        exact sle_of ⟨rfl, VLe.refl _, rfl, VLe.refl _, rfl, VLe.refl _, rfl, VLe.refl _, rfl, vle_int (by omega), trivial⟩ ⟨rfl, ble_push rfl rfl, trivial⟩
      · rw [e1] at h
        unfold chStep at hs
        rw [if_neg (of_decide_eq_false h)] at hs
        rw [hs]
        exact sle_of ⟨rfl, VLe.refl _, rfl, VLe.refl _, rfl, VLe.refl _, rfl, VLe.refl _, rfl, vle_int (by omega), trivial⟩ ⟨rfl, BLe.refl _, trivial⟩
    · rw [e0] at h
      have h1 := of_decide_eq_false h
      have he : chTo f l view i = chL f l view := by
        unfold chL
        by_cases hil : i < l.length
        · have := chTo_full (fun g => h1 ⟨hil, g⟩) (l.length - i)
          rw [← this]
          congr 1
          omega
        · have : i = l.length := by omega
          rw [this]
      rw [he]
      exact ⟨VLe.refl _, BLe.refl _, trivial⟩
  exact Eq.mp (by kernel_rfl) key
theorem so34o : Sound Tryz.prog 34 sp34o := by
  refine sound_of_bodyO hmix (tpl := [(0, 1)]) Tryz.func34 rfl (by kernel_rfl) fun args bin ob r bout hDe hob => ?_
  unfold sp34o at hDe
  split at hDe
  · rename_i a0 a1 a2
    cases hDe
    exact ⟨Nat.le_of_ble_eq_true (by kernel_rfl), cx34o a0 ((decL decMsg) a1) a2, Eq.mp (by kernel_rfl) htt, Eq.mp (by kernel_rfl) da34o, Eq.mp (by kernel_rfl) (noM_sound (P := Tryz.prog)), by kernel_rfl, [.int .i64 (a0), encL (encMsg 1) 1 (((decL decMsg) a1)), .int .i64 (a2)], [], args_of_vles (⟨VLe.refl _, hob.1, VLe.refl _, trivial⟩), trivial, Eq.mp (by kernel_rfl) (bd34o a0 ((decL decMsg) a1) a2 (hob.2))⟩
  · cases hDe

noncomputable def changesForF (f : Int) (l : List Msg) (view : Int) : IntsResult :=
  if ledgerFault f l ≠ 0 then ⟨ledgerFault f l, []⟩ else if ¬ inR view 0 20 then ⟨3, []⟩ else ⟨0, chL f l view⟩
theorem changesForF_len (f : Int) (l : List Msg) (view : Int) : (changesForF f l view).list.length ≤ 240 := by
  unfold changesForF
  split
  · simp
  · rename_i h0
    split
    · simp
    · exact Nat.le_trans (chTo_len _ _ _ _) (right_of (Classical.not_not.1 h0)).len

end Go.Av
