/- New views that are right. -/
import Derived.Test.YtakcaanpnmkccaaGreatE9
import Derived.Test.YtakcaanpnmkccaaGreatI1
import Derived.Test.YtakcaanpnmkccaaGreatF1
namespace Go.Av
open Go.Proofs
set_option maxRecDepth 100000
set_option linter.unusedVariables false
set_option linter.unusedSimpArgs false


/-! ### spec.l9Primary -/
def pr55 (f : Int) (view : Int) : Prop := okF f ∧ inR view 0 20
noncomputable def rs55 (f : Int) (view : Int) : V := .int .i64 (primaryF f view)
noncomputable def sp55 : FSpec := fun args bin => match args, bin with
  | [.int .i64 a0, .int .i64 a1], [] => some (pr55 a0 a1, rs55 a0 a1, [])
  | _, _ => none
noncomputable def D55 : Nat → Option (Bool × FSpec) := lk []
theorem da55 : SoundAll Tryz.prog D55 := soundAll_nil
noncomputable def cx55 (f : Int) (view : Int) : Cx := ⟨tt, D55, Tryz.f55.ntmps, [0, 1, 4], [], [], fun _ => none, [], noM, []⟩
theorem bd55 (f : Int) (view : Int) (hpre : pr55 f view) : bodyP (cx55 f view) Tryz.f55 0 [.int .i64 (f), .int .i64 (view)] (fun rr => VLe rr (rs55 f view)) := by
  have key : ((inK IntKind.i64 ((3 : Int) * f)) ∧ ((inK IntKind.i64 ((3 : Int) * f + (1 : Int))) ∧ (((3 : Int) * f + (1 : Int) ≠ (0 : Int)) ∧ ((inK IntKind.i64 ((1 : Int) + Int.tmod view ((3 : Int) * f + (1 : Int)))) ∧ (VLe (vi ((1 : Int) + Int.tmod view ((3 : Int) * f + (1 : Int)))) (vi (primaryF f view))))))) := by
    delta vi
    obtain ⟨hf, hv⟩ := hpre
    have hf' : 1 ≤ f ∧ f ≤ 2 := by unfold okF at hf; omega
    unfold inR at hv
    have h1 : 0 ≤ view.tmod (3 * f + 1) := Int.tmod_nonneg _ hv.1
    have h2 : view.tmod (3 * f + 1) < 3 * f + 1 := Int.tmod_lt_of_pos _ (by omega)
    exact ⟨inK64 (by omega), inK64 (by omega), by omega, inK64 (by omega), VLe.refl _⟩
  exact Eq.mp (by kernel_rfl) key
theorem so55 : Sound Tryz.prog 55 sp55 := by
  refine sound_of_body hmix (pol := 0) Tryz.func55 rfl (by kernel_rfl) fun args bin ob r bout hDe hob => ?_
  unfold sp55 at hDe
  split at hDe
  · rename_i a0 a1
    cases hDe
    exact ⟨rfl, rfl, Nat.le_of_ble_eq_true (by kernel_rfl), cx55 a0 a1, Eq.mp (by kernel_rfl) htt, Eq.mp (by kernel_rfl) da55, Eq.mp (by kernel_rfl) (noM_sound (P := Tryz.prog)), by kernel_rfl, [.int .i64 (a0), .int .i64 (a1)], args_of_vles (⟨VLe.refl _, VLe.refl _, trivial⟩), Eq.mp (by kernel_rfl) (bd55 a0 a1 (hob))⟩
  · cases hDe

/-! ### impl.primary -/
def pr37 (f : Int) (view : Int) : Prop := okF f ∧ inR view 0 20
noncomputable def rs37 (f : Int) (view : Int) : V := .int .i64 (primaryF f view)
noncomputable def sp37 : FSpec := fun args bin => match args, bin with
  | [.int .i64 a0, .int .i64 a1], [] => some (pr37 a0 a1, rs37 a0 a1, [])
  | _, _ => none
noncomputable def D37 : Nat → Option (Bool × FSpec) := lk [(38, (false, sp38))]
theorem da37 : SoundAll Tryz.prog D37 := soundAll_cons so38 (soundAll_nil)
noncomputable def cx37 (f : Int) (view : Int) : Cx := ⟨tt, D37, Tryz.f37.ntmps, [0, 1, 4], [], [], fun _ => none, [], noM, []⟩
theorem bd37 (f : Int) (view : Int) (hpre : pr37 f view) : bodyP (cx37 f view) Tryz.f37 0 [.int .i64 (f), .int .i64 (view)] (fun rr => VLe rr (rs37 f view)) := by
  have key : ((pr38 f) ∧ (((3 : Int) * f + (1 : Int) ≠ (0 : Int)) ∧ ((inK IntKind.i64 ((1 : Int) + Int.tmod view ((3 : Int) * f + (1 : Int)))) ∧ (VLe (vi ((1 : Int) + Int.tmod view ((3 : Int) * f + (1 : Int)))) (vi (primaryF f view)))))) := by
    delta vi
    obtain ⟨hf, hv⟩ := hpre
    have hf' : 1 ≤ f ∧ f ≤ 2 := by unfold okF at hf; omega
    unfold inR at hv
    have h1 : 0 ≤ view.tmod (3 * f + 1) := Int.tmod_nonneg _ hv.1
    have h2 : view.tmod (3 * f + 1) < 3 * f + 1 := Int.tmod_lt_of_pos _ (by omega)
    exact ⟨hf, by omega, inK64 (by omega), VLe.refl _⟩
  exact Eq.mp (by kernel_rfl) key
theorem so37 : Sound Tryz.prog 37 sp37 := by
  refine sound_of_body hmix (pol := 0) Tryz.func37 rfl (by kernel_rfl) fun args bin ob r bout hDe hob => ?_
  unfold sp37 at hDe
  split at hDe
  · rename_i a0 a1
    cases hDe
    exact ⟨rfl, rfl, Nat.le_of_ble_eq_true (by kernel_rfl), cx37 a0 a1, Eq.mp (by kernel_rfl) htt, Eq.mp (by kernel_rfl) da37, Eq.mp (by kernel_rfl) (noM_sound (P := Tryz.prog)), by kernel_rfl, [.int .i64 (a0), .int .i64 (a1)], args_of_vles (⟨VLe.refl _, VLe.refl _, trivial⟩), Eq.mp (by kernel_rfl) (bd37 a0 a1 (hob))⟩
  · cases hDe

/-- The senders of the first so many places. -/
def sendersAt (l : List Msg) (ps : List Int) (i : Nat) : List Int := (ps.take i).map fun p => (atM l p).sender
theorem sendersAt_len (l : List Msg) (ps : List Int) {i : Nat} (h : i ≤ ps.length) : (sendersAt l ps i).length = i := by simp [sendersAt]; omega
theorem sendersAt_succ (l : List Msg) (ps : List Int) {i : Nat} (h : i < ps.length) : sendersAt l ps (i + 1) = sendersAt l ps i ++ [(atM l (ps.getD i default)).sender] := by
  unfold sendersAt
  rw [List.take_add_one, List.map_append]
  congr 1
  simp [h]
theorem sendersAt_mem (l : List Msg) (ps : List Int) (i : Nat) (w : Int) : w ∈ sendersAt l ps i ↔ standsIn l (ps.take i) w := by
  unfold sendersAt standsIn
  exact List.mem_map
theorem newOk_entry {f : Int} {l : List Msg} {k : Int} (h : newOk f l k) {i : Nat} (hi : i < (atM l k).refs.length) : newEntry f l (atM l k) i := h.2.2.2.2 i hi

/-! ### spec.l10New -/
def pr30 (f : Int) (l : List Msg) (at_ : Int) : Prop := Right f l ∧ bdL l
noncomputable def rs30 (f : Int) (l : List Msg) (at_ : Int) : V := .bool (decide (newOk f l at_))
noncomputable def sp30 : FSpec := fun args bin => match args, bin with
  | [.int .i64 a0, a1, .int .i64 a2], [] => some (VLe a1 (encL (encMsg 1) 1 (((decL decMsg) a1))) ∧ pr30 a0 ((decL decMsg) a1) a2, rs30 a0 ((decL decMsg) a1) a2, [])
  | _, _ => none
noncomputable def in30_7 (f : Int) (l : List Msg) (at_ : Int) : LoopInv :=
  ⟨Nat, fun i => ⟨[(0, .int .i64 f), (1, encL (encMsg 1) 1 l), (7, encPMsg 1 (atM l at_)), (8, .int .i64 i)], []⟩, fun i => i ≤ (atM l at_).refs.length ∧ ∀ j, j < i → newEntry f l (atM l at_) j, fun i => (atM l at_).refs.length - i⟩
noncomputable def iv30 (f : Int) (l : List Msg) (at_ : Int) : Nat → Option LoopInv := fun rg_ => match rg_ with
  | 7 => some (in30_7 f l at_)
  | _ => none
noncomputable def D30 : Nat → Option (Bool × FSpec) := lk [(66, (false, sp66)), (55, (false, sp55)), (56, (false, sp56)), (67, (false, sp67)), (68, (false, sp68))]
theorem da30 : SoundAll Tryz.prog D30 := soundAll_cons so66 (soundAll_cons so55 (soundAll_cons so56 (soundAll_cons so67 (soundAll_cons so68 (soundAll_nil)))))
noncomputable def cx30 (f : Int) (l : List Msg) (at_ : Int) : Cx := ⟨tt, D30, Tryz.f30.ntmps, [0, 1, 2, 6, 7, 8, 12, 43, 50, 102], [(7, ⟨[(0, none), (1, none), (7, none), (8, none)], []⟩)], [], iv30 f l at_, [], noM, []⟩
noncomputable def k30_0 (l : List Msg) (at_ : Int) (x : Nat) : V := (V.sl (Int.toNat (Option.getD (some (↑x : Int)) (↑(List.length (Msg.refs (atM l at_))) : Int)) - 0) (match (motive := Option Int → Nat → V) none with | none => gL encI (Msg.refs (atM l at_)) | some val => dropg (gL encI (Msg.refs (atM l at_))) 0) 1)
noncomputable def k30_1 (l : List Msg) : Prop := (VLe (encL (encMsg 1) 1 l) (encL (encMsg 1) 1 (decL decMsg (encL (encMsg 1) 1 l))))
theorem bd30 (f : Int) (l : List Msg) (at_ : Int) (hpre : pr30 f l at_) : bodyP (cx30 f l at_) Tryz.f30 0 [.int .i64 (f), encL (encMsg 1) 1 (l), .int .i64 (at_)] (fun rr => VLe rr (rs30 f l at_)) := by
  have key : (((k30_1 l) ∧ (pr66 (decL decMsg (encL (encMsg 1) 1 l)) at_ (5 : Int))) ∧ ((((!decide (isAt (decL decMsg (encL (encMsg 1) 1 l)) at_ (5 : Int))) = true) → (VLe (V.bool false) (V.bool (decide (newOk f l at_))))) ∧ (((!decide (isAt (decL decMsg (encL (encMsg 1) 1 l)) at_ (5 : Int))) = false) → ((((0 : Int) ≤ at_) ∧ (at_ < (↑(List.length l) : Int))) ∧ ((tq (!decide (Msg.view (List.getD l (Int.toNat at_) default) < (1 : Int)))) ∧ ((tq (!decide (Msg.view (List.getD l (Int.toNat at_) default) < (1 : Int)))) ∧ ((tq (!decide (Msg.view (List.getD l (Int.toNat at_) default) < (1 : Int)))) ∧ ((tq (!decide (Msg.view (List.getD l (Int.toNat at_) default) < (1 : Int)))) ∧ ((tq (!decide (Msg.view (List.getD l (Int.toNat at_) default) < (1 : Int)))) ∧ ((tq (!decide (Msg.view (List.getD l (Int.toNat at_) default) < (1 : Int)))) ∧ ((tq (!decide (Msg.view (List.getD l (Int.toNat at_) default) < (1 : Int)))) ∧ ((tq (!decide (Msg.view (List.getD l (Int.toNat at_) default) < (1 : Int)))) ∧ ((((!decide (Msg.view (List.getD l (Int.toNat at_) default) < (1 : Int))) = true) → (pr55 f (Msg.view (List.getD l (Int.toNat at_) default)))) ∧ ((tq (!decide (Msg.view (List.getD l (Int.toNat at_) default) < (1 : Int)))) ∧ ((tq (!decide (Msg.view (List.getD l (Int.toNat at_) default) < (1 : Int)))) ∧ (((true = true) → ((decide (Msg.view (List.getD l (Int.toNat at_) default) < (1 : Int)) = false) → ((!decide (Msg.view (List.getD l (Int.toNat at_) default) < (1 : Int))) = true))) ∧ (∀ b : Bool, ((b = bif decide (Msg.view (List.getD l (Int.toNat at_) default) < (1 : Int)) then true else Msg.sender (List.getD l (Int.toNat at_) default) != primaryF f (Msg.view (List.getD l (Int.toNat at_) default))) → ((tq (!b)) ∧ ((tq (!b)) ∧ ((tq (!b)) ∧ ((tq (!b)) ∧ ((tq (!b)) ∧ ((((!b) = true) → (pr56 f)) ∧ ((tq (!b)) ∧ ((tq (!b)) ∧ (((true = true) → ((b = false) → ((!b) = true))) ∧ (∀ b_1 : Bool, ((b_1 = bif b then true else decide ((↑(List.length (Msg.refs (List.getD l (Int.toNat at_) default))) : Int) < (2 : Int) * f + (1 : Int))) → (((b_1 = true) → (VLe (V.bool false) (V.bool (decide (newOk f l at_))))) ∧ ((b_1 = false) → ((∃ x : Nat, ((SLe (AS.mk [(0, vi f), (1, encL (encMsg 1) 1 l), (7, encPMsg 1 (List.getD l (Int.toNat at_) default)), (8, vi (0 : Int))] []) (AS.mk [(0, vi f), (1, encL (encMsg 1) 1 l), (7, encPMsg 1 (atM l at_)), (8, vi (↑x : Int))] [])) ∧ ((x ≤ List.length (Msg.refs (atM l at_))) ∧ (∀ j : Nat, ((j < x) → (newEntry f l (atM l at_) j)))))) ∧ (∀ x : Nat, (((x ≤ List.length (Msg.refs (atM l at_))) ∧ (∀ j : Nat, ((j < x) → (newEntry f l (atM l at_) j)))) → (((decide ((↑x : Int) < (↑(List.length (Msg.refs (atM l at_))) : Int)) = true) → ((((0 : Int) ≤ (↑x : Int)) ∧ ((↑x : Int) < (↑(List.length (Msg.refs (atM l at_))) : Int))) ∧ (((k30_1 l) ∧ (pr67 f (decL decMsg (encL (encMsg 1) 1 l)) (List.getD (Msg.refs (atM l at_)) (Int.toNat (↑x : Int)) default))) ∧ ((tq (!!decide (changeOk f (decL decMsg (encL (encMsg 1) 1 l)) (List.getD (Msg.refs (atM l at_)) (Int.toNat (↑x : Int)) default)))) ∧ ((tq (!!decide (changeOk f (decL decMsg (encL (encMsg 1) 1 l)) (List.getD (Msg.refs (atM l at_)) (Int.toNat (↑x : Int)) default)))) ∧ ((tq (!!decide (changeOk f (decL decMsg (encL (encMsg 1) 1 l)) (List.getD (Msg.refs (atM l at_)) (Int.toNat (↑x : Int)) default)))) ∧ ((tq (!!decide (changeOk f (decL decMsg (encL (encMsg 1) 1 l)) (List.getD (Msg.refs (atM l at_)) (Int.toNat (↑x : Int)) default)))) ∧ ((tq (!!decide (changeOk f (decL decMsg (encL (encMsg 1) 1 l)) (List.getD (Msg.refs (atM l at_)) (Int.toNat (↑x : Int)) default)))) ∧ ((((!!decide (changeOk f (decL decMsg (encL (encMsg 1) 1 l)) (List.getD (Msg.refs (atM l at_)) (Int.toNat (↑x : Int)) default))) = true) → (((0 : Int) ≤ (↑x : Int)) ∧ ((↑x : Int) < (↑(List.length (Msg.refs (atM l at_))) : Int)))) ∧ ((tq (!!decide (changeOk f (decL decMsg (encL (encMsg 1) 1 l)) (List.getD (Msg.refs (atM l at_)) (Int.toNat (↑x : Int)) default)))) ∧ ((tq (!!decide (changeOk f (decL decMsg (encL (encMsg 1) 1 l)) (List.getD (Msg.refs (atM l at_)) (Int.toNat (↑x : Int)) default)))) ∧ ((tq (!!decide (changeOk f (decL decMsg (encL (encMsg 1) 1 l)) (List.getD (Msg.refs (atM l at_)) (Int.toNat (↑x : Int)) default)))) ∧ ((((!!decide (changeOk f (decL decMsg (encL (encMsg 1) 1 l)) (List.getD (Msg.refs (atM l at_)) (Int.toNat (↑x : Int)) default))) = true) → (((0 : Int) ≤ List.getD (Msg.refs (atM l at_)) (Int.toNat (↑x : Int)) default) ∧ (List.getD (Msg.refs (atM l at_)) (Int.toNat (↑x : Int)) default < (↑(List.length l) : Int)))) ∧ ((tq (!!decide (changeOk f (decL decMsg (encL (encMsg 1) 1 l)) (List.getD (Msg.refs (atM l at_)) (Int.toNat (↑x : Int)) default)))) ∧ ((tq (!!decide (changeOk f (decL decMsg (encL (encMsg 1) 1 l)) (List.getD (Msg.refs (atM l at_)) (Int.toNat (↑x : Int)) default)))) ∧ ((tq (!!decide (changeOk f (decL decMsg (encL (encMsg 1) 1 l)) (List.getD (Msg.refs (atM l at_)) (Int.toNat (↑x : Int)) default)))) ∧ ((tq (!!decide (changeOk f (decL decMsg (encL (encMsg 1) 1 l)) (List.getD (Msg.refs (atM l at_)) (Int.toNat (↑x : Int)) default)))) ∧ ((tq (!!decide (changeOk f (decL decMsg (encL (encMsg 1) 1 l)) (List.getD (Msg.refs (atM l at_)) (Int.toNat (↑x : Int)) default)))) ∧ ((tq (!!decide (changeOk f (decL decMsg (encL (encMsg 1) 1 l)) (List.getD (Msg.refs (atM l at_)) (Int.toNat (↑x : Int)) default)))) ∧ ((tq (!!decide (changeOk f (decL decMsg (encL (encMsg 1) 1 l)) (List.getD (Msg.refs (atM l at_)) (Int.toNat (↑x : Int)) default)))) ∧ (((true = true) → (((!decide (changeOk f (decL decMsg (encL (encMsg 1) 1 l)) (List.getD (Msg.refs (atM l at_)) (Int.toNat (↑x : Int)) default))) = false) → ((!!decide (changeOk f (decL decMsg (encL (encMsg 1) 1 l)) (List.getD (Msg.refs (atM l at_)) (Int.toNat (↑x : Int)) default))) = true))) ∧ (∀ b_2 : Bool, ((b_2 = bif !decide (changeOk f (decL decMsg (encL (encMsg 1) 1 l)) (List.getD (Msg.refs (atM l at_)) (Int.toNat (↑x : Int)) default)) then true else Msg.view (List.getD l (Int.toNat (List.getD (Msg.refs (atM l at_)) (Int.toNat (↑x : Int)) default)) default) != Msg.view (atM l at_)) → ((tq (!b_2)) ∧ ((tq (!b_2)) ∧ ((tq (!b_2)) ∧ ((tq (!b_2)) ∧ ((tq (!b_2)) ∧ ((((!b_2) = true) → (((0 : Int) ≤ Option.getD none (0 : Int)) ∧ ((Option.getD none (0 : Int) ≤ Option.getD (some (↑x : Int)) (↑(List.length (Msg.refs (atM l at_))) : Int)) ∧ (Option.getD (some (↑x : Int)) (↑(List.length (Msg.refs (atM l at_))) : Int) ≤ (↑(List.length (Msg.refs (atM l at_))) : Int))))) ∧ ((((!b_2) = true) → (sizedL 1 (List.length (Msg.refs (atM l at_))) (gL encI (Msg.refs (atM l at_))))) ∧ ((tq (!b_2)) ∧ ((tq (!b_2)) ∧ ((tq (!b_2)) ∧ ((tq (!b_2)) ∧ ((tq (!b_2)) ∧ ((((!b_2) = true) → (((0 : Int) ≤ (↑x : Int)) ∧ ((↑x : Int) < (↑(List.length (Msg.refs (atM l at_))) : Int)))) ∧ ((tq (!b_2)) ∧ ((tq (!b_2)) ∧ ((tq (!b_2)) ∧ ((((!b_2) = true) → (((0 : Int) ≤ List.getD (Msg.refs (atM l at_)) (Int.toNat (↑x : Int)) default) ∧ (List.getD (Msg.refs (atM l at_)) (Int.toNat (↑x : Int)) default < (↑(List.length l) : Int)))) ∧ ((tq (!b_2)) ∧ ((tq (!b_2)) ∧ ((tq (!b_2)) ∧ ((tq (!b_2)) ∧ ((tq (!b_2)) ∧ ((((!b_2) = true) → ((k30_1 l) ∧ ((VLe (k30_0 l at_ x) (encL encI 1 (decL decI (k30_0 l at_ x)))) ∧ (pr68 (decL decMsg (encL (encMsg 1) 1 l)) (decL decI (k30_0 l at_ x)) (Msg.sender (List.getD l (Int.toNat (List.getD (Msg.refs (atM l at_)) (Int.toNat (↑x : Int)) default)) default)))))) ∧ (((true = true) → ((b_2 = false) → ((!b_2) = true))) ∧ (∀ b_3 : Bool, ((b_3 = bif b_2 then true else decide (standsIn (decL decMsg (encL (encMsg 1) 1 l)) (decL decI (k30_0 l at_ x)) (Msg.sender (List.getD l (Int.toNat (List.getD (Msg.refs (atM l at_)) (Int.toNat (↑x : Int)) default)) default)))) → (((b_3 = true) → (VLe (V.bool false) (V.bool (decide (newOk f l at_))))) ∧ ((b_3 = false) → ((inK IntKind.i64 ((↑x : Int) + (1 : Int))) ∧ (∃ y : Nat, ((SLe (AS.mk [(0, vi f), (1, encL (encMsg 1) 1 l), (7, encPMsg 1 (atM l at_)), (8, vi ((↑x : Int) + (1 : Int)))] []) (AS.mk [(0, vi f), (1, encL (encMsg 1) 1 l), (7, encPMsg 1 (atM l at_)), (8, vi (↑y : Int))] [])) ∧ (((y ≤ List.length (Msg.refs (atM l at_))) ∧ (∀ j : Nat, ((j < y) → (newEntry f l (atM l at_) j)))) ∧ (List.length (Msg.refs (atM l at_)) - y < List.length (Msg.refs (atM l at_)) - x)))))))))))))))))))))))))))))))))))))))))))))))))))))))) ∧ ((decide ((↑x : Int) < (↑(List.length (Msg.refs (atM l at_))) : Int)) = false) → (VLe (V.bool true) (V.bool (decide (newOk f l at_)))))))))))))))))))))))))))))))))))))))) := by
    delta k30_1; delta k30_0; delta vi
    obtain ⟨hr, hl⟩ := hpre
    have h240 := hr.len
    have hf' : 1 ≤ f ∧ f ≤ 2 := by have := hr.okf; unfold okF at this; omega
    have hlen : (List.getD l at_.toNat default) = atM l at_ := rfl
    simp only [decL_Msg, dec_encCert, decL_ints, Int.toNat_natCast, hlen]
    refine ⟨⟨VLe.refl _, hr.len⟩, fun h => ?_, fun h => ?_⟩
    · have h1 : ¬ isAt l at_ 5 := by simpa using h
      exact vle_bool (by simp [newOk, h1])
    have hA : isAt l at_ 5 := by simpa using h
    have hI := hA.1
    have hi0 := hI
    unfold inL inR at hi0
    have hg := hr.memGood (atM_mem hI)
    have hb := bdL_mem hl (atM_mem hI)
    have hview := hg.ranged.1
    refine ⟨by omega, ?_⟩
    repeat (first | (refine And.intro (fun h _ => h) ?_) | (refine And.intro (fun _ h => h) ?_) | (refine And.intro ?aa ?_; case aa => (exact fun _ => ⟨hr.okf, hview⟩)) | (refine And.intro ?aa ?_; case aa => (exact fun _ => hr.okf)) | (refine And.intro ?aa ?_; case aa => (intros; simp_all [pr66, pr55, pr56, pr67, pr68]; done)) | (refine And.intro ?aa ?_; case aa => (intros; exact inK64 (by omega))) | (refine And.intro ?aa ?_; case aa => (intros; simp only [decide_eq_true_eq] at *; omega)) | (intro q hq))
    rename_i b hb1
    have e0 : q = decide (¬ (0 < (atM l at_).view ∧ (atM l at_).sender = primaryF f (atM l at_).view ∧ 2 * f + 1 ≤ ((atM l at_).refs.length : Int))) := by
      subst_vars
      rw [Bool.eq_iff_iff]
      by_cases h1 : 0 < (atM l at_).view <;> by_cases h2 : (atM l at_).sender = primaryF f (atM l at_).view <;> simp [h1, h2] <;> omega
    clear hb1 hq
    refine ⟨fun h => ?_, fun h => ?_⟩
    · rw [e0] at h
      have h1 := of_decide_eq_true h
      have : ¬ newOk f l at_ := fun g => h1 ⟨g.2.1, g.2.2.1, g.2.2.2.1⟩
      exact vle_bool (by simp [this])
    rw [e0] at h
    obtain ⟨h1, h2, h3⟩ := Classical.not_not.1 (of_decide_eq_false h)
    have hfew := hg.few.2
    refine ⟨⟨0, SLe.refl _, by omega, fun j hj => absurd hj (Nat.not_lt_zero j)⟩, ?_⟩
    rintro i ⟨hi, hj⟩
    refine ⟨fun h => ?_, fun h => ?_⟩
    · have hlt : i < (atM l at_).refs.length := by simpa using h
      have ht : decL decI (V.sl i (gL encI (atM l at_).refs) 1) = (atM l at_).refs.take i := decL_take decI_encI 1 (atM l at_).refs i hi
      have hv : VLe (V.sl i (gL encI (atM l at_).refs) 1) (encL encI 1 ((atM l at_).refs.take i)) := by
        refine vle_encL_eq (by simp; omega) (fun k hk => ?_) (Or.inl rfl)
        have hk' : k < i := by simp at hk; omega
        simp [gL, hk', show k < (atM l at_).refs.length by omega]
      have hp : changeOk f l ((atM l at_).refs.getD i default) → 0 ≤ (atM l at_).refs.getD i default ∧ (atM l at_).refs.getD i default < (l.length : Int) := fun g => by
        have := g.1.1
        unfold inL inR at this
        omega
      have hps : pr68 l ((atM l at_).refs.take i) (atM l ((atM l at_).refs.getD i default)).sender := by
        refine ⟨by unfold maxLen; simp; omega, fun p hp => ?_⟩
        obtain ⟨j, hj', rfl⟩ := List.getElem_of_mem hp
        have hji : j < i := by simp at hj'; omega
        have := (hj j hji).1.1.1
        simpa [show j < (atM l at_).refs.length by omega] using this
      have hlr : (List.getD l ((atM l at_).refs.getD i default).toNat default) = atM l ((atM l at_).refs.getD i default) := rfl
      simp only [Option.getD_some, Option.getD_none, Int.toNat_natCast, Nat.sub_zero, ht, hlr]
      repeat (first | (refine And.intro (fun h _ => h) ?_) | (refine And.intro (fun _ h => h) ?_) | (refine And.intro ?aa ?_; case aa => (exact ⟨by omega, by omega⟩)) | (refine And.intro ?aa ?_; case aa => (exact ⟨VLe.refl _, hr, hl⟩)) | (refine And.intro ?aa ?_; case aa => (exact fun g => hp (by simpa using g))) | (refine And.intro ?aa ?_; case aa => (exact fun _ => ⟨by omega, by omega⟩)) | (refine And.intro ?aa ?_; case aa => (exact fun _ => ⟨by omega, by omega, by omega⟩)) | (refine And.intro ?aa ?_; case aa => (exact fun _ k hk => ⟨rfl, rfl⟩)) | (refine And.intro ?aa ?_; case aa => (exact fun _ => ⟨VLe.refl _, hv, hps⟩)) | (refine And.intro ?aa ?_; case aa => (exact fun g => hp (by simp_all))) | (refine And.intro ?aa ?_; case aa => (intros; simp_all [pr66, pr55, pr56, pr67, pr68]; done)) | (refine And.intro ?aa ?_; case aa => (intros; exact inK64 (by omega))) | (refine And.intro ?aa ?_; case aa => (intros; simp only [decide_eq_true_eq] at *; omega)) | (intro q hq))
      rename_i b2 hb2
      have e1 : q = decide (¬ newEntry f l (atM l at_) i) := by
        subst_vars
        rw [Bool.eq_iff_iff]
        unfold newEntry
        simp [or_assoc]
      clear hb2 hq
      refine ⟨fun g => ?_, fun g => ⟨inK64 (by omega), i + 1, SLe.refl _, ⟨by omega, fun j h3 => ?_⟩, by omega⟩⟩
      · rw [e1] at g
        have g1 := of_decide_eq_true g
        have : ¬ newOk f l at_ := fun gg => g1 (newOk_entry gg hlt)
        exact vle_bool (by simp [this])
      · rcases Nat.lt_or_ge j i with h4 | h4
        · exact hj j h4
        · have : j = i := by omega
          subst this
          rw [e1] at g
          exact Classical.not_not.1 (of_decide_eq_false g)
    · have hge : i = (atM l at_).refs.length := by simp at h; omega
      have : newOk f l at_ := ⟨hA, h1, h2, h3, fun j hj' => hj j (by omega)⟩
      exact vle_bool (by simp [this])
  exact Eq.mp (by kernel_rfl) key
theorem so30 : Sound Tryz.prog 30 sp30 := by
  refine sound_of_body hmix (pol := 0) Tryz.func30 rfl (by kernel_rfl) fun args bin ob r bout hDe hob => ?_
  unfold sp30 at hDe
  split at hDe
  · rename_i a0 a1 a2
    cases hDe
    exact ⟨rfl, rfl, Nat.le_of_ble_eq_true (by kernel_rfl), cx30 a0 ((decL decMsg) a1) a2, Eq.mp (by kernel_rfl) htt, Eq.mp (by kernel_rfl) da30, Eq.mp (by kernel_rfl) (noM_sound (P := Tryz.prog)), by kernel_rfl, [.int .i64 (a0), encL (encMsg 1) 1 (((decL decMsg) a1)), .int .i64 (a2)], args_of_vles (⟨VLe.refl _, hob.1, VLe.refl _, trivial⟩), Eq.mp (by kernel_rfl) (bd30 a0 ((decL decMsg) a1) a2 (hob.2))⟩
  · cases hDe

/-! ### impl.newRight -/
def pr28 (f : Int) (l : List Msg) (at_ : Int) : Prop := Right f l ∧ bdL l
noncomputable def rs28 (f : Int) (l : List Msg) (at_ : Int) : V := .bool (decide (newOk f l at_))
noncomputable def sp28 : FSpec := fun args bin => match args, bin with
  | [.int .i64 a0, a1, .int .i64 a2], [] => some (VLe a1 (encL (encMsg 1) 1 (((decL decMsg) a1))) ∧ pr28 a0 ((decL decMsg) a1) a2, rs28 a0 ((decL decMsg) a1) a2, [])
  | _, _ => none
noncomputable def in28_6 (f : Int) (l : List Msg) (at_ : Int) : LoopInv :=
  ⟨Nat, fun i => ⟨[(0, .int .i64 f), (1, encL (encMsg 1) 1 l), (7, .oref 512 0 0), (9, .osl (canonT 9) i), (40, encL encI 0 (atM l at_).refs), (41, .int .i64 (atM l at_).refs.length), (42, .int .i64 i)], [(canonT 9, .arr 1 i (gL encI (sendersAt l (atM l at_).refs i)) tagS), (512, .box (encMsg 0 (atM l at_)).cells)]⟩, fun i => i ≤ (atM l at_).refs.length ∧ ∀ j, j < i → newEntry f l (atM l at_) j, fun i => (atM l at_).refs.length - i⟩
noncomputable def iv28 (f : Int) (l : List Msg) (at_ : Int) : Nat → Option LoopInv := fun rg_ => match rg_ with
  | 6 => some (in28_6 f l at_)
  | _ => none
noncomputable def D28 : Nat → Option (Bool × FSpec) := lk [(62, (false, sp62)), (37, (false, sp37)), (35, (false, sp35)), (63, (false, sp63))]
theorem da28 : SoundAll Tryz.prog D28 := soundAll_cons so62 (soundAll_cons so37 (soundAll_cons so35 (soundAll_cons so63 (soundAll_nil))))
noncomputable def cx28 (f : Int) (l : List Msg) (at_ : Int) : Cx := ⟨tt, D28, Tryz.f28.ntmps, [0, 1, 2, 6, 7, 8, 9, 11, 37, 40, 41, 42, 43, 69], [(6, ⟨[(0, none), (1, none), (7, none), (9, some 1), (40, none), (41, none), (42, none)], [(512, [])]⟩)], [], iv28 f l at_, [], noM, []⟩
noncomputable def k28_0 (l : List Msg) (at_ : Int) : Nat × Blk := (512, Blk.box [vi (Msg.kind (atM l at_)), vi (Msg.view (atM l at_)), vi (Msg.sender (atM l at_)), vi (Msg.slot (atM l at_)), vi (Msg.value (atM l at_)), encL (encCert 1) 0 (Msg.certs (atM l at_)), encL encI 0 (Msg.refs (atM l at_))])
noncomputable def k28_1 (l : List Msg) (at_ : Int) (x : Nat) : V := (V.sl x (gL encI (sendersAt l (Msg.refs (atM l at_)) x)) 1)
theorem bd28 (f : Int) (l : List Msg) (at_ : Int) (hpre : pr28 f l at_) : bodyP (cx28 f l at_) Tryz.f28 0 [.int .i64 (f), encL (encMsg 1) 1 (l), .int .i64 (at_)] (fun rr => VLe rr (rs28 f l at_)) := by
  have key : (((VLe (encL (encMsg 1) 1 l) (encL (encMsg 1) 1 (decL decMsg (encL (encMsg 1) 1 l)))) ∧ (pr62 (decL decMsg (encL (encMsg 1) 1 l)) at_ (5 : Int))) ∧ ((tq (!!decide (isAt (decL decMsg (encL (encMsg 1) 1 l)) at_ (5 : Int) ∧ (0 : Int) < Msg.view (atM (decL decMsg (encL (encMsg 1) 1 l)) at_)))) ∧ ((tq (!!decide (isAt (decL decMsg (encL (encMsg 1) 1 l)) at_ (5 : Int) ∧ (0 : Int) < Msg.view (atM (decL decMsg (encL (encMsg 1) 1 l)) at_)))) ∧ ((tq (!!decide (isAt (decL decMsg (encL (encMsg 1) 1 l)) at_ (5 : Int) ∧ (0 : Int) < Msg.view (atM (decL decMsg (encL (encMsg 1) 1 l)) at_)))) ∧ ((tq (!!decide (isAt (decL decMsg (encL (encMsg 1) 1 l)) at_ (5 : Int) ∧ (0 : Int) < Msg.view (atM (decL decMsg (encL (encMsg 1) 1 l)) at_)))) ∧ ((((!!decide (isAt (decL decMsg (encL (encMsg 1) 1 l)) at_ (5 : Int) ∧ (0 : Int) < Msg.view (atM (decL decMsg (encL (encMsg 1) 1 l)) at_))) = true) → (pr37 f (Msg.view (ofM (decL decMsg (encL (encMsg 1) 1 l)) at_)))) ∧ ((tq (!!decide (isAt (decL decMsg (encL (encMsg 1) 1 l)) at_ (5 : Int) ∧ (0 : Int) < Msg.view (atM (decL decMsg (encL (encMsg 1) 1 l)) at_)))) ∧ ((tq (!!decide (isAt (decL decMsg (encL (encMsg 1) 1 l)) at_ (5 : Int) ∧ (0 : Int) < Msg.view (atM (decL decMsg (encL (encMsg 1) 1 l)) at_)))) ∧ (((true = true) → (((!decide (isAt (decL decMsg (encL (encMsg 1) 1 l)) at_ (5 : Int) ∧ (0 : Int) < Msg.view (atM (decL decMsg (encL (encMsg 1) 1 l)) at_))) = false) → ((!!decide (isAt (decL decMsg (encL (encMsg 1) 1 l)) at_ (5 : Int) ∧ (0 : Int) < Msg.view (atM (decL decMsg (encL (encMsg 1) 1 l)) at_))) = true))) ∧ (∀ b : Bool, ((b = bif !decide (isAt (decL decMsg (encL (encMsg 1) 1 l)) at_ (5 : Int) ∧ (0 : Int) < Msg.view (atM (decL decMsg (encL (encMsg 1) 1 l)) at_)) then true else Msg.sender (ofM (decL decMsg (encL (encMsg 1) 1 l)) at_) != primaryF f (Msg.view (ofM (decL decMsg (encL (encMsg 1) 1 l)) at_))) → ((tq (!b)) ∧ ((tq (!b)) ∧ ((tq (!b)) ∧ ((((!b) = true) → (inK IntKind.i64 ((2 : Int) * f))) ∧ ((tq (!b)) ∧ ((((!b) = true) → (inK IntKind.i64 ((2 : Int) * f + (1 : Int)))) ∧ ((tq (!b)) ∧ ((tq (!b)) ∧ (((true = true) → ((b = false) → ((!b) = true))) ∧ (∀ b_1 : Bool, ((b_1 = bif b then true else decide ((↑(List.length (Msg.refs (ofM (decL decMsg (encL (encMsg 1) 1 l)) at_))) : Int) < (2 : Int) * f + (1 : Int))) → (((b_1 = true) → (VLe (V.bool false) (V.bool (decide (newOk f l at_))))) ∧ ((b_1 = false) → ((∃ x : Nat, ((SLe (AS.mk [(0, vi f), (1, encL (encMsg 1) 1 l), (7, V.oref 512 0 0), (9, V.osl 32000640 0), (40, encL encI 0 (Msg.refs (ofM (decL decMsg (encL (encMsg 1) 1 l)) at_))), (41, vi (↑(List.length (Msg.refs (ofM (decL decMsg (encL (encMsg 1) 1 l)) at_))) : Int)), (42, vi (0 : Int))] [(32000640, Blk.arr 1 0 (rowg []) 100), (512, Blk.box [vi (Msg.kind (ofM (decL decMsg (encL (encMsg 1) 1 l)) at_)), vi (Msg.view (ofM (decL decMsg (encL (encMsg 1) 1 l)) at_)), vi (Msg.sender (ofM (decL decMsg (encL (encMsg 1) 1 l)) at_)), vi (Msg.slot (ofM (decL decMsg (encL (encMsg 1) 1 l)) at_)), vi (Msg.value (ofM (decL decMsg (encL (encMsg 1) 1 l)) at_)), encL (encCert 1) 0 (Msg.certs (ofM (decL decMsg (encL (encMsg 1) 1 l)) at_)), encL encI 0 (Msg.refs (ofM (decL decMsg (encL (encMsg 1) 1 l)) at_))])]) (AS.mk [(0, vi f), (1, encL (encMsg 1) 1 l), (7, V.oref 512 0 0), (9, V.osl 32000640 x), (40, encL encI 0 (Msg.refs (atM l at_))), (41, vi (↑(List.length (Msg.refs (atM l at_))) : Int)), (42, vi (↑x : Int))] [(32000640, Blk.arr 1 x (gL encI (sendersAt l (Msg.refs (atM l at_)) x)) 100), (k28_0 l at_)])) ∧ ((x ≤ List.length (Msg.refs (atM l at_))) ∧ (∀ j : Nat, ((j < x) → (newEntry f l (atM l at_) j)))))) ∧ (∀ x : Nat, (((x ≤ List.length (Msg.refs (atM l at_))) ∧ (∀ j : Nat, ((j < x) → (newEntry f l (atM l at_) j)))) → (((decide ((↑x : Int) < (↑(List.length (Msg.refs (atM l at_))) : Int)) = true) → ((((0 : Int) ≤ (↑x : Int)) ∧ ((↑x : Int) < (↑(List.length (Msg.refs (atM l at_))) : Int))) ∧ (((VLe (encL (encMsg 1) 1 l) (encL (encMsg 1) 1 (decL decMsg (encL (encMsg 1) 1 l)))) ∧ (pr35 f (decL decMsg (encL (encMsg 1) 1 l)) (List.getD (Msg.refs (atM l at_)) (Int.toNat (↑x : Int)) default))) ∧ ((tq (!!decide (changeOk f (decL decMsg (encL (encMsg 1) 1 l)) (List.getD (Msg.refs (atM l at_)) (Int.toNat (↑x : Int)) default)))) ∧ ((tq (!!decide (changeOk f (decL decMsg (encL (encMsg 1) 1 l)) (List.getD (Msg.refs (atM l at_)) (Int.toNat (↑x : Int)) default)))) ∧ ((((!!decide (changeOk f (decL decMsg (encL (encMsg 1) 1 l)) (List.getD (Msg.refs (atM l at_)) (Int.toNat (↑x : Int)) default))) = true) → (((0 : Int) ≤ List.getD (Msg.refs (atM l at_)) (Int.toNat (↑x : Int)) default) ∧ (List.getD (Msg.refs (atM l at_)) (Int.toNat (↑x : Int)) default < (↑(List.length l) : Int)))) ∧ ((tq (!!decide (changeOk f (decL decMsg (encL (encMsg 1) 1 l)) (List.getD (Msg.refs (atM l at_)) (Int.toNat (↑x : Int)) default)))) ∧ ((tq (!!decide (changeOk f (decL decMsg (encL (encMsg 1) 1 l)) (List.getD (Msg.refs (atM l at_)) (Int.toNat (↑x : Int)) default)))) ∧ ((tq (!!decide (changeOk f (decL decMsg (encL (encMsg 1) 1 l)) (List.getD (Msg.refs (atM l at_)) (Int.toNat (↑x : Int)) default)))) ∧ ((tq (!!decide (changeOk f (decL decMsg (encL (encMsg 1) 1 l)) (List.getD (Msg.refs (atM l at_)) (Int.toNat (↑x : Int)) default)))) ∧ ((tq (!!decide (changeOk f (decL decMsg (encL (encMsg 1) 1 l)) (List.getD (Msg.refs (atM l at_)) (Int.toNat (↑x : Int)) default)))) ∧ (((true = true) → (((!decide (changeOk f (decL decMsg (encL (encMsg 1) 1 l)) (List.getD (Msg.refs (atM l at_)) (Int.toNat (↑x : Int)) default))) = false) → ((!!decide (changeOk f (decL decMsg (encL (encMsg 1) 1 l)) (List.getD (Msg.refs (atM l at_)) (Int.toNat (↑x : Int)) default))) = true))) ∧ (∀ b_2 : Bool, ((b_2 = bif !decide (changeOk f (decL decMsg (encL (encMsg 1) 1 l)) (List.getD (Msg.refs (atM l at_)) (Int.toNat (↑x : Int)) default)) then true else Msg.view (List.getD l (Int.toNat (List.getD (Msg.refs (atM l at_)) (Int.toNat (↑x : Int)) default)) default) != Msg.view (atM l at_)) → ((tq (!b_2)) ∧ ((tq (!b_2)) ∧ ((((!b_2) = true) → (((0 : Int) ≤ List.getD (Msg.refs (atM l at_)) (Int.toNat (↑x : Int)) default) ∧ (List.getD (Msg.refs (atM l at_)) (Int.toNat (↑x : Int)) default < (↑(List.length l) : Int)))) ∧ ((tq (!b_2)) ∧ ((tq (!b_2)) ∧ ((tq (!b_2)) ∧ ((tq (!b_2)) ∧ ((((!b_2) = true) → ((VLe (k28_1 l at_ x) (encL encI 1 (decL decI (k28_1 l at_ x)))) ∧ (pr63 (decL decI (k28_1 l at_ x)) (Msg.sender (List.getD l (Int.toNat (List.getD (Msg.refs (atM l at_)) (Int.toNat (↑x : Int)) default)) default))))) ∧ (((true = true) → ((b_2 = false) → ((!b_2) = true))) ∧ (∀ b_3 : Bool, ((b_3 = bif b_2 then true else decide (Msg.sender (List.getD l (Int.toNat (List.getD (Msg.refs (atM l at_)) (Int.toNat (↑x : Int)) default)) default) ∈ decL decI (k28_1 l at_ x))) → (((b_3 = true) → (VLe (V.bool false) (V.bool (decide (newOk f l at_))))) ∧ ((b_3 = false) → ((((0 : Int) ≤ List.getD (Msg.refs (atM l at_)) (Int.toNat (↑x : Int)) default) ∧ (List.getD (Msg.refs (atM l at_)) (Int.toNat (↑x : Int)) default < (↑(List.length l) : Int))) ∧ ((x = x) ∧ ((x + 1 ≤ 1073741824) ∧ ((sizedL 1 1 (rowg [vi (Msg.sender (List.getD l (Int.toNat (List.getD (Msg.refs (atM l at_)) (Int.toNat (↑x : Int)) default)) default))])) ∧ ((inK IntKind.i64 ((↑x : Int) + (1 : Int))) ∧ (∃ y : Nat, ((SLe (AS.mk [(0, vi f), (1, encL (encMsg 1) 1 l), (7, V.oref 512 0 0), (9, V.osl 32000640 (x + 1)), (40, encL encI 0 (Msg.refs (atM l at_))), (41, vi (↑(List.length (Msg.refs (atM l at_))) : Int)), (42, vi ((↑x : Int) + (1 : Int)))] [(32000640, Blk.arr 1 (x + 1) (appg x (gL encI (sendersAt l (Msg.refs (atM l at_)) x)) (rowg [vi (Msg.sender (List.getD l (Int.toNat (List.getD (Msg.refs (atM l at_)) (Int.toNat (↑x : Int)) default)) default))])) 100), (k28_0 l at_)]) (AS.mk [(0, vi f), (1, encL (encMsg 1) 1 l), (7, V.oref 512 0 0), (9, V.osl 32000640 y), (40, encL encI 0 (Msg.refs (atM l at_))), (41, vi (↑(List.length (Msg.refs (atM l at_))) : Int)), (42, vi (↑y : Int))] [(32000640, Blk.arr 1 y (gL encI (sendersAt l (Msg.refs (atM l at_)) y)) 100), (k28_0 l at_)])) ∧ (((y ≤ List.length (Msg.refs (atM l at_))) ∧ (∀ j : Nat, ((j < y) → (newEntry f l (atM l at_) j)))) ∧ (List.length (Msg.refs (atM l at_)) - y < List.length (Msg.refs (atM l at_)) - x)))))))))))))))))))))))))))))))))))) ∧ ((decide ((↑x : Int) < (↑(List.length (Msg.refs (atM l at_))) : Int)) = false) → (VLe (V.bool true) (V.bool (decide (newOk f l at_))))))))))))))))))))))))))))))))) := by
    delta k28_1; delta k28_0; delta vi
    obtain ⟨hr, hl⟩ := hpre
    have h240 := hr.len
    have hf' : 1 ≤ f ∧ f ≤ 2 := by have := hr.okf; unfold okF at this; omega
    simp only [decL_Msg, dec_encCert, decL_ints, Int.toNat_natCast]
    have hA' : decide (isAt l at_ 5 ∧ 0 < (atM l at_).view) = true → ofM l at_ = atM l at_ := fun h => if_pos (of_decide_eq_true h).1.1
    have hV' : decide (isAt l at_ 5 ∧ 0 < (atM l at_).view) = true → inR (ofM l at_).view 0 20 := fun h => by
      rw [hA' h]
      exact (hr.memGood (atM_mem (of_decide_eq_true h).1.1)).ranged.1
    repeat (first | (refine And.intro (fun h _ => h) ?_) | (refine And.intro (fun _ h => h) ?_) | (refine And.intro ?aa ?_; case aa => (exact ⟨VLe.refl _, hr.len⟩)) | (refine And.intro ?aa ?_; case aa => (exact fun g => ⟨hr.okf, hV' (by simpa using g)⟩)) | (refine And.intro ?aa ?_; case aa => (intros; simp_all [pr62, pr37, pr35, pr63]; done)) | (refine And.intro ?aa ?_; case aa => (intros; exact inK64 (by omega))) | (refine And.intro ?aa ?_; case aa => (intros; simp only [decide_eq_true_eq] at *; omega)) | (intro q hq))
    have e0 : q = decide (¬ (isAt l at_ 5 ∧ 0 < (atM l at_).view ∧ (atM l at_).sender = primaryF f (atM l at_).view ∧ 2 * f + 1 ≤ ((atM l at_).refs.length : Int))) := by
      subst_vars
      rw [Bool.eq_iff_iff]
      by_cases h1 : isAt l at_ 5 ∧ 0 < (atM l at_).view
      · rw [hA' (by simpa using h1)]
        by_cases h2 : (atM l at_).sender = primaryF f (atM l at_).view <;> simp [h1, h2] <;> omega
      · by_cases h2 : isAt l at_ 5 <;> by_cases h3 : 0 < (atM l at_).view <;> simp [h2, h3] <;> exact absurd ⟨h2, h3⟩ h1
    clear hq
    refine ⟨fun h => ?_, fun h => ?_⟩
    · rw [e0] at h
      have h1 := of_decide_eq_true h
      have : ¬ newOk f l at_ := fun g => h1 ⟨g.1, g.2.1, g.2.2.1, g.2.2.2.1⟩
      exact vle_bool (by simp [this])
    rw [e0] at h
    obtain ⟨hA, h1, h2, h3⟩ := Classical.not_not.1 (of_decide_eq_false h)
    rw [hA' (by simp [hA, h1])]
    have hI := hA.1
    have hi0 := hI
    unfold inL inR at hi0
    have hg := hr.memGood (atM_mem hI)
    have hb := bdL_mem hl (atM_mem hI)
    have hfew := hg.few.2
    refine ⟨⟨0, ?_, by omega, fun j hj => absurd hj (Nat.not_lt_zero j)⟩, ?_⟩
    · refine sle_of ⟨rfl, VLe.refl _, rfl, VLe.refl _, rfl, VLe.refl _, rfl, VLe.refl _, rfl, VLe.refl _, rfl, VLe.refl _, rfl, VLe.refl _, trivial⟩ ⟨rfl, ?_, rfl, BLe.refl _, trivial⟩
      exact ble_arr (fun i hi => by simp at hi) (Or.inl rfl)
    rintro i ⟨hi, hj⟩
    refine ⟨fun h => ?_, fun h => ?_⟩
    · have hlt : i < (atM l at_).refs.length := by simpa using h
      have hp : changeOk f l ((atM l at_).refs.getD i default) → 0 ≤ (atM l at_).refs.getD i default ∧ (atM l at_).refs.getD i default < (l.length : Int) := fun g => by
        have := g.1.1
        unfold inL inR at this
        omega
      have hsl := sendersAt_len l (atM l at_).refs hi
      have hs := sendersAt_succ l (atM l at_).refs hlt
      have hsd : decL decI (V.sl i (gL encI (sendersAt l (atM l at_).refs i)) 1) = sendersAt l (atM l at_).refs i := by
        have := decL_encL decI_encI 1 (sendersAt l (atM l at_).refs i)
        unfold encL at this
        rw [hsl] at this
        exact this
      have hsv : VLe (V.sl i (gL encI (sendersAt l (atM l at_).refs i)) 1) (encL encI 1 (sendersAt l (atM l at_).refs i)) := by
        unfold encL
        rw [hsl]
        exact VLe.refl _
      have hps : ∀ w, pr63 (sendersAt l (atM l at_).refs i) w := fun w => by
        show (sendersAt l (atM l at_).refs i).length ≤ maxLen
        rw [hsl]; unfold maxLen; omega
      have hlr : (List.getD l ((atM l at_).refs.getD i default).toNat default) = atM l ((atM l at_).refs.getD i default) := rfl
      simp only [Int.toNat_natCast, hsd, hlr]
      repeat (first | (refine And.intro (fun h _ => h) ?_) | (refine And.intro (fun _ h => h) ?_) | (refine And.intro ?aa ?_; case aa => (exact ⟨by omega, by omega⟩)) | (refine And.intro ?aa ?_; case aa => (exact ⟨VLe.refl _, hr, hl⟩)) | (refine And.intro ?aa ?_; case aa => (exact fun g => hp (by simpa using g))) | (refine And.intro ?aa ?_; case aa => (exact fun _ => ⟨hsv, hps _⟩)) | (refine And.intro ?aa ?_; case aa => (exact fun g => hp (by simp_all))) | (refine And.intro ?aa ?_; case aa => (intros; simp_all [pr62, pr37, pr35, pr63]; done)) | (refine And.intro ?aa ?_; case aa => (intros; exact inK64 (by omega))) | (refine And.intro ?aa ?_; case aa => (intros; simp only [decide_eq_true_eq] at *; omega)) | (intro q hq))
      rename_i b2 hb2
      have e1 : q = decide (¬ newEntry f l (atM l at_) i) := by
        subst_vars
        rw [Bool.eq_iff_iff]
        unfold newEntry
        simp [or_assoc, sendersAt_mem]
      clear hb2 hq
      refine ⟨fun g => ?_, fun g => ?_⟩
      · rw [e1] at g
        have g1 := of_decide_eq_true g
        have : ¬ newOk f l at_ := fun gg => g1 (newOk_entry gg hlt)
        exact vle_bool (by simp [this])
      · rw [e1] at g
        have g1 := Classical.not_not.1 (of_decide_eq_false g)
        refine ⟨hp g1.1, trivial, by omega, fun k hk => ?_, inK64 (by omega), i + 1, ?_, ⟨by omega, fun j h3 => ?_⟩, by omega⟩
        · have hk0 : k = 0 := by omega
          subst hk0
          exact ⟨rfl, rfl⟩
        · refine sle_of ⟨rfl, VLe.refl _, rfl, VLe.refl _, rfl, VLe.refl _, rfl, VLe.refl _, rfl, VLe.refl _, rfl, VLe.refl _, rfl, vle_int (by omega), trivial⟩ ⟨rfl, ?_, rfl, BLe.refl _, trivial⟩
          rw [hs]
          exact ble_push hsl rfl
        · rcases Nat.lt_or_ge j i with h4 | h4
          · exact hj j h4
          · have : j = i := by omega
            subst this
            exact g1
    · have hge : i = (atM l at_).refs.length := by simp at h; omega
      have : newOk f l at_ := ⟨hA, h1, h2, h3, fun j hj' => hj j (by omega)⟩
      exact vle_bool (by simp [this])
  exact Eq.mp (by kernel_rfl) key
theorem so28 : Sound Tryz.prog 28 sp28 := by
  refine sound_of_body hmix (pol := 0) Tryz.func28 rfl (by kernel_rfl) fun args bin ob r bout hDe hob => ?_
  unfold sp28 at hDe
  split at hDe
  · rename_i a0 a1 a2
    cases hDe
    exact ⟨rfl, rfl, Nat.le_of_ble_eq_true (by kernel_rfl), cx28 a0 ((decL decMsg) a1) a2, Eq.mp (by kernel_rfl) htt, Eq.mp (by kernel_rfl) da28, Eq.mp (by kernel_rfl) (noM_sound (P := Tryz.prog)), by kernel_rfl, [.int .i64 (a0), encL (encMsg 1) 1 (((decL decMsg) a1)), .int .i64 (a2)], args_of_vles (⟨VLe.refl _, hob.1, VLe.refl _, trivial⟩), Eq.mp (by kernel_rfl) (bd28 a0 ((decL decMsg) a1) a2 (hob.2))⟩
  · cases hDe

end Go.Av
