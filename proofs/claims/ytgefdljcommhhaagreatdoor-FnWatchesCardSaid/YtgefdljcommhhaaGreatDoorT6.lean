/- Trees that something is done to. -/
import Derived.Test.YtgefdljcommhhaaGreatDoorT2
import Derived.Test.YtgefdljcommhhaaGreatDoorM1
import Derived.Test.YtgefdljcommhhaaGreatDoorV1
import Derived.Test.YtgefdljcommhhaaGreatDoorP4
namespace Go.Av
open Go.Proofs
set_option maxRecDepth 100000
set_option maxHeartbeats 4000000
set_option linter.unusedVariables false
set_option linter.unusedSimpArgs false

theorem appg0' {g h : Nat → V} : appg 0 g h = h := by funext i; simp [appg]
theorem sizedL_z {sz : Nat} {cs : List V} (h : cs.length = sz) (h2 : solid (.agg cs) = true) : sizedL sz 1 (rowg [.agg cs]) := by
  intro k hk
  have : k = 0 := by omega
  subst this
  exact ⟨h, h2⟩
/-- What stands before a place, one, and what stands behind. -/
theorem ins_getD {α : Type} [Inhabited α] {l : List α} {x : Nat} (hx : x ≤ l.length) (z : α) (i : Nat) :
    (l.take x ++ z :: l.drop x).getD i default = if i < x then l.getD i default else if i = x then z else l.getD (i - 1) default := by
  have hl : (l.take x).length = x := by rw [List.length_take]; omega
  rw [List.getD_eq_getElem?_getD, List.getElem?_append, hl]
  split
  · rename_i h
    rw [List.getElem?_take, if_pos h, List.getD_eq_getElem?_getD]
  · rename_i h
    split
    · rename_i h2
      subst h2
      simp
    · rename_i h2
      have : i - x = (i - x - 1) + 1 := by omega
      rw [this, List.getElem?_cons_succ, List.getElem?_drop, List.getD_eq_getElem?_getD]
      congr 2
      omega
theorem ble_ins {l : List Znode} {z : Znode} {x : Nat} (hx : x ≤ l.length) :
    BLe (.arr 5 (x + 1 + (l.length - x)) (appg (x + 1) (appg x (appg 0 (rowg []) (gL (encZnode 1) l)) (rowg [encZnode 1 z])) (dropg (gL (encZnode 1) l) x)) tagS)
      (.arr 5 (x + 1 + (l.length - x)) (gL (encZnode 1) (l.take x ++ z :: l.drop x)) tagS) := by
  refine ble_arr (fun i hi => ?_) (Or.inl rfl)
  have e : appg (x + 1) (appg x (appg 0 (rowg []) (gL (encZnode 1) l)) (rowg [encZnode 1 z])) (dropg (gL (encZnode 1) l) x) i = gL (encZnode 1) (l.take x ++ z :: l.drop x) i := by
    unfold appg gL dropg
    rw [ins_getD hx]
    by_cases h1 : i < x
    · rw [if_pos (by omega), if_pos h1, if_pos h1, if_neg (Nat.not_lt_zero i), Nat.sub_zero]
    · by_cases h2 : i = x
      · subst h2
        rw [if_pos (by omega), if_neg h1, if_neg h1, if_pos rfl, Nat.sub_self]
        rfl
      · rw [if_neg (by omega), if_neg h1, if_neg h2]
        have : x + (i - (x + 1)) = i - 1 := by omega
        rw [this]
  rw [e]
  exact ELe.refl _

/-! ### spec.l1Join -/
def pr55 (p : ByteArray) (s : ByteArray) : Prop := p.size ≤ 1000 ∧ s.size ≤ 1000
noncomputable def rs55 (p : ByteArray) (s : ByteArray) : V := .str (joinF p s)
noncomputable def sp55 : FSpec := fun args bin => match args, bin with
  | [.str a0, .str a1], [] => some (pr55 a0 a1, rs55 a0 a1, [])
  | _, _ => none
noncomputable def D55 : Nat → Option (Bool × FSpec) := lk []
theorem da55 : SoundAll Tryz.prog D55 := soundAll_nil
noncomputable def cx55 (p : ByteArray) (s : ByteArray) : Cx := ⟨tt, D55, Tryz.f55.ntmps, [0, 1, 4, 6], [], [], fun _ => none, [], noM, []⟩
theorem bd55 (p : ByteArray) (s : ByteArray) (hpre : pr55 p s) : bodyP (cx55 p s) Tryz.f55 0 [.str (p), .str (s)] (fun rr => VLe rr (rs55 p s)) := by
  have key : (((strEq p (ByteArray.mk #[(47 : UInt8)]) = true) → ((ByteArray.size (ByteArray.mk #[(47 : UInt8)]) + ByteArray.size s ≤ 2 ^ 62) ∧ (VLe (V.str (ByteArray.mk #[(47 : UInt8)] ++ s)) (V.str (joinF p s))))) ∧ ((strEq p (ByteArray.mk #[(47 : UInt8)]) = false) → ((ByteArray.size p + ByteArray.size (ByteArray.mk #[(47 : UInt8)]) ≤ 2 ^ 62) ∧ ((ByteArray.size (p ++ ByteArray.mk #[(47 : UInt8)]) + ByteArray.size s ≤ 2 ^ 62) ∧ (VLe (V.str (p ++ ByteArray.mk #[(47 : UInt8)] ++ s)) (V.str (joinF p s))))))) := by
    obtain ⟨h1, h2⟩ := hpre
    have t1 : (⟨#[47]⟩ : ByteArray).size = 1 := rfl
    simp only [strEq_dec]
    refine ⟨fun h => ⟨by omega, vle_str ?_⟩, fun h => ⟨by omega, by rw [ByteArray.size_append]; omega, vle_str ?_⟩⟩
    · unfold joinF
      rw [if_pos (of_decide_eq_true h)]
    · unfold joinF
      rw [if_neg (of_decide_eq_false h)]
  exact Eq.mp (by kernel_rfl) key
theorem so55 : Sound Tryz.prog 55 sp55 := by
  refine sound_of_body hmix (pol := 0) Tryz.func55 rfl (by kernel_rfl) fun args bin ob r bout hDe hob => ?_
  unfold sp55 at hDe
  split at hDe
  · rename_i a0 a1
    cases hDe
    exact ⟨rfl, rfl, Nat.le_of_ble_eq_true (by kernel_rfl), cx55 a0 a1, Eq.mp (by kernel_rfl) htt, Eq.mp (by kernel_rfl) da55, Eq.mp (by kernel_rfl) (noM_sound (P := Tryz.prog)), by kernel_rfl, [.str (a0), .str (a1)], args_of_vles (⟨VLe.refl _, VLe.refl _, trivial⟩), Eq.mp (by kernel_rfl) (bd55 a0 a1 (hob))⟩
  · cases hDe

/-! ### spec.l1Seq -/
def pr59 (s : ByteArray) (n : Int) : Prop := s.size ≤ 1000 ∧ inR n 0 99
noncomputable def rs59 (s : ByteArray) (n : Int) : V := .str (seqT s n)
noncomputable def sp59 : FSpec := fun args bin => match args, bin with
  | [.str a0, .int .i64 a1], [] => some (pr59 a0 a1, rs59 a0 a1, [])
  | _, _ => none
noncomputable def D59 : Nat → Option (Bool × FSpec) := lk [(74, (false, sp74))]
theorem da59 : SoundAll Tryz.prog D59 := soundAll_cons so74 (soundAll_nil)
noncomputable def cx59 (s : ByteArray) (n : Int) : Cx := ⟨tt, D59, Tryz.f59.ntmps, [0, 1, 4], [], [], fun _ => none, [], noM, []⟩
theorem bd59 (s : ByteArray) (n : Int) (hpre : pr59 s n) : bodyP (cx59 s n) Tryz.f59 0 [.str (s), .int .i64 (n)] (fun rr => VLe rr (rs59 s n)) := by
  have key : (((10 : Int) ≠ (0 : Int)) ∧ ((inK IntKind.i64 (Int.tdiv n (10 : Int))) ∧ ((pr74 (Int.tdiv n (10 : Int))) ∧ ((ByteArray.size s + 1 ≤ 4611686018427387904) ∧ (((10 : Int) ≠ (0 : Int)) ∧ ((pr74 (Int.tmod n (10 : Int))) ∧ ((ByteArray.size (s ++ digT (Int.tdiv n (10 : Int))) + 1 ≤ 4611686018427387904) ∧ (VLe (V.str (s ++ digT (Int.tdiv n (10 : Int)) ++ digT (Int.tmod n (10 : Int)))) (V.str (seqT s n)))))))))) := by
    obtain ⟨h1, h2⟩ := hpre
    unfold inR at h2
    obtain ⟨k, rfl⟩ := Int.eq_ofNat_of_zero_le h2.1
    have e1 : ((k : Int)).tdiv 10 = ((k / 10 : Nat) : Int) := rfl
    have e2 : ((k : Int)).tmod 10 = ((k % 10 : Nat) : Int) := rfl
    have p1 : pr74 ((k : Int).tdiv 10) := by
      show inR _ 0 9
      unfold inR
      rw [e1]
      omega
    have p2 : pr74 ((k : Int).tmod 10) := by
      show inR _ 0 9
      unfold inR
      rw [e2]
      omega
    refine ⟨by decide, inK64 (by rw [e1]; omega), p1, by omega, by decide, p2, ?_, VLe.refl _⟩
    rw [ByteArray.size_append, digT_size]
    omega
  exact Eq.mp (by kernel_rfl) key
theorem so59 : Sound Tryz.prog 59 sp59 := by
  refine sound_of_body hmix (pol := 0) Tryz.func59 rfl (by kernel_rfl) fun args bin ob r bout hDe hob => ?_
  unfold sp59 at hDe
  split at hDe
  · rename_i a0 a1
    cases hDe
    exact ⟨rfl, rfl, Nat.le_of_ble_eq_true (by kernel_rfl), cx59 a0 a1, Eq.mp (by kernel_rfl) htt, Eq.mp (by kernel_rfl) da59, Eq.mp (by kernel_rfl) (noM_sound (P := Tryz.prog)), by kernel_rfl, [.str (a0), .int .i64 (a1)], args_of_vles (⟨VLe.refl _, VLe.refl _, trivial⟩), Eq.mp (by kernel_rfl) (bd59 a0 a1 (hob))⟩
  · cases hDe

/-! ### spec.l2Bad -/
def pr56 (c : Int) : Prop := True
noncomputable def ro56 (c : Int) : ZResult := (⟨c, nilB, []⟩ : ZResult)
noncomputable def rb56 (c : Int) : List Blk := [(.arr 5 ((ro56 c).nodes).length (gL (encZnode 1) ((ro56 c).nodes)) tagS)]
noncomputable def rs56 (c : Int) : V := .agg [.int .i64 ((ro56 c).code), .str ((ro56 c).path), .osl 0 ((ro56 c).nodes).length]
noncomputable def sp56 : FSpec := fun args bin => match args, bin with
  | [.int .i64 a0], [] => some (pr56 a0, rs56 a0, rb56 a0)
  | _, _ => none
noncomputable def D56 : Nat → Option (Bool × FSpec) := lk []
theorem da56 : SoundAll Tryz.prog D56 := soundAll_nil
noncomputable def cx56 (c : Int) : Cx := ⟨tt, D56, Tryz.f56.ntmps, [0, 2], [], [], fun _ => none, [], noM, []⟩
theorem bd56 (c : Int) (hpre : pr56 c) : bodyO (cx56 c) Tryz.f56 [(2, 5)] [.int .i64 (c)] [] (fun rr bs => VLe rr (rs56 c) ∧ BinLe bs (rb56 c)) := by
  have key : ((VLe (V.agg [vi c, V.str (ByteArray.mk #[]), V.osl 0 0]) (V.agg [vi (ZResult.code (ro56 c)), V.str (ZResult.path (ro56 c)), V.osl 0 0])) ∧ ((BLe (Blk.arr 5 0 (fun (x : Nat) ↦ V.undef) 100) (Blk.arr 5 0 (gL (encZnode 1) (ZResult.nodes (ro56 c))) 100)) ∧ (True))) := by
    delta vi
    exact ⟨VLe.refl _, ble_nil _, trivial⟩
  exact Eq.mp (by kernel_rfl) key
theorem so56 : Sound Tryz.prog 56 sp56 := by
  refine sound_of_bodyO hmix (tpl := [(2, 5)]) Tryz.func56 rfl (by kernel_rfl) fun args bin ob r bout hDe hob => ?_
  unfold sp56 at hDe
  split at hDe
  · rename_i a0
    cases hDe
    exact ⟨Nat.le_of_ble_eq_true (by kernel_rfl), cx56 a0, Eq.mp (by kernel_rfl) htt, Eq.mp (by kernel_rfl) da56, Eq.mp (by kernel_rfl) (noM_sound (P := Tryz.prog)), by kernel_rfl, [.int .i64 (a0)], [], args_of_vles (⟨VLe.refl _, trivial⟩), trivial, Eq.mp (by kernel_rfl) (bd56 a0 (hob))⟩
  · cases hDe

/-! ### spec.NewTree -/
def pr54 (data : Int) : Prop := inR data 0 9999
noncomputable def ro54 (data : Int) : ZResult := (⟨0, nilB, [⟨top, data, 0, 0, 0⟩]⟩ : ZResult)
noncomputable def rb54 (data : Int) : List Blk := [(.arr 5 ((ro54 data).nodes).length (gL (encZnode 1) ((ro54 data).nodes)) tagS)]
noncomputable def rs54 (data : Int) : V := .agg [.int .i64 ((ro54 data).code), .str ((ro54 data).path), .osl 0 ((ro54 data).nodes).length]
noncomputable def sp54 : FSpec := fun args bin => match args, bin with
  | [.int .i64 a0], [] => some (pr54 a0, rs54 a0, rb54 a0)
  | _, _ => none
noncomputable def D54 : Nat → Option (Bool × FSpec) := lk [(41, (false, sp41))]
theorem da54 : SoundAll Tryz.prog D54 := soundAll_cons so41 (soundAll_nil)
noncomputable def cx54 (data : Int) : Cx := ⟨tt, D54, Tryz.f54.ntmps, [0, 2, 5], [], [], fun _ => none, [], noM, []⟩
theorem bd54 (data : Int) (hpre : pr54 data) : bodyO (cx54 data) Tryz.f54 [(2, 5)] [.int .i64 (data)] [] (fun rr bs => VLe rr (rs54 data) ∧ BinLe bs (rb54 data)) := by
  have key : ((pr41 data) ∧ ((((!decide (inR data (0 : Int) (9999 : Int))) = true) → ((VLe (V.agg [vi (3 : Int), V.str (ByteArray.mk #[]), V.osl 0 0]) (V.agg [vi (ZResult.code (ro54 data)), V.str (ZResult.path (ro54 data)), V.osl 0 1])) ∧ ((BLe (Blk.arr 5 0 (fun (x : Nat) ↦ V.undef) 100) (Blk.arr 5 1 (gL (encZnode 1) (ZResult.nodes (ro54 data))) 100)) ∧ (True)))) ∧ (((!decide (inR data (0 : Int) (9999 : Int))) = false) → ((VLe (V.agg [vi (0 : Int), V.str (ByteArray.mk #[]), V.osl 0 1]) (V.agg [vi (ZResult.code (ro54 data)), V.str (ZResult.path (ro54 data)), V.osl 0 1])) ∧ ((BLe (Blk.arr 5 1 (rowg [V.agg [V.str (ByteArray.mk #[(47 : UInt8)]), vi data, vi (0 : Int), vi (0 : Int), vi (0 : Int)]]) 100) (Blk.arr 5 1 (gL (encZnode 1) (ZResult.nodes (ro54 data))) 100)) ∧ (True)))))) := by
    delta vi
    refine ⟨trivial, fun h => ?_, fun h => ⟨VLe.refl _, ble_arr (fun i hi => ?_) (Or.inl rfl), trivial⟩⟩
    · have h1 : inR data 0 9999 := hpre
      rw [decide_eq_true h1] at h
      cases h
    · have : i = 0 := by omega
      subst this
      exact ELe.refl _
  exact Eq.mp (by kernel_rfl) key
theorem so54 : Sound Tryz.prog 54 sp54 := by
  refine sound_of_bodyO hmix (tpl := [(2, 5)]) Tryz.func54 rfl (by kernel_rfl) fun args bin ob r bout hDe hob => ?_
  unfold sp54 at hDe
  split at hDe
  · rename_i a0
    cases hDe
    exact ⟨Nat.le_of_ble_eq_true (by kernel_rfl), cx54 a0, Eq.mp (by kernel_rfl) htt, Eq.mp (by kernel_rfl) da54, Eq.mp (by kernel_rfl) (noM_sound (P := Tryz.prog)), by kernel_rfl, [.int .i64 (a0)], [], args_of_vles (⟨VLe.refl _, trivial⟩), trivial, Eq.mp (by kernel_rfl) (bd54 a0 (hob))⟩
  · cases hDe

/-! ### spec.l2Copy -/
def pr26 (l : List Znode) : Prop := l.length ≤ 1000
noncomputable def ro26 (l : List Znode) : List Znode := l
noncomputable def rb26 (l : List Znode) : List Blk := [(.arr 5 (ro26 l).length (gL (encZnode 1) (ro26 l)) tagS)]
noncomputable def rs26 (l : List Znode) : V := .osl 0 (ro26 l).length
noncomputable def sp26 : FSpec := fun args bin => match args, bin with
  | [a0], [] => some (VLe a0 (encL (encZnode 1) 1 (((decL decZnode) a0))) ∧ pr26 ((decL decZnode) a0), rs26 ((decL decZnode) a0), rb26 ((decL decZnode) a0))
  | _, _ => none
noncomputable def D26 : Nat → Option (Bool × FSpec) := lk []
theorem da26 : SoundAll Tryz.prog D26 := soundAll_nil
noncomputable def cx26 (l : List Znode) : Cx := ⟨tt, D26, Tryz.f26.ntmps, [0, 2], [], [], fun _ => none, [], noM, []⟩
theorem bd26 (l : List Znode) (hpre : pr26 l) : bodyO (cx26 l) Tryz.f26 [(0, 5)] [encL (encZnode 1) 1 (l)] [] (fun rr bs => VLe rr (rs26 l) ∧ BinLe bs (rb26 l)) := by
  have key : ((0 = 0) ∧ ((0 + List.length l ≤ 1073741824) ∧ ((sizedL 5 (List.length l) (gL (encZnode 1) l)) ∧ ((∀ i : Nat, ((i < List.length l) → (flatV (encZnode 1 (List.getD l i default)) = true))) ∧ ((VLe (V.osl 0 (0 + List.length l)) (V.osl 0 (List.length (ro26 l)))) ∧ ((BLe (Blk.arr 5 (0 + List.length l) (appg 0 (rowg []) (gL (encZnode 1) l)) 100) (Blk.arr 5 (List.length (ro26 l)) (gL (encZnode 1) (ro26 l)) 100)) ∧ (True))))))) := by
    have hl : l.length ≤ 1000 := hpre
    refine ⟨rfl, by omega, fun k hk => ⟨rfl, rfl⟩, fun k hk => rfl, ?_⟩
    rw [Nat.zero_add, appg0']
    exact ⟨VLe.refl _, BLe.refl _, trivial⟩
  exact Eq.mp (by kernel_rfl) key
theorem so26 : Sound Tryz.prog 26 sp26 := by
  refine sound_of_bodyO hmix (tpl := [(0, 5)]) Tryz.func26 rfl (by kernel_rfl) fun args bin ob r bout hDe hob => ?_
  unfold sp26 at hDe
  split at hDe
  · rename_i a0
    cases hDe
    exact ⟨Nat.le_of_ble_eq_true (by kernel_rfl), cx26 ((decL decZnode) a0), Eq.mp (by kernel_rfl) htt, Eq.mp (by kernel_rfl) da26, Eq.mp (by kernel_rfl) (noM_sound (P := Tryz.prog)), by kernel_rfl, [encL (encZnode 1) 1 (((decL decZnode) a0))], [], args_of_vles (⟨hob.1, trivial⟩), trivial, Eq.mp (by kernel_rfl) (bd26 ((decL decZnode) a0) (hob.2))⟩
  · cases hDe

/-! ### spec.l2Put -/
def pr60 (l : List Znode) (z : Znode) : Prop := l.length ≤ 1000
noncomputable def ro60 (l : List Znode) (z : Znode) : List Znode := putZ l z
noncomputable def rb60 (l : List Znode) (z : Znode) : List Blk := [(.arr 5 (ro60 l z).length (gL (encZnode 1) (ro60 l z)) tagS)]
noncomputable def rs60 (l : List Znode) (z : Znode) : V := .osl 0 (ro60 l z).length
noncomputable def sp60 : FSpec := fun args bin => match args, bin with
  | [a0, a1], [] => some (VLe a0 (encL (encZnode 1) 1 (((decL decZnode) a0))) ∧ VLe a1 (encZnode 1 ((decZnode a1))) ∧ pr60 ((decL decZnode) a0) (decZnode a1), rs60 ((decL decZnode) a0) (decZnode a1), rb60 ((decL decZnode) a0) (decZnode a1))
  | _, _ => none
noncomputable def in60_2 (l : List Znode) (z : Znode) : LoopInv :=
  ⟨Nat, fun i => ⟨[(0, encL (encZnode 1) 1 l), (3, .oref 256 0 0), (5, .int .i64 i)], [(256, .box [.str z.path, .int .i64 z.data, .int .i64 z.version, .int .i64 z.owner, .int .i64 z.next])]⟩,
    fun i => i ≤ l.length ∧ ∀ k, k < i → lt (atZ l k).path z.path, fun i => l.length - i⟩
noncomputable def iv60 (l : List Znode) (z : Znode) : Nat → Option LoopInv := fun rg_ => match rg_ with
  | 2 => some (in60_2 l z)
  | _ => none
noncomputable def D60 : Nat → Option (Bool × FSpec) := lk []
theorem da60 : SoundAll Tryz.prog D60 := soundAll_nil
noncomputable def cx60 (l : List Znode) (z : Znode) : Cx := ⟨tt, D60, Tryz.f60.ntmps, [0, 1, 3, 4, 5, 6, 20], [(2, ⟨[(0, none), (3, none), (5, none)], [(256, [])]⟩)], [], iv60 l z, [], noM, []⟩
noncomputable def k60_0 (z : Znode) : Nat × Blk := (256, Blk.box [V.str (Znode.path z), vi (Znode.data z), vi (Znode.version z), vi (Znode.owner z), vi (Znode.next z)])
noncomputable def k60_1 (l : List Znode) (x : Nat) : Bool := (decide ((↑x : Int) < (↑(List.length l) : Int)))
theorem bd60 (l : List Znode) (z : Znode) (hpre : pr60 l z) : bodyO (cx60 l z) Tryz.f60 [(0, 5)] [encL (encZnode 1) 1 (l), encZnode 1 (z)] [] (fun rr bs => VLe rr (rs60 l z) ∧ BinLe bs (rb60 l z)) := by
  have key : ((∃ x : Nat, ((SLe (AS.mk [(0, encL (encZnode 1) 1 l), (3, V.oref 256 0 0), (5, vi (0 : Int))] [(k60_0 z)]) (AS.mk [(0, encL (encZnode 1) 1 l), (3, V.oref 256 0 0), (5, vi (↑x : Int))] [(k60_0 z)])) ∧ ((x ≤ List.length l) ∧ (∀ k : Nat, ((k < x) → (lt (Znode.path (atZ l k)) (Znode.path z))))))) ∧ (∀ x : Nat, (((x ≤ List.length l) ∧ (∀ k : Nat, ((k < x) → (lt (Znode.path (atZ l k)) (Znode.path z))))) → ((tq (k60_1 l x)) ∧ ((tq (k60_1 l x)) ∧ (((decide ((↑x : Int) < (↑(List.length l) : Int)) = true) → (((0 : Int) ≤ (↑x : Int)) ∧ ((↑x : Int) < (↑(List.length l) : Int)))) ∧ ((tq (k60_1 l x)) ∧ ((tq (k60_1 l x)) ∧ ((tq (k60_1 l x)) ∧ ((tq (k60_1 l x)) ∧ ((tq (k60_1 l x)) ∧ (((true = true) → ((decide ((↑x : Int) < (↑(List.length l) : Int)) = true) → (decide ((↑x : Int) < (↑(List.length l) : Int)) = true))) ∧ (∀ b : Bool, ((b = bif decide ((↑x : Int) < (↑(List.length l) : Int)) then strLt (Znode.path (List.getD l (Int.toNat (↑x : Int)) default)) (Znode.path z) else false) → (((b = true) → ((inK IntKind.i64 ((↑x : Int) + (1 : Int))) ∧ (∃ y : Nat, ((SLe (AS.mk [(0, encL (encZnode 1) 1 l), (3, V.oref 256 0 0), (5, vi ((↑x : Int) + (1 : Int)))] [(k60_0 z)]) (AS.mk [(0, encL (encZnode 1) 1 l), (3, V.oref 256 0 0), (5, vi (↑y : Int))] [(k60_0 z)])) ∧ (((y ≤ List.length l) ∧ (∀ k : Nat, ((k < y) → (lt (Znode.path (atZ l k)) (Znode.path z))))) ∧ (List.length l - y < List.length l - x)))))) ∧ ((b = false) → ((((0 : Int) ≤ Option.getD none (0 : Int)) ∧ ((Option.getD none (0 : Int) ≤ Option.getD (some (↑x : Int)) (↑(List.length l) : Int)) ∧ (Option.getD (some (↑x : Int)) (↑(List.length l) : Int) ≤ (↑(List.length l) : Int)))) ∧ ((sizedL 5 (List.length l) (gL (encZnode 1) l)) ∧ ((0 = 0) ∧ ((0 + (Int.toNat (Option.getD (some (↑x : Int)) (↑(List.length l) : Int)) - 0) ≤ 1073741824) ∧ ((sizedL 5 (Int.toNat (Option.getD (some (↑x : Int)) (↑(List.length l) : Int)) - 0) (match (motive := Option Int → Nat → V) none with | none => gL (encZnode 1) l | some val => dropg (gL (encZnode 1) l) 0)) ∧ ((∀ i : Nat, ((i < Int.toNat (Option.getD (some (↑x : Int)) (↑(List.length l) : Int)) - 0) → (flatV (encZnode 1 (List.getD l i default)) = true))) ∧ ((0 + (Int.toNat (Option.getD (some (↑x : Int)) (↑(List.length l) : Int)) - 0) = 0 + (Int.toNat (Option.getD (some (↑x : Int)) (↑(List.length l) : Int)) - 0)) ∧ ((0 + (Int.toNat (Option.getD (some (↑x : Int)) (↑(List.length l) : Int)) - 0) + 1 ≤ 1073741824) ∧ ((sizedL 5 1 (rowg [encZnode 1 z])) ∧ ((((0 : Int) ≤ Option.getD (some (↑x : Int)) (0 : Int)) ∧ ((Option.getD (some (↑x : Int)) (0 : Int) ≤ Option.getD none (↑(List.length l) : Int)) ∧ (Option.getD none (↑(List.length l) : Int) ≤ (↑(List.length l) : Int)))) ∧ ((sizedL 5 (List.length l) (gL (encZnode 1) l)) ∧ ((0 + (Int.toNat (Option.getD (some (↑x : Int)) (↑(List.length l) : Int)) - 0) + 1 = 0 + (Int.toNat (Option.getD (some (↑x : Int)) (↑(List.length l) : Int)) - 0) + 1) ∧ ((0 + (Int.toNat (Option.getD (some (↑x : Int)) (↑(List.length l) : Int)) - 0) + 1 + (Int.toNat (Option.getD none (↑(List.length l) : Int)) - Int.toNat (Option.getD (some (↑x : Int)) (0 : Int))) ≤ 1073741824) ∧ ((sizedL 5 (Int.toNat (Option.getD none (↑(List.length l) : Int)) - Int.toNat (Option.getD (some (↑x : Int)) (0 : Int))) (match (motive := Option Int → Nat → V) some (↑x : Int) with | none => gL (encZnode 1) l | some val => dropg (gL (encZnode 1) l) (Int.toNat (Option.getD (some (↑x : Int)) (0 : Int))))) ∧ ((∀ i : Nat, ((i < Int.toNat (Option.getD none (↑(List.length l) : Int)) - Int.toNat (Option.getD (some (↑x : Int)) (0 : Int))) → (flatV (encZnode 1 (List.getD l (Int.toNat (Option.getD (some (↑x : Int)) (0 : Int)) + i) default)) = true))) ∧ ((VLe (V.osl 0 (0 + (Int.toNat (Option.getD (some (↑x : Int)) (↑(List.length l) : Int)) - 0) + 1 + (Int.toNat (Option.getD none (↑(List.length l) : Int)) - Int.toNat (Option.getD (some (↑x : Int)) (0 : Int))))) (V.osl 0 (List.length (ro60 l z)))) ∧ ((BLe (Blk.arr 5 (0 + (Int.toNat (Option.getD (some (↑x : Int)) (↑(List.length l) : Int)) - 0) + 1 + (Int.toNat (Option.getD none (↑(List.length l) : Int)) - Int.toNat (Option.getD (some (↑x : Int)) (0 : Int)))) (appg (0 + (Int.toNat (Option.getD (some (↑x : Int)) (↑(List.length l) : Int)) - 0) + 1) (appg (0 + (Int.toNat (Option.getD (some (↑x : Int)) (↑(List.length l) : Int)) - 0)) (appg 0 (rowg []) (match (motive := Option Int → Nat → V) none with | none => gL (encZnode 1) l | some val => dropg (gL (encZnode 1) l) 0)) (rowg [encZnode 1 z])) (match (motive := Option Int → Nat → V) some (↑x : Int) with | none => gL (encZnode 1) l | some val => dropg (gL (encZnode 1) l) (Int.toNat (Option.getD (some (↑x : Int)) (0 : Int))))) 100) (Blk.arr 5 (List.length (ro60 l z)) (gL (encZnode 1) (ro60 l z)) 100)) ∧ (True)))))))))))))))))))))))))))))))))) := by
    delta k60_1; delta k60_0; delta vi
    have hl : l.length ≤ 1000 := hpre
    simp only [strLt_dec]
    refine ⟨⟨0, SLe.refl _, by omega, fun k hk => absurd hk (Nat.not_lt_zero k)⟩, ?_⟩
    rintro i ⟨hi, hk⟩
    refine ⟨tqI _, tqI _, fun h => ⟨by omega, by simpa using h⟩, tqI _, tqI _, tqI _, tqI _, tqI _, fun _ h => h, fun b hb => ⟨fun h => ?_, fun h => ?_⟩⟩
    · rw [h] at hb
      have hlt : i < l.length := by
        by_cases a1 : (i : Int) < l.length
        · omega
        · rw [decide_eq_false a1] at hb; cases hb
      have a1 : decide ((i : Int) < l.length) = true := decide_eq_true (by omega)
      rw [a1] at hb
      have h3 : lt (atZ l i).path z.path := of_decide_eq_true hb.symm
      refine ⟨inK64 (by omega), i + 1, SLe.refl _, ⟨by omega, fun k h4 => ?_⟩, by omega⟩
      by_cases e : k = i
      · subst e; exact h3
      · exact hk k (by omega)
    · rw [h] at hb
      have hp : posZ l z.path = i := posZ_eq hi hk fun hlt g => by
        have a1 : decide ((i : Int) < l.length) = true := decide_eq_true (by omega)
        rw [a1] at hb
        exact of_decide_eq_false (p := lt (atZ l i).path z.path) hb.symm g
      have e : ro60 l z = l.take i ++ z :: l.drop i := by
        show putZ l z = _
        unfold putZ
        rw [hp]
      have en : (ro60 l z).length = i + 1 + (l.length - i) := by
        rw [e, List.length_append, List.length_cons, List.length_take, List.length_drop]
        omega
      rw [en, e]
      simp only [Option.getD_some, Option.getD_none, Int.toNat_natCast, Nat.sub_zero, Nat.zero_add]
      exact ⟨⟨by omega, by omega, by omega⟩, fun k hk => ⟨rfl, rfl⟩, trivial, by omega, fun k hk => ⟨rfl, rfl⟩, fun k hk => rfl, trivial, by omega, sizedL_z rfl rfl, ⟨by omega, by omega, by omega⟩, fun k hk => ⟨rfl, rfl⟩, trivial, by omega, fun k hk => ⟨rfl, rfl⟩, fun k hk => rfl, VLe.refl _, ble_ins hi, trivial⟩
  exact Eq.mp (by kernel_rfl) key
theorem so60 : Sound Tryz.prog 60 sp60 := by
  refine sound_of_bodyO hmix (tpl := [(0, 5)]) Tryz.func60 rfl (by kernel_rfl) fun args bin ob r bout hDe hob => ?_
  unfold sp60 at hDe
  split at hDe
  · rename_i a0 a1
    cases hDe
    exact ⟨Nat.le_of_ble_eq_true (by kernel_rfl), cx60 ((decL decZnode) a0) (decZnode a1), Eq.mp (by kernel_rfl) htt, Eq.mp (by kernel_rfl) da60, Eq.mp (by kernel_rfl) (noM_sound (P := Tryz.prog)), by kernel_rfl, [encL (encZnode 1) 1 (((decL decZnode) a0)), encZnode 1 ((decZnode a1))], [], args_of_vles (⟨hob.1, hob.2.1, trivial⟩), trivial, Eq.mp (by kernel_rfl) (bd60 ((decL decZnode) a0) (decZnode a1) (hob.2.2))⟩
  · cases hDe

theorem kid_hit {l : List Znode} {p : ByteArray} {i : Nat} (h : i < l.length) (h2 : (l.getD i default).path ≠ top ∧ upF (l.getD i default).path = p) : kidsF (l.take (i + 1)) p = kidsF (l.take i) p ++ [nameF (l.getD i default).path] := by
  have e : l.take (i + 1) = l.take i ++ [l.getD i default] := by
    rw [List.take_add_one]
    simp [h]
  rw [e]
  unfold kidsF
  rw [List.filter_append, List.map_append]
  congr 1
  simp only [List.filter_cons, decide_eq_true h2, if_true, List.filter_nil, List.map_cons, List.map_nil]
theorem kid_no {l : List Znode} {p : ByteArray} {i : Nat} (h : i < l.length) (h2 : ¬ ((l.getD i default).path ≠ top ∧ upF (l.getD i default).path = p)) : kidsF (l.take (i + 1)) p = kidsF (l.take i) p := by
  have e : l.take (i + 1) = l.take i ++ [l.getD i default] := by
    rw [List.take_add_one]
    simp [h]
  rw [e]
  unfold kidsF
  rw [List.filter_append]
  simp only [List.filter_cons, decide_eq_false h2, List.filter_nil, Bool.false_eq_true, if_false, List.append_nil]
theorem kids_len (l : List Znode) (p : ByteArray) : (kidsF l p).length ≤ l.length := by
  unfold kidsF
  rw [List.length_map]
  exact List.length_filter_le _ _
theorem sizedL_str {s : ByteArray} : sizedL 1 1 (rowg [.str s]) := by
  intro k hk
  have : k = 0 := by omega
  subst this
  exact ⟨rfl, rfl⟩
/-- Nodes with a path, and with counts that are no less than 0. -/
def longT (l : List Znode) : Prop := ∀ z ∈ l, 0 < z.path.size ∧ z.path.size ≤ 1000 ∧ 0 ≤ z.version ∧ 0 ≤ z.next
theorem del_getD {l : List Znode} {x : Nat} (hx : x < l.length) (i : Nat) : (l.take x ++ l.drop (x + 1)).getD i default = if i < x then l.getD i default else l.getD (i + 1) default := by
  have hl : (l.take x).length = x := by rw [List.length_take]; omega
  rw [List.getD_eq_getElem?_getD, List.getElem?_append, hl]
  split
  · rename_i h
    rw [List.getElem?_take, if_pos h, List.getD_eq_getElem?_getD]
  · rename_i h
    rw [List.getElem?_drop, List.getD_eq_getElem?_getD]
    congr 2
    omega
theorem ble_del {l : List Znode} {x : Nat} (hx : x < l.length) :
    BLe (.arr 5 (x + (l.length - (x + 1))) (appg x (appg 0 (rowg []) (gL (encZnode 1) l)) (dropg (gL (encZnode 1) l) (x + 1))) tagS)
      (.arr 5 (x + (l.length - (x + 1))) (gL (encZnode 1) (l.take x ++ l.drop (x + 1))) tagS) := by
  refine ble_arr (fun i hi => ?_) (Or.inl rfl)
  have e : appg x (appg 0 (rowg []) (gL (encZnode 1) l)) (dropg (gL (encZnode 1) l) (x + 1)) i = gL (encZnode 1) (l.take x ++ l.drop (x + 1)) i := by
    unfold appg gL dropg
    rw [del_getD hx]
    by_cases h1 : i < x
    · rw [if_pos h1, if_pos h1, if_neg (Nat.not_lt_zero i), Nat.sub_zero]
    · rw [if_neg h1, if_neg h1]
      have : x + 1 + (i - x) = i + 1 := by omega
      rw [this]
  rw [e]
  exact ELe.refl _
theorem badZ {c : Int} {x : ZResult} (h : x = ⟨c, nilB, []⟩) : True ∧ VLe (.agg [.int .i64 c, .str nilB, .osl 0 0]) (.agg [.int .i64 x.code, .str x.path, .osl 0 x.nodes.length]) ∧
    BLe (.arr 5 0 (gL (encZnode 1) []) tagS) (.arr 5 x.nodes.length (gL (encZnode 1) x.nodes) tagS) ∧ True := by
  subst h
  exact ⟨trivial, VLe.refl _, ble_nil _, trivial⟩
theorem verB {v w : Int} : (bif v != -1 then v != w else false) = decide (v ≠ -1 ∧ v ≠ w) := by
  by_cases a1 : v = -1
  · have : (v != -1) = false := by simp [a1]
    rw [this, decide_eq_false (fun g => g.1 a1)]
    rfl
  · have : (v != -1) = true := by simp [a1]
    rw [this]
    by_cases a2 : v = w
    · rw [decide_eq_false (fun g => g.2 a2)]
      simp [a2]
    · rw [decide_eq_true ⟨a1, a2⟩]
      simp [a2]
theorem atN_bd {l : List Znode} {p : ByteArray} (h : decide (atN l p < 0) = false) : 0 ≤ atN l p ∧ atN l p < l.length := by
  have h1 := of_decide_eq_false h
  have h2 := idxF_lt (isPath p) l
  have h3 : idxF (isPath p) l = atN l p := rfl
  omega

/-! ### spec.l2Kids -/
def pr61 (l : List Znode) (p : ByteArray) : Prop := l.length ≤ 1000 ∧ longT l
noncomputable def rs61 (l : List Znode) (p : ByteArray) : V := encL encS 2 (kidsF l p)
noncomputable def sp61 : FSpec := fun args bin => match args, bin with
  | [a0, .str a1], [] => some (VLe a0 (encL (encZnode 1) 1 (((decL decZnode) a0))) ∧ pr61 ((decL decZnode) a0) a1, rs61 ((decL decZnode) a0) a1, [])
  | _, _ => none
noncomputable def in61_3 (l : List Znode) (p : ByteArray) : LoopInv :=
  ⟨Nat, fun i => ⟨[(0, encL (encZnode 1) 1 l), (1, .str p), (5, .osl (canonT 5) (kidsF (l.take i) p).length), (6, .int .i64 i)], [(canonT 5, .arr 1 (kidsF (l.take i) p).length (gL encS (kidsF (l.take i) p)) tagS)]⟩,
    fun i => i ≤ l.length, fun i => l.length - i⟩
noncomputable def iv61 (l : List Znode) (p : ByteArray) : Nat → Option LoopInv := fun rg_ => match rg_ with
  | 3 => some (in61_3 l p)
  | _ => none
noncomputable def D61 : Nat → Option (Bool × FSpec) := lk [(45, (false, sp45)), (57, (false, sp57))]
theorem da61 : SoundAll Tryz.prog D61 := soundAll_cons so45 (soundAll_cons so57 (soundAll_nil))
noncomputable def cx61 (l : List Znode) (p : ByteArray) : Cx := ⟨tt, D61, Tryz.f61.ntmps, [0, 1, 4, 5, 6, 7, 12, 27], [(3, ⟨[(0, none), (1, none), (5, some 1), (6, none)], []⟩)], [], iv61 l p, [], noM, []⟩
noncomputable def k61_0 (l : List Znode) (x : Nat) : List V := [V.str (ByteArray.extract (Znode.path (List.getD l (Int.toNat (↑x : Int)) default)) (Int.toNat (Option.getD (some ((↑(lastF (Znode.path (List.getD l (Int.toNat (↑x : Int)) default))) : Int) + (1 : Int))) (0 : Int))) (Int.toNat (Option.getD none (↑(ByteArray.size (Znode.path (List.getD l (Int.toNat (↑x : Int)) default))) : Int))))]
noncomputable def k61_1 (l : List Znode) (p : ByteArray) (y : Nat) : AS := (AS.mk [(0, encL (encZnode 1) 1 l), (1, V.str p), (5, V.osl 32000384 (List.length (kidsF (List.take y l) p))), (6, vi (↑y : Int))] [(32000384, Blk.arr 1 (List.length (kidsF (List.take y l) p)) (gL encS (kidsF (List.take y l) p)) 100)])
theorem bd61 (l : List Znode) (p : ByteArray) (hpre : pr61 l p) : bodyP (cx61 l p) Tryz.f61 1 [encL (encZnode 1) 1 (l), .str (p)] (fun rr => VLe rr (rs61 l p)) := by
  have key : ((∃ x : Nat, ((SLe (AS.mk [(0, encL (encZnode 1) 1 l), (1, V.str p), (5, V.osl 32000384 0), (6, vi (0 : Int))] [(32000384, Blk.arr 1 0 (rowg []) 100)]) (AS.mk [(0, encL (encZnode 1) 1 l), (1, V.str p), (5, V.osl 32000384 (List.length (kidsF (List.take x l) p))), (6, vi (↑x : Int))] [(32000384, Blk.arr 1 (List.length (kidsF (List.take x l) p)) (gL encS (kidsF (List.take x l) p)) 100)])) ∧ (x ≤ List.length l))) ∧ (∀ x : Nat, ((x ≤ List.length l) → (((decide ((↑x : Int) < (↑(List.length l) : Int)) = true) → ((((0 : Int) ≤ (↑x : Int)) ∧ ((↑x : Int) < (↑(List.length l) : Int))) ∧ ((tq (!strEq (Znode.path (List.getD l (Int.toNat (↑x : Int)) default)) (ByteArray.mk #[(47 : UInt8)]))) ∧ ((((!strEq (Znode.path (List.getD l (Int.toNat (↑x : Int)) default)) (ByteArray.mk #[(47 : UInt8)])) = true) → (pr45 (Znode.path (List.getD l (Int.toNat (↑x : Int)) default)))) ∧ ((tq (!strEq (Znode.path (List.getD l (Int.toNat (↑x : Int)) default)) (ByteArray.mk #[(47 : UInt8)]))) ∧ ((tq (!strEq (Znode.path (List.getD l (Int.toNat (↑x : Int)) default)) (ByteArray.mk #[(47 : UInt8)]))) ∧ (((true = true) → (((!strEq (Znode.path (List.getD l (Int.toNat (↑x : Int)) default)) (ByteArray.mk #[(47 : UInt8)])) = true) → ((!strEq (Znode.path (List.getD l (Int.toNat (↑x : Int)) default)) (ByteArray.mk #[(47 : UInt8)])) = true))) ∧ (∀ b : Bool, ((b = bif !strEq (Znode.path (List.getD l (Int.toNat (↑x : Int)) default)) (ByteArray.mk #[(47 : UInt8)]) then strEq (upF (Znode.path (List.getD l (Int.toNat (↑x : Int)) default))) p else false) → (((b = true) → ((pr57 (Znode.path (List.getD l (Int.toNat (↑x : Int)) default))) ∧ ((inK IntKind.i64 ((↑(lastF (Znode.path (List.getD l (Int.toNat (↑x : Int)) default))) : Int) + (1 : Int))) ∧ ((((0 : Int) ≤ Option.getD (some ((↑(lastF (Znode.path (List.getD l (Int.toNat (↑x : Int)) default))) : Int) + (1 : Int))) (0 : Int)) ∧ ((Option.getD (some ((↑(lastF (Znode.path (List.getD l (Int.toNat (↑x : Int)) default))) : Int) + (1 : Int))) (0 : Int) ≤ Option.getD none (↑(ByteArray.size (Znode.path (List.getD l (Int.toNat (↑x : Int)) default))) : Int)) ∧ (Option.getD none (↑(ByteArray.size (Znode.path (List.getD l (Int.toNat (↑x : Int)) default))) : Int) ≤ (↑(ByteArray.size (Znode.path (List.getD l (Int.toNat (↑x : Int)) default))) : Int)))) ∧ ((List.length (kidsF (List.take x l) p) = List.length (kidsF (List.take x l) p)) ∧ ((List.length (kidsF (List.take x l) p) + 1 ≤ 1073741824) ∧ ((sizedL 1 1 (rowg (k61_0 l x))) ∧ ((inK IntKind.i64 ((↑x : Int) + (1 : Int))) ∧ (∃ y : Nat, ((SLe (AS.mk [(0, encL (encZnode 1) 1 l), (1, V.str p), (5, V.osl 32000384 (List.length (kidsF (List.take x l) p) + 1)), (6, vi ((↑x : Int) + (1 : Int)))] [(32000384, Blk.arr 1 (List.length (kidsF (List.take x l) p) + 1) (appg (List.length (kidsF (List.take x l) p)) (gL encS (kidsF (List.take x l) p)) (rowg (k61_0 l x))) 100)]) (k61_1 l p y)) ∧ ((y ≤ List.length l) ∧ (List.length l - y < List.length l - x)))))))))))) ∧ ((b = false) → ((inK IntKind.i64 ((↑x : Int) + (1 : Int))) ∧ (∃ y : Nat, ((SLe (AS.mk [(0, encL (encZnode 1) 1 l), (1, V.str p), (5, V.osl 32000384 (List.length (kidsF (List.take x l) p))), (6, vi ((↑x : Int) + (1 : Int)))] [(32000384, Blk.arr 1 (List.length (kidsF (List.take x l) p)) (gL encS (kidsF (List.take x l) p)) 100)]) (k61_1 l p y)) ∧ ((y ≤ List.length l) ∧ (List.length l - y < List.length l - x)))))))))))))))) ∧ ((decide ((↑x : Int) < (↑(List.length l) : Int)) = false) → (VLe (encL encS 2 (kidsF (List.take x l) p)) (encL encS 2 (kidsF l p)))))))) := by
    delta k61_1; delta k61_0; delta vi
    obtain ⟨hl, hb⟩ := hpre
    simp only [strEq_dec]
    refine ⟨⟨0, sle_of ⟨rfl, VLe.refl _, rfl, VLe.refl _, rfl, VLe.refl _, rfl, VLe.refl _, trivial⟩ ⟨rfl, ble_nil _, trivial⟩, by omega⟩, fun i hi => ⟨fun h => ?_, fun h => ?_⟩⟩
    · have hlt : i < l.length := by simpa using h
      have hz := hb (l.getD i default) (atZ_mem hlt)
      have n1 := kids_len (l.take i) p
      rw [List.length_take] at n1
      have h4 : lastF (l.getD i default).path < (l.getD i default).path.size := lastTo_lt _ hz.1
      simp only [Int.toNat_natCast]
      refine ⟨⟨by omega, by omega⟩, tqI _, fun _ => hz.2.1, tqI _, tqI _, fun _ h => h, fun b hb2 => ⟨fun h2 => ?_, fun h2 => ?_⟩⟩
      · rw [h2] at hb2
        have hc : (l.getD i default).path ≠ top ∧ upF (l.getD i default).path = p := by
          by_cases a1 : (l.getD i default).path = top
          · rw [decide_eq_true a1] at hb2; cases hb2
          · rw [decide_eq_false a1] at hb2
            exact ⟨a1, of_decide_eq_true hb2.symm⟩
        simp only [Option.getD_some, Option.getD_none]
        refine ⟨hz.2.1, inK64 (by omega), ⟨by omega, by omega, by omega⟩, trivial, by omega, sizedL_str, inK64 (by omega), i + 1, ?_, by omega, by omega⟩
        rw [kid_hit hlt hc, List.length_append, List.length_singleton]
        have e1 : ((lastF (l.getD i default).path : Int) + 1).toNat = lastF (l.getD i default).path + 1 := by omega
        have e2 : (((l.getD i default).path.size : Int)).toNat = (l.getD i default).path.size := by omega
        rw [e1, e2]
        exact sle_of ⟨rfl, VLe.refl _, rfl, VLe.refl _, rfl, VLe.refl _, rfl, vle_int (by omega), trivial⟩ ⟨rfl, ble_push rfl rfl, trivial⟩
      · rw [h2] at hb2
        have hc : ¬ ((l.getD i default).path ≠ top ∧ upF (l.getD i default).path = p) := fun g => by
          rw [decide_eq_false g.1] at hb2
          exact of_decide_eq_false (p := upF (l.getD i default).path = p) hb2.symm g.2
        refine ⟨inK64 (by omega), i + 1, ?_, by omega, by omega⟩
        rw [kid_no hlt hc]
        exact sle_of ⟨rfl, VLe.refl _, rfl, VLe.refl _, rfl, VLe.refl _, rfl, vle_int (by omega), trivial⟩ ⟨rfl, BLe.refl _, trivial⟩
    · have hge : i = l.length := by simp at h; omega
      subst hge
      rw [List.take_length]
      exact VLe.refl _
  exact Eq.mp (by kernel_rfl) key
theorem so61 : Sound Tryz.prog 61 sp61 := by
  refine sound_of_body hmix (pol := 1) Tryz.func61 rfl (by kernel_rfl) fun args bin ob r bout hDe hob => ?_
  unfold sp61 at hDe
  split at hDe
  · rename_i a0 a1
    cases hDe
    exact ⟨rfl, rfl, Nat.le_of_ble_eq_true (by kernel_rfl), cx61 ((decL decZnode) a0) a1, Eq.mp (by kernel_rfl) htt, Eq.mp (by kernel_rfl) da61, Eq.mp (by kernel_rfl) (noM_sound (P := Tryz.prog)), by kernel_rfl, [encL (encZnode 1) 1 (((decL decZnode) a0)), .str (a1)], args_of_vles (⟨hob.1, VLe.refl _, trivial⟩), Eq.mp (by kernel_rfl) (bd61 ((decL decZnode) a0) a1 (hob.2))⟩
  · cases hDe

/-! ### spec.l2Delete -/
def pr30 (l : List Znode) (p : ByteArray) (v : Int) : Prop := l.length ≤ 1000 ∧ longT l
noncomputable def ro30 (l : List Znode) (p : ByteArray) (v : Int) : ZResult := delZF l p v
noncomputable def rb30 (l : List Znode) (p : ByteArray) (v : Int) : List Blk := [(.arr 5 ((ro30 l p v).nodes).length (gL (encZnode 1) ((ro30 l p v).nodes)) tagS)]
noncomputable def rs30 (l : List Znode) (p : ByteArray) (v : Int) : V := .agg [.int .i64 ((ro30 l p v).code), .str ((ro30 l p v).path), .osl 0 ((ro30 l p v).nodes).length]
noncomputable def sp30 : FSpec := fun args bin => match args, bin with
  | [a0, .str a1, .int .i64 a2], [] => some (VLe a0 (encL (encZnode 1) 1 (((decL decZnode) a0))) ∧ pr30 ((decL decZnode) a0) a1 a2, rs30 ((decL decZnode) a0) a1 a2, rb30 ((decL decZnode) a0) a1 a2)
  | _, _ => none
noncomputable def D30 : Nat → Option (Bool × FSpec) := lk [(56, (false, sp56)), (44, (false, sp44)), (61, (false, sp61))]
theorem da30 : SoundAll Tryz.prog D30 := soundAll_cons so56 (soundAll_cons so44 (soundAll_cons so61 (soundAll_nil)))
noncomputable def cx30 (l : List Znode) (p : ByteArray) (v : Int) : Cx := ⟨tt, D30, Tryz.f30.ntmps, [0, 1, 2, 6, 7, 8, 10, 16, 28, 34], [], [], fun _ => none, [], noM, []⟩
noncomputable def k30_0 (l : List Znode) (p : ByteArray) (v : Int) : V := (V.agg [vi (ZResult.code (ro30 l p v)), V.str (ZResult.path (ro30 l p v)), V.osl 0 (List.length (ZResult.nodes (ro30 l p v)))])
noncomputable def k30_1 (l : List Znode) (p : ByteArray) (v : Int) : Blk := (Blk.arr 5 (List.length (ZResult.nodes (ro30 l p v))) (gL (encZnode 1) (ZResult.nodes (ro30 l p v))) 100)
theorem bd30 (l : List Znode) (p : ByteArray) (v : Int) (hpre : pr30 l p v) : bodyO (cx30 l p v) Tryz.f30 [(2, 5)] [encL (encZnode 1) 1 (l), .str (p), .int .i64 (v)] [] (fun rr bs => VLe rr (rs30 l p v) ∧ BinLe bs (rb30 l p v)) := by
  have key : (((strEq p (ByteArray.mk #[(47 : UInt8)]) = true) → ((pr56 (1 : Int)) ∧ ((VLe (V.agg [vi (ZResult.code (ro56 (1 : Int))), V.str (ZResult.path (ro56 (1 : Int))), V.osl 0 0]) (k30_0 l p v)) ∧ ((BLe (Blk.arr 5 0 (gL (encZnode 1) (ZResult.nodes (ro56 (1 : Int)))) 100) (k30_1 l p v)) ∧ (True))))) ∧ ((strEq p (ByteArray.mk #[(47 : UInt8)]) = false) → (((VLe (encL (encZnode 1) 1 l) (encL (encZnode 1) 1 (decL decZnode (encL (encZnode 1) 1 l)))) ∧ (pr44 (decL decZnode (encL (encZnode 1) 1 l)) p)) ∧ (((decide (atN (decL decZnode (encL (encZnode 1) 1 l)) p < (0 : Int)) = true) → ((pr56 (4 : Int)) ∧ ((VLe (V.agg [vi (ZResult.code (ro56 (4 : Int))), V.str (ZResult.path (ro56 (4 : Int))), V.osl 0 0]) (k30_0 l p v)) ∧ ((BLe (Blk.arr 5 0 (gL (encZnode 1) (ZResult.nodes (ro56 (4 : Int)))) 100) (k30_1 l p v)) ∧ (True))))) ∧ ((decide (atN (decL decZnode (encL (encZnode 1) 1 l)) p < (0 : Int)) = false) → ((tq (v != (-1 : Int))) ∧ ((tq (v != (-1 : Int))) ∧ ((((v != (-1 : Int)) = true) → (((0 : Int) ≤ atN (decL decZnode (encL (encZnode 1) 1 l)) p) ∧ (atN (decL decZnode (encL (encZnode 1) 1 l)) p < (↑(List.length l) : Int)))) ∧ ((tq (v != (-1 : Int))) ∧ ((tq (v != (-1 : Int))) ∧ ((tq (v != (-1 : Int))) ∧ ((tq (v != (-1 : Int))) ∧ (((true = true) → (((v != (-1 : Int)) = true) → ((v != (-1 : Int)) = true))) ∧ (∀ b : Bool, ((b = bif v != (-1 : Int) then v != Znode.version (List.getD l (Int.toNat (atN (decL decZnode (encL (encZnode 1) 1 l)) p)) default) else false) → (((b = true) → ((pr56 (7 : Int)) ∧ ((VLe (V.agg [vi (ZResult.code (ro56 (7 : Int))), V.str (ZResult.path (ro56 (7 : Int))), V.osl 0 0]) (k30_0 l p v)) ∧ ((BLe (Blk.arr 5 0 (gL (encZnode 1) (ZResult.nodes (ro56 (7 : Int)))) 100) (k30_1 l p v)) ∧ (True))))) ∧ ((b = false) → (((VLe (encL (encZnode 1) 1 l) (encL (encZnode 1) 1 (decL decZnode (encL (encZnode 1) 1 l)))) ∧ (pr61 (decL decZnode (encL (encZnode 1) 1 l)) p)) ∧ (((decide ((↑(List.length (kidsF (decL decZnode (encL (encZnode 1) 1 l)) p)) : Int) > (0 : Int)) = true) → ((pr56 (8 : Int)) ∧ ((VLe (V.agg [vi (ZResult.code (ro56 (8 : Int))), V.str (ZResult.path (ro56 (8 : Int))), V.osl 0 0]) (k30_0 l p v)) ∧ ((BLe (Blk.arr 5 0 (gL (encZnode 1) (ZResult.nodes (ro56 (8 : Int)))) 100) (k30_1 l p v)) ∧ (True))))) ∧ ((decide ((↑(List.length (kidsF (decL decZnode (encL (encZnode 1) 1 l)) p)) : Int) > (0 : Int)) = false) → ((((0 : Int) ≤ Option.getD none (0 : Int)) ∧ ((Option.getD none (0 : Int) ≤ Option.getD (some (atN (decL decZnode (encL (encZnode 1) 1 l)) p)) (↑(List.length l) : Int)) ∧ (Option.getD (some (atN (decL decZnode (encL (encZnode 1) 1 l)) p)) (↑(List.length l) : Int) ≤ (↑(List.length l) : Int)))) ∧ ((sizedL 5 (List.length l) (gL (encZnode 1) l)) ∧ ((0 = 0) ∧ ((0 + (Int.toNat (Option.getD (some (atN (decL decZnode (encL (encZnode 1) 1 l)) p)) (↑(List.length l) : Int)) - 0) ≤ 1073741824) ∧ ((sizedL 5 (Int.toNat (Option.getD (some (atN (decL decZnode (encL (encZnode 1) 1 l)) p)) (↑(List.length l) : Int)) - 0) (match (motive := Option Int → Nat → V) none with | none => gL (encZnode 1) l | some val => dropg (gL (encZnode 1) l) 0)) ∧ ((∀ i : Nat, ((i < Int.toNat (Option.getD (some (atN (decL decZnode (encL (encZnode 1) 1 l)) p)) (↑(List.length l) : Int)) - 0) → (flatV (encZnode 1 (List.getD l i default)) = true))) ∧ ((inK IntKind.i64 (atN (decL decZnode (encL (encZnode 1) 1 l)) p + (1 : Int))) ∧ ((((0 : Int) ≤ Option.getD (some (atN (decL decZnode (encL (encZnode 1) 1 l)) p + (1 : Int))) (0 : Int)) ∧ ((Option.getD (some (atN (decL decZnode (encL (encZnode 1) 1 l)) p + (1 : Int))) (0 : Int) ≤ Option.getD none (↑(List.length l) : Int)) ∧ (Option.getD none (↑(List.length l) : Int) ≤ (↑(List.length l) : Int)))) ∧ ((sizedL 5 (List.length l) (gL (encZnode 1) l)) ∧ ((0 + (Int.toNat (Option.getD (some (atN (decL decZnode (encL (encZnode 1) 1 l)) p)) (↑(List.length l) : Int)) - 0) = 0 + (Int.toNat (Option.getD (some (atN (decL decZnode (encL (encZnode 1) 1 l)) p)) (↑(List.length l) : Int)) - 0)) ∧ ((0 + (Int.toNat (Option.getD (some (atN (decL decZnode (encL (encZnode 1) 1 l)) p)) (↑(List.length l) : Int)) - 0) + (Int.toNat (Option.getD none (↑(List.length l) : Int)) - Int.toNat (Option.getD (some (atN (decL decZnode (encL (encZnode 1) 1 l)) p + (1 : Int))) (0 : Int))) ≤ 1073741824) ∧ ((sizedL 5 (Int.toNat (Option.getD none (↑(List.length l) : Int)) - Int.toNat (Option.getD (some (atN (decL decZnode (encL (encZnode 1) 1 l)) p + (1 : Int))) (0 : Int))) (match (motive := Option Int → Nat → V) some (atN (decL decZnode (encL (encZnode 1) 1 l)) p + (1 : Int)) with | none => gL (encZnode 1) l | some val => dropg (gL (encZnode 1) l) (Int.toNat (Option.getD (some (atN (decL decZnode (encL (encZnode 1) 1 l)) p + (1 : Int))) (0 : Int))))) ∧ ((∀ i : Nat, ((i < Int.toNat (Option.getD none (↑(List.length l) : Int)) - Int.toNat (Option.getD (some (atN (decL decZnode (encL (encZnode 1) 1 l)) p + (1 : Int))) (0 : Int))) → (flatV (encZnode 1 (List.getD l (Int.toNat (Option.getD (some (atN (decL decZnode (encL (encZnode 1) 1 l)) p + (1 : Int))) (0 : Int)) + i) default)) = true))) ∧ ((VLe (V.agg [vi (0 : Int), V.str (ByteArray.mk #[]), V.osl 0 (0 + (Int.toNat (Option.getD (some (atN (decL decZnode (encL (encZnode 1) 1 l)) p)) (↑(List.length l) : Int)) - 0) + (Int.toNat (Option.getD none (↑(List.length l) : Int)) - Int.toNat (Option.getD (some (atN (decL decZnode (encL (encZnode 1) 1 l)) p + (1 : Int))) (0 : Int))))]) (k30_0 l p v)) ∧ ((BLe (Blk.arr 5 (0 + (Int.toNat (Option.getD (some (atN (decL decZnode (encL (encZnode 1) 1 l)) p)) (↑(List.length l) : Int)) - 0) + (Int.toNat (Option.getD none (↑(List.length l) : Int)) - Int.toNat (Option.getD (some (atN (decL decZnode (encL (encZnode 1) 1 l)) p + (1 : Int))) (0 : Int)))) (appg (0 + (Int.toNat (Option.getD (some (atN (decL decZnode (encL (encZnode 1) 1 l)) p)) (↑(List.length l) : Int)) - 0)) (appg 0 (rowg []) (match (motive := Option Int → Nat → V) none with | none => gL (encZnode 1) l | some val => dropg (gL (encZnode 1) l) 0)) (match (motive := Option Int → Nat → V) some (atN (decL decZnode (encL (encZnode 1) 1 l)) p + (1 : Int)) with | none => gL (encZnode 1) l | some val => dropg (gL (encZnode 1) l) (Int.toNat (Option.getD (some (atN (decL decZnode (encL (encZnode 1) 1 l)) p + (1 : Int))) (0 : Int))))) 100) (k30_1 l p v)) ∧ (True)))))))))))))))))))))))))))))))))))) := by
    delta k30_1; delta k30_0; delta vi
    obtain ⟨hl, hb⟩ := hpre
    have hm : l.length ≤ maxLen := by unfold maxLen; omega
    simp only [decL_Znode, strEq_dec, verB, ro56, ro30]
    refine ⟨fun h => badZ ?_, fun h => ⟨⟨VLe.refl _, hm⟩, fun h2 => badZ ?_, fun h2 => ⟨tqI _, tqI _, fun _ => atN_bd h2, tqI _, tqI _, tqI _, tqI _, fun _ h => h, fun b hb2 => ⟨fun h3 => badZ ?_, fun h3 => ⟨⟨VLe.refl _, hl, hb⟩, fun h4 => badZ ?_, fun h4 => ?_⟩⟩⟩⟩⟩
    · unfold delZF
      rw [if_pos (of_decide_eq_true h)]
    · unfold delZF
      rw [if_neg (of_decide_eq_false h), if_pos (of_decide_eq_true h2)]
    · rw [h3] at hb2
      unfold delZF
      rw [if_neg (of_decide_eq_false h), if_neg (of_decide_eq_false h2), if_pos (of_decide_eq_true hb2.symm)]
    · rw [h3] at hb2
      have h5 : kidsF l p ≠ [] := fun g => by rw [g] at h4; cases h4
      unfold delZF
      rw [if_neg (of_decide_eq_false h), if_neg (of_decide_eq_false h2), if_neg (of_decide_eq_false hb2.symm), if_pos h5]
    · rw [h3] at hb2
      have h5 : ¬ kidsF l p ≠ [] := fun g => of_decide_eq_false h4 (by have := List.length_pos_iff.2 g; omega)
      have h6 := atN_bd h2
      have e : delZF l p v = ⟨0, nilB, l.take (atN l p).toNat ++ l.drop ((atN l p).toNat + 1)⟩ := by
        unfold delZF
        rw [if_neg (of_decide_eq_false h), if_neg (of_decide_eq_false h2), if_neg (of_decide_eq_false hb2.symm), if_neg h5]
      obtain ⟨i, hi⟩ := Int.eq_ofNat_of_zero_le h6.1
      rw [e]
      rw [hi] at h6 ⊢
      have h7 : i < l.length := by omega
      have en : (l.take i ++ l.drop (i + 1)).length = i + (l.length - (i + 1)) := by
        rw [List.length_append, List.length_take, List.length_drop]
        omega
      have ei : ((i : Int) + 1).toNat = i + 1 := by omega
      simp only [Option.getD_some, Option.getD_none, Int.toNat_natCast, Nat.sub_zero, Nat.zero_add, ei, en]
      exact ⟨⟨by omega, by omega, by omega⟩, fun k hk => ⟨rfl, rfl⟩, trivial, by omega, fun k hk => ⟨rfl, rfl⟩, fun k hk => rfl, inK64 (by omega), ⟨by omega, by omega, by omega⟩, fun k hk => ⟨rfl, rfl⟩, trivial, by omega, fun k hk => ⟨rfl, rfl⟩, fun k hk => rfl, VLe.refl _, ble_del h7, trivial⟩
  exact Eq.mp (by kernel_rfl) key
theorem so30 : Sound Tryz.prog 30 sp30 := by
  refine sound_of_bodyO hmix (tpl := [(2, 5)]) Tryz.func30 rfl (by kernel_rfl) fun args bin ob r bout hDe hob => ?_
  unfold sp30 at hDe
  split at hDe
  · rename_i a0 a1 a2
    cases hDe
    exact ⟨Nat.le_of_ble_eq_true (by kernel_rfl), cx30 ((decL decZnode) a0) a1 a2, Eq.mp (by kernel_rfl) htt, Eq.mp (by kernel_rfl) da30, Eq.mp (by kernel_rfl) (noM_sound (P := Tryz.prog)), by kernel_rfl, [encL (encZnode 1) 1 (((decL decZnode) a0)), .str (a1), .int .i64 (a2)], [], args_of_vles (⟨hob.1, VLe.refl _, VLe.refl _, trivial⟩), trivial, Eq.mp (by kernel_rfl) (bd30 ((decL decZnode) a0) a1 a2 (hob.2))⟩
  · cases hDe

/-! ### spec.l2Set -/
def pr31 (l : List Znode) (p : ByteArray) (d : Int) (v : Int) : Prop := l.length ≤ 1000 ∧ longT l
noncomputable def ro31 (l : List Znode) (p : ByteArray) (d : Int) (v : Int) : ZResult := setZF l p d v
noncomputable def rb31 (l : List Znode) (p : ByteArray) (d : Int) (v : Int) : List Blk := [(.arr 5 ((ro31 l p d v).nodes).length (gL (encZnode 1) ((ro31 l p d v).nodes)) tagS)]
noncomputable def rs31 (l : List Znode) (p : ByteArray) (d : Int) (v : Int) : V := .agg [.int .i64 ((ro31 l p d v).code), .str ((ro31 l p d v).path), .osl 0 ((ro31 l p d v).nodes).length]
noncomputable def sp31 : FSpec := fun args bin => match args, bin with
  | [a0, .str a1, .int .i64 a2, .int .i64 a3], [] => some (VLe a0 (encL (encZnode 1) 1 (((decL decZnode) a0))) ∧ pr31 ((decL decZnode) a0) a1 a2 a3, rs31 ((decL decZnode) a0) a1 a2 a3, rb31 ((decL decZnode) a0) a1 a2 a3)
  | _, _ => none
noncomputable def D31 : Nat → Option (Bool × FSpec) := lk [(56, (false, sp56)), (44, (false, sp44)), (41, (false, sp41)), (26, (false, sp26))]
theorem da31 : SoundAll Tryz.prog D31 := soundAll_cons so56 (soundAll_cons so44 (soundAll_cons so41 (soundAll_cons so26 (soundAll_nil))))
noncomputable def cx31 (l : List Znode) (p : ByteArray) (d : Int) (v : Int) : Cx := ⟨tt, D31, Tryz.f31.ntmps, [0, 1, 2, 3, 8, 9, 10, 13, 19, 31, 38], [], [], fun _ => none, [], noM, []⟩
noncomputable def k31_0 (l : List Znode) (p : ByteArray) (d : Int) (v : Int) : V := (V.agg [vi (ZResult.code (ro31 l p d v)), V.str (ZResult.path (ro31 l p d v)), V.osl 0 (List.length (ZResult.nodes (ro31 l p d v)))])
noncomputable def k31_1 (l : List Znode) (p : ByteArray) (d : Int) (v : Int) : Blk := (Blk.arr 5 (List.length (ZResult.nodes (ro31 l p d v))) (gL (encZnode 1) (ZResult.nodes (ro31 l p d v))) 100)
noncomputable def k31_2 (l : List Znode) : Nat := (List.length (ro26 (decL decZnode (encL (encZnode 1) 1 l))))
theorem bd31 (l : List Znode) (p : ByteArray) (d : Int) (v : Int) (hpre : pr31 l p d v) : bodyO (cx31 l p d v) Tryz.f31 [(2, 5)] [encL (encZnode 1) 1 (l), .str (p), .int .i64 (d), .int .i64 (v)] [] (fun rr bs => VLe rr (rs31 l p d v) ∧ BinLe bs (rb31 l p d v)) := by
  have key : ((pr41 d) ∧ ((((!decide (inR d (0 : Int) (9999 : Int))) = true) → ((pr56 (3 : Int)) ∧ ((VLe (V.agg [vi (ZResult.code (ro56 (3 : Int))), V.str (ZResult.path (ro56 (3 : Int))), V.osl 0 0]) (k31_0 l p d v)) ∧ ((BLe (Blk.arr 5 0 (gL (encZnode 1) (ZResult.nodes (ro56 (3 : Int)))) 100) (k31_1 l p d v)) ∧ (True))))) ∧ (((!decide (inR d (0 : Int) (9999 : Int))) = false) → (((VLe (encL (encZnode 1) 1 l) (encL (encZnode 1) 1 (decL decZnode (encL (encZnode 1) 1 l)))) ∧ (pr44 (decL decZnode (encL (encZnode 1) 1 l)) p)) ∧ (((decide (atN (decL decZnode (encL (encZnode 1) 1 l)) p < (0 : Int)) = true) → ((pr56 (4 : Int)) ∧ ((VLe (V.agg [vi (ZResult.code (ro56 (4 : Int))), V.str (ZResult.path (ro56 (4 : Int))), V.osl 0 0]) (k31_0 l p d v)) ∧ ((BLe (Blk.arr 5 0 (gL (encZnode 1) (ZResult.nodes (ro56 (4 : Int)))) 100) (k31_1 l p d v)) ∧ (True))))) ∧ ((decide (atN (decL decZnode (encL (encZnode 1) 1 l)) p < (0 : Int)) = false) → ((tq (v != (-1 : Int))) ∧ ((tq (v != (-1 : Int))) ∧ ((((v != (-1 : Int)) = true) → (((0 : Int) ≤ atN (decL decZnode (encL (encZnode 1) 1 l)) p) ∧ (atN (decL decZnode (encL (encZnode 1) 1 l)) p < (↑(List.length l) : Int)))) ∧ ((tq (v != (-1 : Int))) ∧ ((tq (v != (-1 : Int))) ∧ ((tq (v != (-1 : Int))) ∧ ((tq (v != (-1 : Int))) ∧ (((true = true) → (((v != (-1 : Int)) = true) → ((v != (-1 : Int)) = true))) ∧ (∀ b : Bool, ((b = bif v != (-1 : Int) then v != Znode.version (List.getD l (Int.toNat (atN (decL decZnode (encL (encZnode 1) 1 l)) p)) default) else false) → (((b = true) → ((pr56 (7 : Int)) ∧ ((VLe (V.agg [vi (ZResult.code (ro56 (7 : Int))), V.str (ZResult.path (ro56 (7 : Int))), V.osl 0 0]) (k31_0 l p d v)) ∧ ((BLe (Blk.arr 5 0 (gL (encZnode 1) (ZResult.nodes (ro56 (7 : Int)))) 100) (k31_1 l p d v)) ∧ (True))))) ∧ ((b = false) → ((((0 : Int) ≤ atN (decL decZnode (encL (encZnode 1) 1 l)) p) ∧ (atN (decL decZnode (encL (encZnode 1) 1 l)) p < (↑(List.length l) : Int))) ∧ (((decide (Znode.version (List.getD l (Int.toNat (atN (decL decZnode (encL (encZnode 1) 1 l)) p)) default) ≥ (999 : Int)) = true) → ((pr56 (2 : Int)) ∧ ((VLe (V.agg [vi (ZResult.code (ro56 (2 : Int))), V.str (ZResult.path (ro56 (2 : Int))), V.osl 0 0]) (k31_0 l p d v)) ∧ ((BLe (Blk.arr 5 0 (gL (encZnode 1) (ZResult.nodes (ro56 (2 : Int)))) 100) (k31_1 l p d v)) ∧ (True))))) ∧ ((decide (Znode.version (List.getD l (Int.toNat (atN (decL decZnode (encL (encZnode 1) 1 l)) p)) default) ≥ (999 : Int)) = false) → (((VLe (encL (encZnode 1) 1 l) (encL (encZnode 1) 1 (decL decZnode (encL (encZnode 1) 1 l)))) ∧ (pr26 (decL decZnode (encL (encZnode 1) 1 l)))) ∧ ((((0 : Int) ≤ atN (decL decZnode (encL (encZnode 1) 1 l)) p) ∧ (atN (decL decZnode (encL (encZnode 1) 1 l)) p < (↑(k31_2 l) : Int))) ∧ ((Int.toNat (atN (decL decZnode (encL (encZnode 1) 1 l)) p) < List.length (ro26 (decL decZnode (encL (encZnode 1) 1 l)))) ∧ ((((0 : Int) ≤ atN (decL decZnode (encL (encZnode 1) 1 l)) p) ∧ (atN (decL decZnode (encL (encZnode 1) 1 l)) p < (↑(k31_2 l) : Int))) ∧ ((Int.toNat (atN (decL decZnode (encL (encZnode 1) 1 l)) p) < List.length (ro26 (decL decZnode (encL (encZnode 1) 1 l)))) ∧ ((inK IntKind.i64 ((bif Nat.beq (Int.toNat (atN (decL decZnode (encL (encZnode 1) 1 l)) p)) (Int.toNat (atN (decL decZnode (encL (encZnode 1) 1 l)) p)) then Znode.version (List.getD (ro26 (decL decZnode (encL (encZnode 1) 1 l))) (Int.toNat (atN (decL decZnode (encL (encZnode 1) 1 l)) p)) default) else Znode.version (List.getD (ro26 (decL decZnode (encL (encZnode 1) 1 l))) (Int.toNat (atN (decL decZnode (encL (encZnode 1) 1 l)) p)) default)) + (1 : Int))) ∧ ((((0 : Int) ≤ atN (decL decZnode (encL (encZnode 1) 1 l)) p) ∧ (atN (decL decZnode (encL (encZnode 1) 1 l)) p < (↑(k31_2 l) : Int))) ∧ ((Int.toNat (atN (decL decZnode (encL (encZnode 1) 1 l)) p) < List.length (ro26 (decL decZnode (encL (encZnode 1) 1 l)))) ∧ ((VLe (V.agg [vi (0 : Int), V.str (ByteArray.mk #[]), V.osl 0 (k31_2 l)]) (k31_0 l p d v)) ∧ ((BLe (Blk.arr 5 (k31_2 l) (setg (setg (gL (encZnode 1) (ro26 (decL decZnode (encL (encZnode 1) 1 l)))) (Int.toNat (atN (decL decZnode (encL (encZnode 1) 1 l)) p)) (V.agg [V.str (Znode.path (List.getD (ro26 (decL decZnode (encL (encZnode 1) 1 l))) (Int.toNat (atN (decL decZnode (encL (encZnode 1) 1 l)) p)) default)), vi d, vi (Znode.version (List.getD (ro26 (decL decZnode (encL (encZnode 1) 1 l))) (Int.toNat (atN (decL decZnode (encL (encZnode 1) 1 l)) p)) default)), vi (Znode.owner (List.getD (ro26 (decL decZnode (encL (encZnode 1) 1 l))) (Int.toNat (atN (decL decZnode (encL (encZnode 1) 1 l)) p)) default)), vi (Znode.next (List.getD (ro26 (decL decZnode (encL (encZnode 1) 1 l))) (Int.toNat (atN (decL decZnode (encL (encZnode 1) 1 l)) p)) default))])) (Int.toNat (atN (decL decZnode (encL (encZnode 1) 1 l)) p)) (V.agg [V.str (bif Nat.beq (Int.toNat (atN (decL decZnode (encL (encZnode 1) 1 l)) p)) (Int.toNat (atN (decL decZnode (encL (encZnode 1) 1 l)) p)) then Znode.path (List.getD (ro26 (decL decZnode (encL (encZnode 1) 1 l))) (Int.toNat (atN (decL decZnode (encL (encZnode 1) 1 l)) p)) default) else Znode.path (List.getD (ro26 (decL decZnode (encL (encZnode 1) 1 l))) (Int.toNat (atN (decL decZnode (encL (encZnode 1) 1 l)) p)) default)), vi (bif Nat.beq (Int.toNat (atN (decL decZnode (encL (encZnode 1) 1 l)) p)) (Int.toNat (atN (decL decZnode (encL (encZnode 1) 1 l)) p)) then d else Znode.data (List.getD (ro26 (decL decZnode (encL (encZnode 1) 1 l))) (Int.toNat (atN (decL decZnode (encL (encZnode 1) 1 l)) p)) default)), vi ((bif Nat.beq (Int.toNat (atN (decL decZnode (encL (encZnode 1) 1 l)) p)) (Int.toNat (atN (decL decZnode (encL (encZnode 1) 1 l)) p)) then Znode.version (List.getD (ro26 (decL decZnode (encL (encZnode 1) 1 l))) (Int.toNat (atN (decL decZnode (encL (encZnode 1) 1 l)) p)) default) else Znode.version (List.getD (ro26 (decL decZnode (encL (encZnode 1) 1 l))) (Int.toNat (atN (decL decZnode (encL (encZnode 1) 1 l)) p)) default)) + (1 : Int)), vi (bif Nat.beq (Int.toNat (atN (decL decZnode (encL (encZnode 1) 1 l)) p)) (Int.toNat (atN (decL decZnode (encL (encZnode 1) 1 l)) p)) then Znode.owner (List.getD (ro26 (decL decZnode (encL (encZnode 1) 1 l))) (Int.toNat (atN (decL decZnode (encL (encZnode 1) 1 l)) p)) default) else Znode.owner (List.getD (ro26 (decL decZnode (encL (encZnode 1) 1 l))) (Int.toNat (atN (decL decZnode (encL (encZnode 1) 1 l)) p)) default)), vi (bif Nat.beq (Int.toNat (atN (decL decZnode (encL (encZnode 1) 1 l)) p)) (Int.toNat (atN (decL decZnode (encL (encZnode 1) 1 l)) p)) then Znode.next (List.getD (ro26 (decL decZnode (encL (encZnode 1) 1 l))) (Int.toNat (atN (decL decZnode (encL (encZnode 1) 1 l)) p)) default) else Znode.next (List.getD (ro26 (decL decZnode (encL (encZnode 1) 1 l))) (Int.toNat (atN (decL decZnode (encL (encZnode 1) 1 l)) p)) default))])) 100) (k31_1 l p d v)) ∧ (True)))))))))))))))))))))))))))))))) := by
    delta k31_2; delta k31_1; delta k31_0; delta vi
    obtain ⟨hl, hb⟩ := hpre
    have hm : l.length ≤ maxLen := by unfold maxLen; omega
    simp only [decL_Znode, strEq_dec, verB, ro56, ro31, ro26]
    refine ⟨trivial, fun h => badZ ?_, fun h => ⟨⟨VLe.refl _, hm⟩, fun h2 => badZ ?_, fun h2 => ⟨tqI _, tqI _, fun _ => atN_bd h2, tqI _, tqI _, tqI _, tqI _, fun _ h => h, fun b hb2 => ⟨fun h3 => badZ ?_, fun h3 => ⟨atN_bd h2, fun h4 => badZ ?_, fun h4 => ?_⟩⟩⟩⟩⟩
    · unfold setZF
      rw [if_pos (by simpa using h)]
    · unfold setZF
      rw [if_neg (by simpa using h), if_pos (of_decide_eq_true h2)]
    · rw [h3] at hb2
      unfold setZF
      rw [if_neg (by simpa using h), if_neg (of_decide_eq_false h2), if_pos (of_decide_eq_true hb2.symm)]
    · rw [h3] at hb2
      unfold setZF
      rw [if_neg (by simpa using h), if_neg (of_decide_eq_false h2), if_neg (of_decide_eq_false hb2.symm), if_pos (of_decide_eq_true h4)]
    · rw [h3] at hb2
      have h5 := of_decide_eq_false h4
      have h6 := atN_bd h2
      have h9 := h6
      have e : setZF l p d v = ⟨0, nilB, turnF l (atN l p).toNat d⟩ := by
        unfold setZF
        rw [if_neg (by simpa using h), if_neg (of_decide_eq_false h2), if_neg (of_decide_eq_false hb2.symm), if_neg h5]
      rw [e]
      obtain ⟨i, hi⟩ := Int.eq_ofNat_of_zero_le h6.1
      rw [hi] at h5 h6 h9 ⊢
      have h7 : i < l.length := by omega
      have h8 : 0 ≤ (l.getD i default).version := (hb _ (atZ_mem h7)).2.2.1
      have en : (turnF l i d).length = l.length := by
        unfold turnF
        rw [List.length_set]
      simp only [Int.toNat_natCast, Nat.beq_refl, cond_true, en] at h5 ⊢
      refine ⟨⟨VLe.refl _, hl⟩, h9, h7, h9, h7, inK64 (by omega), h9, h7, VLe.refl _, ?_, trivial⟩
      exact ble_setc h7 (ELe.of_eq (by simp [setg_eq, V.cells, encZnode])) fun j e => by simp [setg_eq, e]
  exact Eq.mp (by kernel_rfl) key
theorem so31 : Sound Tryz.prog 31 sp31 := by
  refine sound_of_bodyO hmix (tpl := [(2, 5)]) Tryz.func31 rfl (by kernel_rfl) fun args bin ob r bout hDe hob => ?_
  unfold sp31 at hDe
  split at hDe
  · rename_i a0 a1 a2 a3
    cases hDe
    exact ⟨Nat.le_of_ble_eq_true (by kernel_rfl), cx31 ((decL decZnode) a0) a1 a2 a3, Eq.mp (by kernel_rfl) htt, Eq.mp (by kernel_rfl) da31, Eq.mp (by kernel_rfl) (noM_sound (P := Tryz.prog)), by kernel_rfl, [encL (encZnode 1) 1 (((decL decZnode) a0)), .str (a1), .int .i64 (a2), .int .i64 (a3)], [], args_of_vles (⟨hob.1, VLe.refl _, VLe.refl _, VLe.refl _, trivial⟩), trivial, Eq.mp (by kernel_rfl) (bd31 ((decL decZnode) a0) a1 a2 a3 (hob.2))⟩
  · cases hDe

end Go.Av
