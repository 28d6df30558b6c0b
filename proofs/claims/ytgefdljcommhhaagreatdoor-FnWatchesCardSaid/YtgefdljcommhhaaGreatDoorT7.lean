/- A node that is created. -/
import Derived.Test.YtgefdljcommhhaaGreatDoorT6
namespace Go.Av
open Go.Proofs
set_option maxRecDepth 100000
set_option maxHeartbeats 8000000
set_option linter.unusedVariables false
set_option linter.unusedSimpArgs false

theorem decL_set {l : List Znode} {i t : Nat} {v : V} {z : Znode} (hv : decZnode v = z) : decL decZnode (.sl l.length (setg (gL (encZnode 1) l) i v) t) = l.set i z := by
  refine List.ext_getElem (by simp [decL]) fun k h1 h2 => ?_
  have hk : k < l.length := by simpa using h2
  simp only [decL, List.getElem_map, List.getElem_range, setg_eq, List.getElem_set]
  by_cases e : k = i
  · subst e
    rw [if_pos rfl, if_pos rfl, hv]
  · rw [if_neg e, if_neg (fun g => e g.symm)]
    simp [gL, hk]
theorem vle_set {l : List Znode} {i : Nat} {v : V} {z : Znode} (hi : i < l.length) (hv : v = encZnode 1 z) : VLe (.sl l.length (setg (gL (encZnode 1) l) i v) 1) (encL (encZnode 1) 1 (l.set i z)) :=
  vle_encL_eq (by rw [List.length_set]) (fun k hk => by
    have hk2 : k < l.length := by rw [List.length_set] at hk; exact hk
    rw [setg_eq, List.getElem_set]
    by_cases e : k = i
    · subst e
      rw [if_pos rfl, if_pos rfl, hv]
    · rw [if_neg e, if_neg (fun g => e g.symm)]
      simp [gL, hk2]) (Or.inl rfl)
theorem inB {a b : Prop} [Decidable a] [Decidable b] : (bif !decide a then true else !decide b) = decide (¬ (a ∧ b)) := by
  by_cases h1 : a <;> by_cases h2 : b <;> simp [h1, h2]
theorem up_size (p : ByteArray) : (upF p).size ≤ p.size + 1 := by
  unfold upF
  split
  · show 1 ≤ _
    omega
  · have h : lastF p ≤ p.size := lastTo_le _ _
    rw [extract_size _ _ _ (Nat.zero_le _) h]
    omega
theorem seqT_size (s : ByteArray) (n : Int) : (seqT s n).size = s.size + 2 := by
  unfold seqT
  rw [ByteArray.size_append, ByteArray.size_append, digT_size, digT_size]
theorem name_size {p : ByteArray} (h : 0 < p.size) : (nameF p).size ≤ p.size := by
  have h2 : lastF p < p.size := lastTo_lt _ h
  unfold nameF
  rw [extract_size _ _ _ (by omega) (Nat.le_refl _)]
  omega
theorem placed {l out : List Znode} {p : ByteArray} {d o : Int} {x : ZResult} (hx : x = placeF l out p d o) (h1 : decide (atN l p ≥ 0) = false) (h2 : decide ((l.length : Int) ≥ 20) = false) : x = ⟨0, p, putZ out ⟨p, d, 0, o, 0⟩⟩ := by
  rw [hx]
  unfold placeF
  rw [if_neg (of_decide_eq_false h1), if_neg (by have := of_decide_eq_false h2; omega)]
theorem place6 {l out : List Znode} {p : ByteArray} {d o : Int} {x : ZResult} (hx : x = placeF l out p d o) (h1 : decide (atN l p ≥ 0) = true) : x = ⟨6, nilB, []⟩ := by
  rw [hx]
  unfold placeF
  rw [if_pos (of_decide_eq_true h1)]
theorem place2 {l out : List Znode} {p : ByteArray} {d o : Int} {x : ZResult} (hx : x = placeF l out p d o) (h1 : decide (atN l p ≥ 0) = false) (h2 : decide ((l.length : Int) ≥ 20) = true) : x = ⟨2, nilB, []⟩ := by
  rw [hx]
  unfold placeF
  rw [if_neg (of_decide_eq_false h1), if_pos (by have := of_decide_eq_true h2; omega)]
theorem goodZ {p : ByteArray} {l : List Znode} {x : ZResult} (h : x = ⟨0, p, l⟩) : VLe (.agg [.int .i64 0, .str p, .osl 0 l.length]) (.agg [.int .i64 x.code, .str x.path, .osl 0 x.nodes.length]) ∧
    BLe (.arr 5 l.length (gL (encZnode 1) l) tagS) (.arr 5 x.nodes.length (gL (encZnode 1) x.nodes) tagS) ∧ True := by
  subst h
  exact ⟨VLe.refl _, BLe.refl _, trivial⟩


/-! ### spec.l2Create -/
def pr29 (l : List Znode) (p : ByteArray) (d : Int) (o : Int) (s : Bool) : Prop := l.length ≤ 1000 ∧ longT l ∧ 0 < p.size ∧ p.size ≤ 900
noncomputable def ro29 (l : List Znode) (p : ByteArray) (d : Int) (o : Int) (s : Bool) : ZResult := newZF l p d o s
noncomputable def rb29 (l : List Znode) (p : ByteArray) (d : Int) (o : Int) (s : Bool) : List Blk := [(.arr 5 ((ro29 l p d o s).nodes).length (gL (encZnode 1) ((ro29 l p d o s).nodes)) tagS)]
noncomputable def rs29 (l : List Znode) (p : ByteArray) (d : Int) (o : Int) (s : Bool) : V := .agg [.int .i64 ((ro29 l p d o s).code), .str ((ro29 l p d o s).path), .osl 0 ((ro29 l p d o s).nodes).length]
noncomputable def sp29 : FSpec := fun args bin => match args, bin with
  | [a0, .str a1, .int .i64 a2, .int .i64 a3, .bool a4], [] => some (VLe a0 (encL (encZnode 1) 1 (((decL decZnode) a0))) ∧ pr29 ((decL decZnode) a0) a1 a2 a3 a4, rs29 ((decL decZnode) a0) a1 a2 a3 a4, rb29 ((decL decZnode) a0) a1 a2 a3 a4)
  | _, _ => none
noncomputable def D29 : Nat → Option (Bool × FSpec) := lk [(56, (false, sp56)), (44, (false, sp44)), (41, (false, sp41)), (43, (false, sp43)), (45, (false, sp45)), (26, (false, sp26)), (57, (false, sp57)), (59, (false, sp59)), (58, (false, sp58)), (55, (false, sp55)), (40, (false, sp40)), (60, (false, sp60))]
theorem da29 : SoundAll Tryz.prog D29 := soundAll_cons so56 (soundAll_cons so44 (soundAll_cons so41 (soundAll_cons so43 (soundAll_cons so45 (soundAll_cons so26 (soundAll_cons so57 (soundAll_cons so59 (soundAll_cons so58 (soundAll_cons so55 (soundAll_cons so40 (soundAll_cons so60 (soundAll_nil))))))))))))
noncomputable def cx29 (l : List Znode) (p : ByteArray) (d : Int) (o : Int) (s : Bool) : Cx := ⟨tt, D29, Tryz.f29.ntmps, [0, 1, 2, 3, 4, 10, 11, 12, 13, 14, 15, 23, 26, 33, 40, 44, 51, 62, 73, 85, 89], [], [], fun _ => none, [], noM, []⟩
noncomputable def k29_0 (l : List Znode) (p : ByteArray) : V := (V.sl (List.length (ro26 (decL decZnode (encL (encZnode 1) 1 l)))) (setg (gL (encZnode 1) (ro26 (decL decZnode (encL (encZnode 1) 1 l)))) (Int.toNat (atN (decL decZnode (encL (encZnode 1) 1 l)) (upF p))) (V.agg [V.str (Znode.path (List.getD (ro26 (decL decZnode (encL (encZnode 1) 1 l))) (Int.toNat (atN (decL decZnode (encL (encZnode 1) 1 l)) (upF p))) default)), vi (Znode.data (List.getD (ro26 (decL decZnode (encL (encZnode 1) 1 l))) (Int.toNat (atN (decL decZnode (encL (encZnode 1) 1 l)) (upF p))) default)), vi (Znode.version (List.getD (ro26 (decL decZnode (encL (encZnode 1) 1 l))) (Int.toNat (atN (decL decZnode (encL (encZnode 1) 1 l)) (upF p))) default)), vi (Znode.owner (List.getD (ro26 (decL decZnode (encL (encZnode 1) 1 l))) (Int.toNat (atN (decL decZnode (encL (encZnode 1) 1 l)) (upF p))) default)), vi (Znode.next (List.getD l (Int.toNat (atN (decL decZnode (encL (encZnode 1) 1 l)) (upF p))) default) + (1 : Int))])) 1)
noncomputable def k29_1 (l : List Znode) (p : ByteArray) (d : Int) (o : Int) : V := (V.agg [V.str (joinF (upF p) (seqT (ByteArray.extract p (Int.toNat (Option.getD (some ((↑(lastF p) : Int) + (1 : Int))) (0 : Int))) (Int.toNat (Option.getD none (↑(ByteArray.size p) : Int)))) (Znode.next (List.getD l (Int.toNat (atN (decL decZnode (encL (encZnode 1) 1 l)) (upF p))) default)))), vi d, vi (0 : Int), vi o, vi (0 : Int)])
noncomputable def k29_2 (l : List Znode) (p : ByteArray) (d : Int) (o : Int) (s : Bool) : V := (V.agg [vi (ZResult.code (ro29 l p d o s)), V.str (ZResult.path (ro29 l p d o s)), V.osl 0 (List.length (ZResult.nodes (ro29 l p d o s)))])
noncomputable def k29_3 (l : List Znode) (p : ByteArray) (d : Int) (o : Int) (s : Bool) : Blk := (Blk.arr 5 (List.length (ZResult.nodes (ro29 l p d o s))) (gL (encZnode 1) (ZResult.nodes (ro29 l p d o s))) 100)
noncomputable def k29_4 (l : List Znode) : V := (encL (encZnode 1) 1 (ro26 (decL decZnode (encL (encZnode 1) 1 l))))
noncomputable def k29_5 (l : List Znode) : Prop := (VLe (encL (encZnode 1) 1 l) (encL (encZnode 1) 1 (decL decZnode (encL (encZnode 1) 1 l))))
noncomputable def k29_6 (p : ByteArray) (d : Int) (o : Int) : V := (V.agg [V.str p, vi d, vi (0 : Int), vi o, vi (0 : Int)])
noncomputable def k29_7 : V := (V.agg [vi (ZResult.code (ro56 (3 : Int))), V.str (ZResult.path (ro56 (3 : Int))), V.osl 0 0])
noncomputable def k29_8 : V := (V.agg [vi (ZResult.code (ro56 (6 : Int))), V.str (ZResult.path (ro56 (6 : Int))), V.osl 0 0])
noncomputable def k29_9 : V := (V.agg [vi (ZResult.code (ro56 (2 : Int))), V.str (ZResult.path (ro56 (2 : Int))), V.osl 0 0])
theorem bd29 (l : List Znode) (p : ByteArray) (d : Int) (o : Int) (s : Bool) (hpre : pr29 l p d o s) : bodyO (cx29 l p d o s) Tryz.f29 [(2, 5)] [encL (encZnode 1) 1 (l), .str (p), .int .i64 (d), .int .i64 (o), .bool (s)] [] (fun rr bs => VLe rr (rs29 l p d o s) ∧ BinLe bs (rb29 l p d o s)) := by
  have key : ((pr41 d) ∧ ((tq (!!decide (inR d (0 : Int) (9999 : Int)))) ∧ ((((!!decide (inR d (0 : Int) (9999 : Int))) = true) → (pr43 o)) ∧ ((tq (!!decide (inR d (0 : Int) (9999 : Int)))) ∧ (((true = true) → (((!decide (inR d (0 : Int) (9999 : Int))) = false) → ((!!decide (inR d (0 : Int) (9999 : Int))) = true))) ∧ (∀ b : Bool, ((b = bif !decide (inR d (0 : Int) (9999 : Int)) then true else !decide (inR o (0 : Int) (9 : Int))) → (((b = true) → ((pr56 (3 : Int)) ∧ ((VLe k29_7 (k29_2 l p d o s)) ∧ ((BLe (Blk.arr 5 0 (gL (encZnode 1) (ZResult.nodes (ro56 (3 : Int)))) 100) (k29_3 l p d o s)) ∧ (True))))) ∧ ((b = false) → (((strEq p (ByteArray.mk #[(47 : UInt8)]) = true) → ((pr56 (1 : Int)) ∧ ((VLe (V.agg [vi (ZResult.code (ro56 (1 : Int))), V.str (ZResult.path (ro56 (1 : Int))), V.osl 0 0]) (k29_2 l p d o s)) ∧ ((BLe (Blk.arr 5 0 (gL (encZnode 1) (ZResult.nodes (ro56 (1 : Int)))) 100) (k29_3 l p d o s)) ∧ (True))))) ∧ ((strEq p (ByteArray.mk #[(47 : UInt8)]) = false) → ((pr45 p) ∧ (((k29_5 l) ∧ (pr44 (decL decZnode (encL (encZnode 1) 1 l)) (upF p))) ∧ (((decide (atN (decL decZnode (encL (encZnode 1) 1 l)) (upF p) < (0 : Int)) = true) → ((pr56 (4 : Int)) ∧ ((VLe (V.agg [vi (ZResult.code (ro56 (4 : Int))), V.str (ZResult.path (ro56 (4 : Int))), V.osl 0 0]) (k29_2 l p d o s)) ∧ ((BLe (Blk.arr 5 0 (gL (encZnode 1) (ZResult.nodes (ro56 (4 : Int)))) 100) (k29_3 l p d o s)) ∧ (True))))) ∧ ((decide (atN (decL decZnode (encL (encZnode 1) 1 l)) (upF p) < (0 : Int)) = false) → ((((0 : Int) ≤ atN (decL decZnode (encL (encZnode 1) 1 l)) (upF p)) ∧ (atN (decL decZnode (encL (encZnode 1) 1 l)) (upF p) < (↑(List.length l) : Int))) ∧ ((((Znode.owner (List.getD l (Int.toNat (atN (decL decZnode (encL (encZnode 1) 1 l)) (upF p))) default) != (0 : Int)) = true) → ((pr56 (8 : Int)) ∧ ((VLe (V.agg [vi (ZResult.code (ro56 (8 : Int))), V.str (ZResult.path (ro56 (8 : Int))), V.osl 0 0]) (k29_2 l p d o s)) ∧ ((BLe (Blk.arr 5 0 (gL (encZnode 1) (ZResult.nodes (ro56 (8 : Int)))) 100) (k29_3 l p d o s)) ∧ (True))))) ∧ (((Znode.owner (List.getD l (Int.toNat (atN (decL decZnode (encL (encZnode 1) 1 l)) (upF p))) default) != (0 : Int)) = false) → (((k29_5 l) ∧ (pr26 (decL decZnode (encL (encZnode 1) 1 l)))) ∧ (((s = true) → ((((0 : Int) ≤ atN (decL decZnode (encL (encZnode 1) 1 l)) (upF p)) ∧ (atN (decL decZnode (encL (encZnode 1) 1 l)) (upF p) < (↑(List.length l) : Int))) ∧ (((decide (Znode.next (List.getD l (Int.toNat (atN (decL decZnode (encL (encZnode 1) 1 l)) (upF p))) default) ≥ (100 : Int)) = true) → ((pr56 (3 : Int)) ∧ ((VLe k29_7 (k29_2 l p d o s)) ∧ ((BLe (Blk.arr 5 0 (gL (encZnode 1) (ZResult.nodes (ro56 (3 : Int)))) 100) (k29_3 l p d o s)) ∧ (True))))) ∧ ((decide (Znode.next (List.getD l (Int.toNat (atN (decL decZnode (encL (encZnode 1) 1 l)) (upF p))) default) ≥ (100 : Int)) = false) → ((pr57 p) ∧ ((inK IntKind.i64 ((↑(lastF p) : Int) + (1 : Int))) ∧ ((((0 : Int) ≤ Option.getD (some ((↑(lastF p) : Int) + (1 : Int))) (0 : Int)) ∧ ((Option.getD (some ((↑(lastF p) : Int) + (1 : Int))) (0 : Int) ≤ Option.getD none (↑(ByteArray.size p) : Int)) ∧ (Option.getD none (↑(ByteArray.size p) : Int) ≤ (↑(ByteArray.size p) : Int)))) ∧ ((pr59 (ByteArray.extract p (Int.toNat (Option.getD (some ((↑(lastF p) : Int) + (1 : Int))) (0 : Int))) (Int.toNat (Option.getD none (↑(ByteArray.size p) : Int)))) (Znode.next (List.getD l (Int.toNat (atN (decL decZnode (encL (encZnode 1) 1 l)) (upF p))) default))) ∧ ((pr58 (seqT (ByteArray.extract p (Int.toNat (Option.getD (some ((↑(lastF p) : Int) + (1 : Int))) (0 : Int))) (Int.toNat (Option.getD none (↑(ByteArray.size p) : Int)))) (Znode.next (List.getD l (Int.toNat (atN (decL decZnode (encL (encZnode 1) 1 l)) (upF p))) default)))) ∧ ((((!decide (isNm (seqT (ByteArray.extract p (Int.toNat (Option.getD (some ((↑(lastF p) : Int) + (1 : Int))) (0 : Int))) (Int.toNat (Option.getD none (↑(ByteArray.size p) : Int)))) (Znode.next (List.getD l (Int.toNat (atN (decL decZnode (encL (encZnode 1) 1 l)) (upF p))) default))))) = true) → ((pr56 (5 : Int)) ∧ ((VLe (V.agg [vi (ZResult.code (ro56 (5 : Int))), V.str (ZResult.path (ro56 (5 : Int))), V.osl 0 0]) (k29_2 l p d o s)) ∧ ((BLe (Blk.arr 5 0 (gL (encZnode 1) (ZResult.nodes (ro56 (5 : Int)))) 100) (k29_3 l p d o s)) ∧ (True))))) ∧ (((!decide (isNm (seqT (ByteArray.extract p (Int.toNat (Option.getD (some ((↑(lastF p) : Int) + (1 : Int))) (0 : Int))) (Int.toNat (Option.getD none (↑(ByteArray.size p) : Int)))) (Znode.next (List.getD l (Int.toNat (atN (decL decZnode (encL (encZnode 1) 1 l)) (upF p))) default))))) = false) → ((pr45 p) ∧ ((pr59 (ByteArray.extract p (Int.toNat (Option.getD (some ((↑(lastF p) : Int) + (1 : Int))) (0 : Int))) (Int.toNat (Option.getD none (↑(ByteArray.size p) : Int)))) (Znode.next (List.getD l (Int.toNat (atN (decL decZnode (encL (encZnode 1) 1 l)) (upF p))) default))) ∧ ((pr55 (upF p) (seqT (ByteArray.extract p (Int.toNat (Option.getD (some ((↑(lastF p) : Int) + (1 : Int))) (0 : Int))) (Int.toNat (Option.getD none (↑(ByteArray.size p) : Int)))) (Znode.next (List.getD l (Int.toNat (atN (decL decZnode (encL (encZnode 1) 1 l)) (upF p))) default)))) ∧ ((pr40 (joinF (upF p) (seqT (ByteArray.extract p (Int.toNat (Option.getD (some ((↑(lastF p) : Int) + (1 : Int))) (0 : Int))) (Int.toNat (Option.getD none (↑(ByteArray.size p) : Int)))) (Znode.next (List.getD l (Int.toNat (atN (decL decZnode (encL (encZnode 1) 1 l)) (upF p))) default))))) ∧ ((((pathF (joinF (upF p) (seqT (ByteArray.extract p (Int.toNat (Option.getD (some ((↑(lastF p) : Int) + (1 : Int))) (0 : Int))) (Int.toNat (Option.getD none (↑(ByteArray.size p) : Int)))) (Znode.next (List.getD l (Int.toNat (atN (decL decZnode (encL (encZnode 1) 1 l)) (upF p))) default)))) != (0 : Int)) = true) → ((pr56 (pathF (joinF (upF p) (seqT (ByteArray.extract p (Int.toNat (Option.getD (some ((↑(lastF p) : Int) + (1 : Int))) (0 : Int))) (Int.toNat (Option.getD none (↑(ByteArray.size p) : Int)))) (Znode.next (List.getD l (Int.toNat (atN (decL decZnode (encL (encZnode 1) 1 l)) (upF p))) default)))))) ∧ ((VLe (V.agg [vi (ZResult.code (ro56 (pathF (joinF (upF p) (seqT (ByteArray.extract p (Int.toNat (Option.getD (some ((↑(lastF p) : Int) + (1 : Int))) (0 : Int))) (Int.toNat (Option.getD none (↑(ByteArray.size p) : Int)))) (Znode.next (List.getD l (Int.toNat (atN (decL decZnode (encL (encZnode 1) 1 l)) (upF p))) default))))))), V.str (ZResult.path (ro56 (pathF (joinF (upF p) (seqT (ByteArray.extract p (Int.toNat (Option.getD (some ((↑(lastF p) : Int) + (1 : Int))) (0 : Int))) (Int.toNat (Option.getD none (↑(ByteArray.size p) : Int)))) (Znode.next (List.getD l (Int.toNat (atN (decL decZnode (encL (encZnode 1) 1 l)) (upF p))) default))))))), V.osl 0 0]) (k29_2 l p d o s)) ∧ ((BLe (Blk.arr 5 0 (gL (encZnode 1) (ZResult.nodes (ro56 (pathF (joinF (upF p) (seqT (ByteArray.extract p (Int.toNat (Option.getD (some ((↑(lastF p) : Int) + (1 : Int))) (0 : Int))) (Int.toNat (Option.getD none (↑(ByteArray.size p) : Int)))) (Znode.next (List.getD l (Int.toNat (atN (decL decZnode (encL (encZnode 1) 1 l)) (upF p))) default)))))))) 100) (k29_3 l p d o s)) ∧ (True))))) ∧ (((pathF (joinF (upF p) (seqT (ByteArray.extract p (Int.toNat (Option.getD (some ((↑(lastF p) : Int) + (1 : Int))) (0 : Int))) (Int.toNat (Option.getD none (↑(ByteArray.size p) : Int)))) (Znode.next (List.getD l (Int.toNat (atN (decL decZnode (encL (encZnode 1) 1 l)) (upF p))) default)))) != (0 : Int)) = false) → ((inK IntKind.i64 (Znode.next (List.getD l (Int.toNat (atN (decL decZnode (encL (encZnode 1) 1 l)) (upF p))) default) + (1 : Int))) ∧ ((((0 : Int) ≤ atN (decL decZnode (encL (encZnode 1) 1 l)) (upF p)) ∧ (atN (decL decZnode (encL (encZnode 1) 1 l)) (upF p) < (↑(List.length (ro26 (decL decZnode (encL (encZnode 1) 1 l)))) : Int))) ∧ ((Int.toNat (atN (decL decZnode (encL (encZnode 1) 1 l)) (upF p)) < List.length (ro26 (decL decZnode (encL (encZnode 1) 1 l)))) ∧ (((k29_5 l) ∧ (pr44 (decL decZnode (encL (encZnode 1) 1 l)) (joinF (upF p) (seqT (ByteArray.extract p (Int.toNat (Option.getD (some ((↑(lastF p) : Int) + (1 : Int))) (0 : Int))) (Int.toNat (Option.getD none (↑(ByteArray.size p) : Int)))) (Znode.next (List.getD l (Int.toNat (atN (decL decZnode (encL (encZnode 1) 1 l)) (upF p))) default)))))) ∧ (((decide (atN (decL decZnode (encL (encZnode 1) 1 l)) (joinF (upF p) (seqT (ByteArray.extract p (Int.toNat (Option.getD (some ((↑(lastF p) : Int) + (1 : Int))) (0 : Int))) (Int.toNat (Option.getD none (↑(ByteArray.size p) : Int)))) (Znode.next (List.getD l (Int.toNat (atN (decL decZnode (encL (encZnode 1) 1 l)) (upF p))) default)))) ≥ (0 : Int)) = true) → ((pr56 (6 : Int)) ∧ ((VLe k29_8 (k29_2 l p d o s)) ∧ ((BLe (Blk.arr 5 0 (gL (encZnode 1) (ZResult.nodes (ro56 (6 : Int)))) 100) (k29_3 l p d o s)) ∧ (True))))) ∧ ((decide (atN (decL decZnode (encL (encZnode 1) 1 l)) (joinF (upF p) (seqT (ByteArray.extract p (Int.toNat (Option.getD (some ((↑(lastF p) : Int) + (1 : Int))) (0 : Int))) (Int.toNat (Option.getD none (↑(ByteArray.size p) : Int)))) (Znode.next (List.getD l (Int.toNat (atN (decL decZnode (encL (encZnode 1) 1 l)) (upF p))) default)))) ≥ (0 : Int)) = false) → (((decide ((↑(List.length l) : Int) ≥ (20 : Int)) = true) → ((pr56 (2 : Int)) ∧ ((VLe k29_9 (k29_2 l p d o s)) ∧ ((BLe (Blk.arr 5 0 (gL (encZnode 1) (ZResult.nodes (ro56 (2 : Int)))) 100) (k29_3 l p d o s)) ∧ (True))))) ∧ ((decide ((↑(List.length l) : Int) ≥ (20 : Int)) = false) → (((VLe (k29_0 l p) (encL (encZnode 1) 1 (decL decZnode (k29_0 l p)))) ∧ ((VLe (k29_1 l p d o) (encZnode 1 (decZnode (k29_1 l p d o)))) ∧ (pr60 (decL decZnode (k29_0 l p)) (decZnode (k29_1 l p d o))))) ∧ ((VLe (V.agg [vi (0 : Int), V.str (joinF (upF p) (seqT (ByteArray.extract p (Int.toNat (Option.getD (some ((↑(lastF p) : Int) + (1 : Int))) (0 : Int))) (Int.toNat (Option.getD none (↑(ByteArray.size p) : Int)))) (Znode.next (List.getD l (Int.toNat (atN (decL decZnode (encL (encZnode 1) 1 l)) (upF p))) default)))), V.osl 0 (List.length (ro60 (decL decZnode (k29_0 l p)) (decZnode (k29_1 l p d o))))]) (k29_2 l p d o s)) ∧ ((BLe (Blk.arr 5 (List.length (ro60 (decL decZnode (k29_0 l p)) (decZnode (k29_1 l p d o)))) (gL (encZnode 1) (ro60 (decL decZnode (k29_0 l p)) (decZnode (k29_1 l p d o)))) 100) (k29_3 l p d o s)) ∧ (True))))))))))))))))))))))))))))) ∧ ((s = false) → (((k29_5 l) ∧ (pr44 (decL decZnode (encL (encZnode 1) 1 l)) p)) ∧ (((decide (atN (decL decZnode (encL (encZnode 1) 1 l)) p ≥ (0 : Int)) = true) → ((pr56 (6 : Int)) ∧ ((VLe k29_8 (k29_2 l p d o s)) ∧ ((BLe (Blk.arr 5 0 (gL (encZnode 1) (ZResult.nodes (ro56 (6 : Int)))) 100) (k29_3 l p d o s)) ∧ (True))))) ∧ ((decide (atN (decL decZnode (encL (encZnode 1) 1 l)) p ≥ (0 : Int)) = false) → (((decide ((↑(List.length l) : Int) ≥ (20 : Int)) = true) → ((pr56 (2 : Int)) ∧ ((VLe k29_9 (k29_2 l p d o s)) ∧ ((BLe (Blk.arr 5 0 (gL (encZnode 1) (ZResult.nodes (ro56 (2 : Int)))) 100) (k29_3 l p d o s)) ∧ (True))))) ∧ ((decide ((↑(List.length l) : Int) ≥ (20 : Int)) = false) → (((VLe (k29_4 l) (encL (encZnode 1) 1 (decL decZnode (k29_4 l)))) ∧ ((VLe (k29_6 p d o) (encZnode 1 (decZnode (k29_6 p d o)))) ∧ (pr60 (decL decZnode (k29_4 l)) (decZnode (k29_6 p d o))))) ∧ ((VLe (V.agg [vi (0 : Int), V.str p, V.osl 0 (List.length (ro60 (decL decZnode (k29_4 l)) (decZnode (k29_6 p d o))))]) (k29_2 l p d o s)) ∧ ((BLe (Blk.arr 5 (List.length (ro60 (decL decZnode (k29_4 l)) (decZnode (k29_6 p d o)))) (gL (encZnode 1) (ro60 (decL decZnode (k29_4 l)) (decZnode (k29_6 p d o)))) 100) (k29_3 l p d o s)) ∧ (True)))))))))))))))))))))))))))))) := by
    delta k29_9; delta k29_8; delta k29_7; delta k29_6; delta k29_5; delta k29_4; delta k29_3; delta k29_2; delta k29_1; delta k29_0; delta vi
    obtain ⟨hl, hb, hp1, hp2⟩ := hpre
    have hm : l.length ≤ maxLen := by unfold maxLen; omega
    have u1 := up_size p
    have u2 := name_size hp1
    have u3 : lastF p < p.size := lastTo_lt _ hp1
    have e1 : ((lastF p : Int) + 1).toNat = lastF p + 1 := by omega
    have e2 : ((p.size : Int)).toNat = p.size := by omega
    have e3 : p.extract (lastF p + 1) p.size = nameF p := rfl
    have e4 : (atN l (upF p)).toNat = upN l p := rfl
    simp only [decL_Znode, strEq_dec, inB, ro56, ro29, ro26, ro60, Option.getD_some, Option.getD_none, e1, e2, e3, e4]
    refine ⟨trivial, tqI _, fun _ => trivial, tqI _, fun _ h => by simpa using h, fun b hb2 => ⟨fun h => badZ ?_, fun h => ⟨fun h2 => badZ ?_, fun h2 => ⟨by show p.size ≤ 1000; omega, ⟨VLe.refl _, hm⟩, fun h3 => badZ ?_, fun h3 => ⟨atN_bd h3, fun h4 => badZ ?_, fun h4 => ⟨⟨VLe.refl _, hl⟩, fun h5 => ?_, fun h5 => ?_⟩⟩⟩⟩⟩⟩
    · rw [h] at hb2
      unfold newZF
      rw [if_pos (of_decide_eq_true hb2.symm)]
    all_goals rw [h] at hb2
    · unfold newZF
      rw [if_neg (of_decide_eq_false hb2.symm), if_pos (of_decide_eq_true h2)]
    · unfold newZF
      rw [if_neg (of_decide_eq_false hb2.symm), if_neg (of_decide_eq_false h2), if_pos (of_decide_eq_true h3)]
    · unfold newZF
      rw [if_neg (of_decide_eq_false hb2.symm), if_neg (of_decide_eq_false h2), if_neg (of_decide_eq_false h3), if_pos (by simpa using h4)]
    · have h6 := atN_bd h3
      have hu : upN l p < l.length := by unfold upN; omega
      have hz : 0 ≤ (l.getD (upN l p) default).next := (hb _ (atZ_mem hu)).2.2.2
      refine ⟨h6, fun h7 => badZ ?_, fun h7 => ?_⟩
      · unfold newZF
        rw [if_neg (of_decide_eq_false hb2.symm), if_neg (of_decide_eq_false h2), if_neg (of_decide_eq_false h3), if_neg (by simpa using h4), h5, if_neg (by decide), if_pos (of_decide_eq_true h7)]
      have h8 := of_decide_eq_false h7
      have hr : inR (l.getD (upN l p) default).next 0 99 := ⟨hz, by omega⟩
      have hs := seqT_size (nameF p) (l.getD (upN l p) default).next
      have ez : newZF l p d o s = if ¬ isNm (seqT (nameF p) (l.getD (upN l p) default).next) then ⟨5, nilB, []⟩
          else if pathF (joinF (upF p) (seqT (nameF p) (l.getD (upN l p) default).next)) ≠ 0 then ⟨pathF (joinF (upF p) (seqT (nameF p) (l.getD (upN l p) default).next)), nilB, []⟩
          else placeF l (countF l (upN l p)) (joinF (upF p) (seqT (nameF p) (l.getD (upN l p) default).next)) d o := by
        unfold newZF
        rw [if_neg (of_decide_eq_false hb2.symm), if_neg (of_decide_eq_false h2), if_neg (of_decide_eq_false h3), if_neg (by simpa using h4), h5, if_neg (by decide), if_neg h8]
      generalize seqT (nameF p) (l.getD (upN l p) default).next = q at *
      have ef : (!decide (isNm q)) = false → (pathF (joinF (upF p) q) != 0) = false → newZF l p d o s = placeF l (countF l (upN l p)) (joinF (upF p) q) d o := fun k1 k2 => by
        rw [ez, if_neg (by simpa using k1), if_neg (by simpa using k2)]
      refine ⟨by show p.size ≤ 1000; omega, inK64 (by omega), ⟨by omega, by omega, by omega⟩, ⟨by omega, hr⟩, by show q.size ≤ 1000; omega, fun h9 => badZ ?_, fun h9 => ⟨by show p.size ≤ 1000; omega, ⟨by omega, hr⟩, ⟨by omega, by omega⟩, trivial, fun h10 => badZ ?_, fun h10 => ⟨inK64 (by omega), h6, hu, ⟨VLe.refl _, hm⟩, fun h11 => badZ ?_, fun h11 => ⟨fun h12 => badZ ?_, fun h12 => ?_⟩⟩⟩⟩
      · rw [ez, if_pos (by simpa using h9)]
      · rw [ez, if_neg (by simpa using h9), if_pos (by simpa using h10)]
      · exact place6 (ef h9 h10) h11
      · exact place2 (ef h9 h10) h11 h12
      · have eq := placed (ef h9 h10) h11 h12
        have el : ∀ t, decL decZnode (.sl l.length (setg (gL (encZnode 1) l) (upN l p) (.agg [.str (l.getD (upN l p) default).path, .int .i64 (l.getD (upN l p) default).data, .int .i64 (l.getD (upN l p) default).version, .int .i64 (l.getD (upN l p) default).owner, .int .i64 ((l.getD (upN l p) default).next + 1)])) t) = countF l (upN l p) := fun t => decL_set rfl
        rw [el]
        refine ⟨⟨vle_set hu rfl, VLe.refl _, ?_⟩, goodZ eq⟩
        show (countF l (upN l p)).length ≤ 1000
        unfold countF
        rw [List.length_set]
        exact hl
    · have ez : newZF l p d o s = placeF l l p d o := by
        unfold newZF
        rw [if_neg (of_decide_eq_false hb2.symm), if_neg (of_decide_eq_false h2), if_neg (of_decide_eq_false h3), if_neg (by simpa using h4), h5, if_pos rfl]
      refine ⟨⟨VLe.refl _, hm⟩, fun h11 => badZ (place6 ez h11), fun h11 => ⟨fun h12 => badZ (place2 ez h11 h12), fun h12 => ?_⟩⟩
      have eq := placed ez h11 h12
      exact ⟨⟨VLe.refl _, VLe.refl _, hl⟩, goodZ eq⟩
  exact Eq.mp (by kernel_rfl) key
theorem so29 : Sound Tryz.prog 29 sp29 := by
  refine sound_of_bodyO hmix (tpl := [(2, 5)]) Tryz.func29 rfl (by kernel_rfl) fun args bin ob r bout hDe hob => ?_
  unfold sp29 at hDe
  split at hDe
  · rename_i a0 a1 a2 a3 a4
    cases hDe
    exact ⟨Nat.le_of_ble_eq_true (by kernel_rfl), cx29 ((decL decZnode) a0) a1 a2 a3 a4, Eq.mp (by kernel_rfl) htt, Eq.mp (by kernel_rfl) da29, Eq.mp (by kernel_rfl) (noM_sound (P := Tryz.prog)), by kernel_rfl, [encL (encZnode 1) 1 (((decL decZnode) a0)), .str (a1), .int .i64 (a2), .int .i64 (a3), .bool (a4)], [], args_of_vles (⟨hob.1, VLe.refl _, VLe.refl _, VLe.refl _, VLe.refl _, trivial⟩), trivial, Eq.mp (by kernel_rfl) (bd29 ((decL decZnode) a0) a1 a2 a3 a4 (hob.2))⟩
  · cases hDe

end Go.Av
