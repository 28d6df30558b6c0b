/- The proof's texts, joined, without what the row does not reach: part 5. -/
import Derived.Test.YtognmcollmdbpaaGreatDoorZa4
namespace Go.Av
open Go.Proofs
set_option maxRecDepth 100000
set_option maxHeartbeats 4000000
set_option linter.unusedVariables false
set_option linter.unusedSimpArgs false
theorem qMc {g h : Nat → V} : q2n 0 g h = h := by funext i; simp [q2n]
theorem q9o {sz : Nat} {cs : List V} (h : cs.length = sz) (h2 : q65 (.agg cs) = true) : q0r sz 1 (q2o [.agg cs]) := by
 intro k hk
 have : k = 0 := by omega
 subst this
 exact ⟨h, h2⟩
theorem qIb {α : Type} [Inhabited α] {l : List α} {x : Nat} (hx : x ≤ l.length) (z : α) (i : Nat) :
  (l.take x ++ z :: l.drop x).getD i default = if i < x then l.getD i default else if i = x then z else l.getD (i - 1) default := by
 have hl : (l.take x).length = x := by rw [List.length_take]; omega
 rw [List.getD_eq_getElem?_getD, List.getElem?_append, hl]
 split
 ·rename_i h
  rw [List.getElem?_take, if_pos h, List.getD_eq_getElem?_getD]
 ·rename_i h
  split
  ·rename_i h2
   subst h2
   simp
  ·rename_i h2
   have : i - x = (i - x - 1) + 1 := by omega
   rw [this, List.getElem?_cons_succ, List.getElem?_drop, List.getD_eq_getElem?_getD]
   congr 2
   omega
theorem qRa {l : List q03} {z : q03} {x : Nat} (hx : x ≤ l.length) :
  BLe (.arr 5 (x + 1 + (l.length - x)) (q2n (x + 1) (q2n x (q2n 0 (q2o []) (gL (q00 1) l)) (q2o [q00 1 z])) (q29 (gL (q00 1) l) x)) q0i)
   (.arr 5 (x + 1 + (l.length - x)) (gL (q00 1) (l.take x ++ z :: l.drop x)) q0i) := by
 refine q1B (fun i hi => ?_) (Or.inl rfl)
 have e : q2n (x + 1) (q2n x (q2n 0 (q2o []) (gL (q00 1) l)) (q2o [q00 1 z])) (q29 (gL (q00 1) l) x) i = gL (q00 1) (l.take x ++ z :: l.drop x) i := by
  unfold q2n gL q29
  rw [qIb hx]
  by_cases h1 : i < x
  ·rw [if_pos (by omega), if_pos h1, if_pos h1, if_neg (Nat.not_lt_zero i), Nat.sub_zero]
  ·by_cases h2 : i = x
   ·subst h2
    rw [if_pos (by omega), if_neg h1, if_neg h1, if_pos rfl, Nat.sub_self]
    rfl
   ·rw [if_neg (by omega), if_neg h1, if_neg h2]
    have : x + (i - (x + 1)) = i - 1 := by omega
    rw [this]
 rw [e]
 exact ELe.refl _
def qSU (p : ByteArray) (s : ByteArray) : Prop := p.size ≤ 1000 ∧ s.size ≤ 1000
noncomputable def qW3 (p : ByteArray) (s : ByteArray) : V := .str (q1n p s)
noncomputable def qSk : q0G := fun args bin => match args, bin with
 | [.str a0, .str a1], [] => some (qSU a0 a1, qW3 a0 a1, [])
 | _, _ => none
noncomputable def x6D : Nat → Option (Fl × q0G) := lk []
theorem qZo : q0D Tryz.prog x6D := q07
noncomputable def x3U (p : ByteArray) (s : ByteArray) : Cx := ⟨tt, x6D, Tryz.f253.ntmps, [0, 1, 4, 6], [], [], fun _ => none, [], noM, []⟩
theorem qZh (p : ByteArray) (s : ByteArray) (hpre : qSU p s) : q0f (x3U p s) Tryz.f253 0 [.str (p), .str (s)] (fun rr => VLe rr (qW3 p s)) := by
 have key : (((q1R p (ByteArray.mk #[(47 : UInt8)]) = true) → ((ByteArray.size (ByteArray.mk #[(47 : UInt8)]) + ByteArray.size s ≤ 2 ^ 62) ∧ (VLe (V.str (ByteArray.mk #[(47 : UInt8)] ++ s)) (V.str (q1n p s))))) ∧ ((q1R p (ByteArray.mk #[(47 : UInt8)]) = false) → ((ByteArray.size p + ByteArray.size (ByteArray.mk #[(47 : UInt8)]) ≤ 2 ^ 62) ∧ ((ByteArray.size (p ++ ByteArray.mk #[(47 : UInt8)]) + ByteArray.size s ≤ 2 ^ 62) ∧ (VLe (V.str (p ++ ByteArray.mk #[(47 : UInt8)] ++ s)) (V.str (q1n p s))))))) := by
  obtain ⟨h1, h2⟩ := hpre
  have t1 : (⟨#[47]⟩ : ByteArray).size = 1 := rfl
  simp only [q16]
  refine ⟨fun h => ⟨by omega, q5r ?_⟩, fun h => ⟨by omega, by rw [ByteArray.size_append]; omega, q5r ?_⟩⟩
  ·unfold q1n
   rw [if_pos (of_decide_eq_true h)]
  ·unfold q1n
   rw [if_neg (of_decide_eq_false h)]
 exact Eq.mp (by kernel_rfl) key
theorem x2d : q0T Tryz.prog 253 qSk := by
 refine q09 q1C (pol := 0) Tryz.func253 rfl (by kernel_rfl) fun args bin ob r bout hDe hob => ?_
 unfold qSk at hDe
 split at hDe
 ·rename_i a0 a1
  cases hDe
  exact okB (qZh a0 a1 (hob)) qZo (args_of_vles ⟨VLe.refl _, VLe.refl _, trivial⟩)
 ·cases hDe
def qO9 (s : ByteArray) (n : Int) : Prop := s.size ≤ 1000 ∧ inR n 0 99
noncomputable def qVw (s : ByteArray) (n : Int) : V := .str (q42 s n)
noncomputable def qR3 : q0G := fun args bin => match args, bin with
 | [.str a0, .int .i64 a1], [] => some (qO9 a0 a1, qVw a0 a1, [])
 | _, _ => none
noncomputable def x6d : Nat → Option (Fl × q0G) := lk [(276, (.ro, qSh))]
theorem x06 : q0D Tryz.prog x6d := q01 x0p (q07)
noncomputable def x2b (s : ByteArray) (n : Int) : Cx := ⟨tt, x6d, Tryz.f252.ntmps, [0, 1, 4], [], [], fun _ => none, [], noM, []⟩
theorem x3s (s : ByteArray) (n : Int) (hpre : qO9 s n) : q0f (x2b s n) Tryz.f252 0 [.str (s), .int .i64 (n)] (fun rr => VLe rr (qVw s n)) := by
 have key : (((10 : Int) ≠ (0 : Int)) ∧ ((inK IntKind.i64 (Int.tdiv n (10 : Int))) ∧ ((qH9 (Int.tdiv n (10 : Int))) ∧ ((ByteArray.size s + 1 ≤ 4611686018427387904) ∧ (((10 : Int) ≠ (0 : Int)) ∧ ((qH9 (Int.tmod n (10 : Int))) ∧ ((ByteArray.size (s ++ qKS (Int.tdiv n (10 : Int))) + 1 ≤ 4611686018427387904) ∧ (VLe (V.str (s ++ qKS (Int.tdiv n (10 : Int)) ++ qKS (Int.tmod n (10 : Int)))) (V.str (q42 s n)))))))))) := by
  obtain ⟨h1, h2⟩ := hpre
  unfold inR at h2
  obtain ⟨k, rfl⟩ := Int.eq_ofNat_of_zero_le h2.1
  have e1 : ((k : Int)).tdiv 10 = ((k / 10 : Nat) : Int) := rfl
  have e2 : ((k : Int)).tmod 10 = ((k % 10 : Nat) : Int) := rfl
  have p1 : qH9 ((k : Int).tdiv 10) := by
   show inR _ 0 9
   unfold inR
   rw [e1]
   omega
  have p2 : qH9 ((k : Int).tmod 10) := by
   show inR _ 0 9
   unfold inR
   rw [e2]
   omega
  refine ⟨by decide, q0U (by rw [e1]; omega), p1, by omega, by decide, p2, ?_, VLe.refl _⟩
  rw [ByteArray.size_append, qBV]
  omega
 exact Eq.mp (by kernel_rfl) key
theorem qZy : q0T Tryz.prog 252 qR3 := by
 refine q09 q1C (pol := 0) Tryz.func252 rfl (by kernel_rfl) fun args bin ob r bout hDe hob => ?_
 unfold qR3 at hDe
 split at hDe
 ·rename_i a0 a1
  cases hDe
  exact okB (x3s a0 a1 (hob)) x06 (args_of_vles ⟨VLe.refl _, VLe.refl _, trivial⟩)
 ·cases hDe
def q66 (c : Int) : Prop := True
noncomputable def q1Y (c : Int) : q0F := (⟨c, q1Q, []⟩ : q0F)
noncomputable def qUy (c : Int) : List Blk := [(.arr 5 ((q1Y c).nodes).length (gL (q00 1) ((q1Y c).nodes)) q0i)]
noncomputable def qVj (c : Int) : V := .agg [.int .i64 ((q1Y c).code), .str ((q1Y c).path), .osl 0 ((q1Y c).nodes).length]
noncomputable def qMe : q0G := fun args bin => match args, bin with
 | [.int .i64 a0], [] => some (q66 a0, qVj a0, qUy a0)
 | _, _ => none
noncomputable def x7P : Nat → Option (Fl × q0G) := lk []
theorem x2K : q0D Tryz.prog x7P := q07
noncomputable def x20 (c : Int) : Cx := ⟨tt, x7P, Tryz.f249.ntmps, [0, 2], [], [], fun _ => none, [], noM, []⟩
theorem qZ2 (c : Int) (hpre : q66 c) : q3H (x20 c) Tryz.f249 [(2, 5)] [.int .i64 (c)] [] (fun rr bs => VLe rr (qVj c) ∧ q1d bs (qUy c)) := by
 have key : ((VLe (V.agg [vi c, V.str (ByteArray.mk #[]), V.osl 0 0]) (V.agg [vi (q0F.code (q1Y c)), V.str (q0F.path (q1Y c)), V.osl 0 0])) ∧ ((BLe (Blk.arr 5 0 (fun (x : Nat) ↦ V.undef) 100) (Blk.arr 5 0 (gL (q00 1) (q0F.nodes (q1Y c))) 100)) ∧ (True))) := by
  delta vi
  exact ⟨VLe.refl _, q2h _, trivial⟩
 exact Eq.mp (by kernel_rfl) key
theorem qRS : q0T Tryz.prog 249 qMe := by
 refine q0V q1C (tpl := [(2, 5)]) Tryz.func249 rfl (by kernel_rfl) fun args bin ob r bout hDe hob => ?_
 unfold qMe at hDe
 split at hDe
 ·rename_i a0
  cases hDe
  exact okQ (qZ2 a0 (hob)) x2K (args_of_vles ⟨VLe.refl _, trivial⟩) trivial
 ·cases hDe
def qKf (l : List q03) : Prop := l.length ≤ 1000
noncomputable def q2U (l : List q03) : List q03 := l
noncomputable def qUo (l : List q03) : List Blk := [(.arr 5 (q2U l).length (gL (q00 1) (q2U l)) q0i)]
noncomputable def qUk (l : List q03) : V := .osl 0 (q2U l).length
noncomputable def qKL : q0G := fun args bin => match args, bin with
 | [a0], [] => some (VLe a0 (q0H (q00 1) 1 (((q0M q04) a0))) ∧ qKf ((q0M q04) a0), qUk ((q0M q04) a0), qUo ((q0M q04) a0))
 | _, _ => none
noncomputable def x6n : Nat → Option (Fl × q0G) := lk []
theorem x1S : q0D Tryz.prog x6n := q07
noncomputable def x4G (l : List q03) : Cx := ⟨tt, x6n, Tryz.f202.ntmps, [0, 2], [], [], fun _ => none, [], noM, []⟩
theorem x41 (l : List q03) (hpre : qKf l) : q3H (x4G l) Tryz.f202 [(0, 5)] [q0H (q00 1) 1 (l)] [] (fun rr bs => VLe rr (qUk l) ∧ q1d bs (qUo l)) := by
 have key : ((0 = 0) ∧ ((0 + List.length l ≤ 1073741824) ∧ ((q0r 5 (List.length l) (gL (q00 1) l)) ∧ ((∀ i : Nat, ((i < List.length l) → (q69 (q00 1 (List.getD l i default)) = true))) ∧ ((VLe (V.osl 0 (0 + List.length l)) (V.osl 0 (List.length (q2U l)))) ∧ ((BLe (Blk.arr 5 (0 + List.length l) (q2n 0 (q2o []) (gL (q00 1) l)) 100) (Blk.arr 5 (List.length (q2U l)) (gL (q00 1) (q2U l)) 100)) ∧ (True))))))) := by
  have hl : l.length ≤ 1000 := hpre
  refine ⟨rfl, by omega, fun k hk => ⟨rfl, rfl⟩, fun k hk => rfl, ?_⟩
  rw [Nat.zero_add, qMc]
  exact ⟨VLe.refl _, BLe.refl _, trivial⟩
 exact Eq.mp (by kernel_rfl) key
theorem qTO : q0T Tryz.prog 202 qKL := by
 refine q0V q1C (tpl := [(0, 5)]) Tryz.func202 rfl (by kernel_rfl) fun args bin ob r bout hDe hob => ?_
 unfold qKL at hDe
 split at hDe
 ·rename_i a0
  cases hDe
  exact okQ (x41 ((q0M q04) a0) (hob.2)) x1S (args_of_vles ⟨hob.1, trivial⟩) trivial
 ·cases hDe
def qP8 (l : List q03) (z : q03) : Prop := l.length ≤ 1000
noncomputable def q7j (l : List q03) (z : q03) : List q03 := qKx l z
noncomputable def qWV (l : List q03) (z : q03) : List Blk := [(.arr 5 (q7j l z).length (gL (q00 1) (q7j l z)) q0i)]
noncomputable def qXG (l : List q03) (z : q03) : V := .osl 0 (q7j l z).length
noncomputable def qS2 : q0G := fun args bin => match args, bin with
 | [a0, a1], [] => some (VLe a0 (q0H (q00 1) 1 (((q0M q04) a0))) ∧ VLe a1 (q00 1 ((q04 a1))) ∧ qP8 ((q0M q04) a0) (q04 a1), qXG ((q0M q04) a0) (q04 a1), qWV ((q0M q04) a0) (q04 a1))
 | _, _ => none
noncomputable def qTI (l : List q03) (z : q03) : q0O :=
 ⟨Nat, fun i => ⟨[(0, q0H (q00 1) 1 l), (3, .oref 256 0 0), (5, .int .i64 i)], [(256, .box [.str z.path, .int .i64 z.data, .int .i64 z.version, .int .i64 z.owner, .int .i64 z.next])]⟩,
  fun i => i ≤ l.length ∧ ∀ k, k < i → lt (atZ l k).path z.path, fun i => l.length - i⟩
noncomputable def qYf (l : List q03) (z : q03) : Nat → Option q0O := fun rg_ => match rg_ with
 | 2 => some (qTI l z)
 | _ => none
noncomputable def x7x : Nat → Option (Fl × q0G) := lk []
theorem qZv : q0D Tryz.prog x7x := q07
noncomputable def x3f (l : List q03) (z : q03) : Cx := ⟨tt, x7x, Tryz.f254.ntmps, [0, 1, 3, 4, 5, 6, 20], [(2, ⟨[(0, none), (3, none), (5, none)], [(256, [])]⟩)], [], qYf l z, [], noM, []⟩
noncomputable def q21 (l : List q03) : Int := (↑(List.length l) : Int)
noncomputable def qFZ (z : q03) : Nat × Blk := (256, Blk.box [V.str (q03.path z), vi (q03.data z), vi (q03.version z), vi (q03.owner z), vi (q03.next z)])
noncomputable def q9N (l : List q03) (x : Nat) : Bool := (decide ((↑x : Int) < (q21 l)))
theorem qZB (l : List q03) (z : q03) (hpre : qP8 l z) : q3H (x3f l z) Tryz.f254 [(0, 5)] [q0H (q00 1) 1 (l), q00 1 (z)] [] (fun rr bs => VLe rr (qXG l z) ∧ q1d bs (qWV l z)) := by
 have key : ((∃ x : Nat, ((SLe (AS.mk [(0, q0H (q00 1) 1 l), (3, V.oref 256 0 0), (5, vi 0)] [(qFZ z)]) (AS.mk [(0, q0H (q00 1) 1 l), (3, V.oref 256 0 0), (5, vi (↑x : Int))] [(qFZ z)])) ∧ ((x ≤ List.length l) ∧ (∀ k : Nat, ((k < x) → (lt (q03.path (atZ l k)) (q03.path z))))))) ∧ (∀ x : Nat, (((x ≤ List.length l) ∧ (∀ k : Nat, ((k < x) → (lt (q03.path (atZ l k)) (q03.path z))))) → ((tq (q9N l x)) ∧ ((tq (q9N l x)) ∧ (((decide ((↑x : Int) < (q21 l)) = true) → (((0 : Int) ≤ (↑x : Int)) ∧ ((↑x : Int) < (q21 l)))) ∧ ((tq (q9N l x)) ∧ ((tq (q9N l x)) ∧ ((tq (q9N l x)) ∧ ((tq (q9N l x)) ∧ ((tq (q9N l x)) ∧ (((true = true) → ((decide ((↑x : Int) < (q21 l)) = true) → (decide ((↑x : Int) < (q21 l)) = true))) ∧ (∀ b : Bool, ((b = bif decide ((↑x : Int) < (q21 l)) then qDx (q03.path (List.getD l (Int.toNat (↑x : Int)) default)) (q03.path z) else false) → (((b = true) → ((inK IntKind.i64 ((↑x : Int) + (1 : Int))) ∧ (∃ y : Nat, ((SLe (AS.mk [(0, q0H (q00 1) 1 l), (3, V.oref 256 0 0), (5, vi ((↑x : Int) + (1 : Int)))] [(qFZ z)]) (AS.mk [(0, q0H (q00 1) 1 l), (3, V.oref 256 0 0), (5, vi (↑y : Int))] [(qFZ z)])) ∧ (((y ≤ List.length l) ∧ (∀ k : Nat, ((k < y) → (lt (q03.path (atZ l k)) (q03.path z))))) ∧ (List.length l - y < List.length l - x)))))) ∧ ((b = false) → ((((0 : Int) ≤ Option.getD none (0 : Int)) ∧ ((Option.getD none (0 : Int) ≤ Option.getD (some (↑x : Int)) (q21 l)) ∧ (Option.getD (some (↑x : Int)) (q21 l) ≤ (q21 l)))) ∧ ((q0r 5 (List.length l) (gL (q00 1) l)) ∧ ((0 = 0) ∧ ((0 + (Int.toNat (Option.getD (some (↑x : Int)) (q21 l)) - 0) ≤ 1073741824) ∧ ((q0r 5 (Int.toNat (Option.getD (some (↑x : Int)) (q21 l)) - 0) (match (motive := Option Int → Nat → V) none with | none => gL (q00 1) l | some val => q29 (gL (q00 1) l) 0)) ∧ ((∀ i : Nat, ((i < Int.toNat (Option.getD (some (↑x : Int)) (q21 l)) - 0) → (q69 (q00 1 (List.getD l i default)) = true))) ∧ ((0 + (Int.toNat (Option.getD (some (↑x : Int)) (q21 l)) - 0) = 0 + (Int.toNat (Option.getD (some (↑x : Int)) (q21 l)) - 0)) ∧ ((0 + (Int.toNat (Option.getD (some (↑x : Int)) (q21 l)) - 0) + 1 ≤ 1073741824) ∧ ((q0r 5 1 (q2o [q00 1 z])) ∧ ((((0 : Int) ≤ Option.getD (some (↑x : Int)) (0 : Int)) ∧ ((Option.getD (some (↑x : Int)) (0 : Int) ≤ Option.getD none (q21 l)) ∧ (Option.getD none (q21 l) ≤ (q21 l)))) ∧ ((q0r 5 (List.length l) (gL (q00 1) l)) ∧ ((0 + (Int.toNat (Option.getD (some (↑x : Int)) (q21 l)) - 0) + 1 = 0 + (Int.toNat (Option.getD (some (↑x : Int)) (q21 l)) - 0) + 1) ∧ ((0 + (Int.toNat (Option.getD (some (↑x : Int)) (q21 l)) - 0) + 1 + (Int.toNat (Option.getD none (q21 l)) - Int.toNat (Option.getD (some (↑x : Int)) (0 : Int))) ≤ 1073741824) ∧ ((q0r 5 (Int.toNat (Option.getD none (q21 l)) - Int.toNat (Option.getD (some (↑x : Int)) (0 : Int))) (match (motive := Option Int → Nat → V) some (↑x : Int) with | none => gL (q00 1) l | some val => q29 (gL (q00 1) l) (Int.toNat (Option.getD (some (↑x : Int)) (0 : Int))))) ∧ ((∀ i : Nat, ((i < Int.toNat (Option.getD none (q21 l)) - Int.toNat (Option.getD (some (↑x : Int)) (0 : Int))) → (q69 (q00 1 (List.getD l (Int.toNat (Option.getD (some (↑x : Int)) (0 : Int)) + i) default)) = true))) ∧ ((VLe (V.osl 0 (0 + (Int.toNat (Option.getD (some (↑x : Int)) (q21 l)) - 0) + 1 + (Int.toNat (Option.getD none (q21 l)) - Int.toNat (Option.getD (some (↑x : Int)) (0 : Int))))) (V.osl 0 (List.length (q7j l z)))) ∧ ((BLe (Blk.arr 5 (0 + (Int.toNat (Option.getD (some (↑x : Int)) (q21 l)) - 0) + 1 + (Int.toNat (Option.getD none (q21 l)) - Int.toNat (Option.getD (some (↑x : Int)) (0 : Int)))) (q2n (0 + (Int.toNat (Option.getD (some (↑x : Int)) (q21 l)) - 0) + 1) (q2n (0 + (Int.toNat (Option.getD (some (↑x : Int)) (q21 l)) - 0)) (q2n 0 (q2o []) (match (motive := Option Int → Nat → V) none with | none => gL (q00 1) l | some val => q29 (gL (q00 1) l) 0)) (q2o [q00 1 z])) (match (motive := Option Int → Nat → V) some (↑x : Int) with | none => gL (q00 1) l | some val => q29 (gL (q00 1) l) (Int.toNat (Option.getD (some (↑x : Int)) (0 : Int))))) 100) (Blk.arr 5 (List.length (q7j l z)) (gL (q00 1) (q7j l z)) 100)) ∧ (True)))))))))))))))))))))))))))))))))) := by
  delta q9N; delta qFZ; delta q21; delta vi
  have hl : l.length ≤ 1000 := hpre
  simp only [qBO]
  refine ⟨⟨0, SLe.refl _, by omega, fun k hk => absurd hk (Nat.not_lt_zero k)⟩, ?_⟩
  rintro i ⟨hi, hk⟩
  refine ⟨tqI _, tqI _, fun h => ⟨by omega, by simpa using h⟩, tqI _, tqI _, tqI _, tqI _, tqI _, fun _ h => h, fun b hb => ⟨fun h => ?_, fun h => ?_⟩⟩
  ·rw [h] at hb
   have hlt : i < l.length := by
    by_cases a1 : (i : Int) < l.length
    ·omega
    ·rw [decide_eq_false a1] at hb; cases hb
   have a1 : decide ((i : Int) < l.length) = true := decide_eq_true (by omega)
   rw [a1] at hb
   have h3 : lt (atZ l i).path z.path := of_decide_eq_true hb.symm
   refine ⟨q0U (by omega), i + 1, SLe.refl _, ⟨by omega, fun k h4 => ?_⟩, by omega⟩
   by_cases e : k = i
   ·subst e; exact h3
   ·exact hk k (by omega)
  ·rw [h] at hb
   have hp : q20 l z.path = i := qAm hi hk fun hlt g => by
    have a1 : decide ((i : Int) < l.length) = true := decide_eq_true (by omega)
    rw [a1] at hb
    exact of_decide_eq_false (p := lt (atZ l i).path z.path) hb.symm g
   have e : q7j l z = l.take i ++ z :: l.drop i := by
    show qKx l z = _
    unfold qKx
    rw [hp]
   have en : (q7j l z).length = i + 1 + (l.length - i) := by
    rw [e, List.length_append, List.length_cons, List.length_take, List.length_drop]
    omega
   rw [en, e]
   simp only [Option.getD_some, Option.getD_none, Int.toNat_natCast, Nat.sub_zero, Nat.zero_add]
   exact ⟨⟨by omega, by omega, by omega⟩, fun k hk => ⟨rfl, rfl⟩, trivial, by omega, fun k hk => ⟨rfl, rfl⟩, fun k hk => rfl, trivial, by omega, q9o rfl rfl, ⟨by omega, by omega, by omega⟩, fun k hk => ⟨rfl, rfl⟩, trivial, by omega, fun k hk => ⟨rfl, rfl⟩, fun k hk => rfl, VLe.refl _, qRa hi, trivial⟩
 exact Eq.mp (by kernel_rfl) key
theorem x36 : q0T Tryz.prog 254 qS2 := by
 refine q0V q1C (tpl := [(0, 5)]) Tryz.func254 rfl (by kernel_rfl) fun args bin ob r bout hDe hob => ?_
 unfold qS2 at hDe
 split at hDe
 ·rename_i a0 a1
  cases hDe
  exact okQ (qZB ((q0M q04) a0) (q04 a1) (hob.2.2)) qZv (args_of_vles ⟨hob.1, hob.2.1, trivial⟩) trivial
 ·cases hDe
theorem qMr {l : List q03} {p : ByteArray} {i : Nat} (h : i < l.length) (h2 : (l.getD i default).path ≠ top ∧ upF (l.getD i default).path = p) : q1F (l.take (i + 1)) p = q1F (l.take i) p ++ [q35 (l.getD i default).path] := by
 have e : l.take (i + 1) = l.take i ++ [l.getD i default] := by
  rw [List.take_add_one]
  simp [h]
 rw [e]
 unfold q1F
 rw [List.filter_append, List.map_append]
 congr 1
 simp only [List.filter_cons, decide_eq_true h2, if_true, List.filter_nil, List.map_cons, List.map_nil]
theorem qPk {l : List q03} {p : ByteArray} {i : Nat} (h : i < l.length) (h2 : ¬ ((l.getD i default).path ≠ top ∧ upF (l.getD i default).path = p)) : q1F (l.take (i + 1)) p = q1F (l.take i) p := by
 have e : l.take (i + 1) = l.take i ++ [l.getD i default] := by
  rw [List.take_add_one]
  simp [h]
 rw [e]
 unfold q1F
 rw [List.filter_append]
 simp only [List.filter_cons, decide_eq_false h2, List.filter_nil, Bool.false_eq_true, if_false, List.append_nil]
theorem qIO (l : List q03) (p : ByteArray) : (q1F l p).length ≤ l.length := by
 unfold q1F
 rw [List.length_map]
 exact List.length_filter_le _ _
theorem qC8 {s : ByteArray} : q0r 1 1 (q2o [.str s]) := by
 intro k hk
 have : k = 0 := by omega
 subst this
 exact ⟨rfl, rfl⟩
def qJK (l : List q03) : Prop := ∀ z ∈ l, 0 < z.path.size ∧ z.path.size ≤ 1000 ∧ 0 ≤ z.version ∧ 0 ≤ z.next
theorem qPG {l : List q03} {x : Nat} (hx : x < l.length) (i : Nat) : (l.take x ++ l.drop (x + 1)).getD i default = if i < x then l.getD i default else l.getD (i + 1) default := by
 have hl : (l.take x).length = x := by rw [List.length_take]; omega
 rw [List.getD_eq_getElem?_getD, List.getElem?_append, hl]
 split
 ·rename_i h
  rw [List.getElem?_take, if_pos h, List.getD_eq_getElem?_getD]
 ·rename_i h
  rw [List.getElem?_drop, List.getD_eq_getElem?_getD]
  congr 2
  omega
theorem qSF {l : List q03} {x : Nat} (hx : x < l.length) :
  BLe (.arr 5 (x + (l.length - (x + 1))) (q2n x (q2n 0 (q2o []) (gL (q00 1) l)) (q29 (gL (q00 1) l) (x + 1))) q0i)
   (.arr 5 (x + (l.length - (x + 1))) (gL (q00 1) (l.take x ++ l.drop (x + 1))) q0i) := by
 refine q1B (fun i hi => ?_) (Or.inl rfl)
 have e : q2n x (q2n 0 (q2o []) (gL (q00 1) l)) (q29 (gL (q00 1) l) (x + 1)) i = gL (q00 1) (l.take x ++ l.drop (x + 1)) i := by
  unfold q2n gL q29
  rw [qPG hx]
  by_cases h1 : i < x
  ·rw [if_pos h1, if_pos h1, if_neg (Nat.not_lt_zero i), Nat.sub_zero]
  ·rw [if_neg h1, if_neg h1]
   have : x + 1 + (i - x) = i + 1 := by omega
   rw [this]
 rw [e]
 exact ELe.refl _
theorem qDy {c : Int} {x : q0F} (h : x = ⟨c, q1Q, []⟩) : True ∧ VLe (.agg [.int .i64 c, .str q1Q, .osl 0 0]) (.agg [.int .i64 x.code, .str x.path, .osl 0 x.nodes.length]) ∧
  BLe (.arr 5 0 (gL (q00 1) []) q0i) (.arr 5 x.nodes.length (gL (q00 1) x.nodes) q0i) ∧ True := by
 subst h
 exact ⟨trivial, VLe.refl _, q2h _, trivial⟩
theorem x2L {v w : Int} : (bif v != -1 then v != w else false) = decide (v ≠ -1 ∧ v ≠ w) := by
 by_cases a1 : v = -1
 ·have : (v != -1) = false := by simp [a1]
  rw [this, decide_eq_false (fun g => g.1 a1)]
  rfl
 ·have : (v != -1) = true := by simp [a1]
  rw [this]
  by_cases a2 : v = w
  ·rw [decide_eq_false (fun g => g.2 a2)]
   simp [a2]
  ·rw [decide_eq_true ⟨a1, a2⟩]
   simp [a2]
theorem q9W {l : List q03} {p : ByteArray} (h : decide (atN l p < 0) = false) : 0 ≤ atN l p ∧ atN l p < l.length := by
 have h1 := of_decide_eq_false h
 have h2 := qDF (q9R p) l
 have h3 : q4h (q9R p) l = atN l p := rfl
 omega
def qOd (l : List q03) (p : ByteArray) : Prop := l.length ≤ 1000 ∧ qJK l
noncomputable def qW0 (l : List q03) (p : ByteArray) : V := q0H q3M 2 (q1F l p)
noncomputable def qPV : q0G := fun args bin => match args, bin with
 | [a0, .str a1], [] => some (VLe a0 (q0H (q00 1) 1 (((q0M q04) a0))) ∧ qOd ((q0M q04) a0) a1, qW0 ((q0M q04) a0) a1, [])
 | _, _ => none
noncomputable def qRZ (l : List q03) (p : ByteArray) : q0O :=
 ⟨Nat, fun i => ⟨[(0, q0H (q00 1) 1 l), (1, .str p), (5, .osl (q1l 5) (q1F (l.take i) p).length), (6, .int .i64 i)], [(q1l 5, .arr 1 (q1F (l.take i) p).length (gL q3M (q1F (l.take i) p)) q0i)]⟩,
  fun i => i ≤ l.length, fun i => l.length - i⟩
noncomputable def x0m (l : List q03) (p : ByteArray) : Nat → Option q0O := fun rg_ => match rg_ with
 | 3 => some (qRZ l p)
 | _ => none
noncomputable def x78 : Nat → Option (Fl × q0G) := lk [(221, (.ro, qMi)), (250, (.ro, qLB))]
theorem x11 : q0D Tryz.prog x78 := q01 qTN (q01 qRf (q07))
noncomputable def qZd (l : List q03) (p : ByteArray) : Cx := ⟨tt, x78, Tryz.f255.ntmps, [0, 1, 4, 5, 6, 7, 12, 27], [(3, ⟨[(0, none), (1, none), (5, some 1), (6, none)], []⟩)], [], x0m l p, [], noM, []⟩
noncomputable def q3j (l : List q03) (x : Nat) : ByteArray := (q03.path (List.getD l (Int.toNat (↑x : Int)) default))
noncomputable def qKG (l : List q03) (p : ByteArray) (y : Nat) : AS := (AS.mk [(0, q0H (q00 1) 1 l), (1, V.str p), (5, V.osl 32000384 (List.length (q1F (List.take y l) p))), (6, vi (↑y : Int))] [(32000384, Blk.arr 1 (List.length (q1F (List.take y l) p)) (gL q3M (q1F (List.take y l) p)) 100)])
noncomputable def qMC (l : List q03) (x : Nat) : Nat → V := (q2o [V.str (ByteArray.extract (q3j l x) (Int.toNat (Option.getD (some ((↑(q1S (q3j l x)) : Int) + (1 : Int))) (0 : Int))) (Int.toNat (Option.getD none (↑(ByteArray.size (q3j l x)) : Int))))])
def qIa (l : List q03) (x : Nat) : Prop := ((!q1R (q3j l x) (ByteArray.mk #[(47 : UInt8)])) = true)
theorem x3p (l : List q03) (p : ByteArray) (hpre : qOd l p) : q0f (qZd l p) Tryz.f255 1 [q0H (q00 1) 1 (l), .str (p)] (fun rr => VLe rr (qW0 l p)) := by
 have key : ((∃ x : Nat, ((SLe (AS.mk [(0, q0H (q00 1) 1 l), (1, V.str p), (5, V.osl 32000384 0), (6, vi 0)] [(32000384, Blk.arr 1 0 (q2o []) 100)]) (AS.mk [(0, q0H (q00 1) 1 l), (1, V.str p), (5, V.osl 32000384 (List.length (q1F (List.take x l) p))), (6, vi (↑x : Int))] [(32000384, Blk.arr 1 (List.length (q1F (List.take x l) p)) (gL q3M (q1F (List.take x l) p)) 100)])) ∧ (x ≤ List.length l))) ∧ (∀ x : Nat, ((x ≤ List.length l) → (((decide ((↑x : Int) < (↑(List.length l) : Int)) = true) → ((((0 : Int) ≤ (↑x : Int)) ∧ ((↑x : Int) < (↑(List.length l) : Int))) ∧ ((tq (!q1R (q3j l x) (ByteArray.mk #[(47 : UInt8)]))) ∧ (((qIa l x) → (qDg (q3j l x))) ∧ ((tq (!q1R (q3j l x) (ByteArray.mk #[(47 : UInt8)]))) ∧ ((tq (!q1R (q3j l x) (ByteArray.mk #[(47 : UInt8)]))) ∧ (((true = true) → ((qIa l x) → (qIa l x))) ∧ (∀ b : Bool, ((b = bif !q1R (q3j l x) (ByteArray.mk #[(47 : UInt8)]) then q1R (upF (q3j l x)) p else false) → (((b = true) → ((qKH (q3j l x)) ∧ ((inK IntKind.i64 ((↑(q1S (q3j l x)) : Int) + (1 : Int))) ∧ ((((0 : Int) ≤ Option.getD (some ((↑(q1S (q3j l x)) : Int) + (1 : Int))) (0 : Int)) ∧ ((Option.getD (some ((↑(q1S (q3j l x)) : Int) + (1 : Int))) (0 : Int) ≤ Option.getD none (↑(ByteArray.size (q3j l x)) : Int)) ∧ (Option.getD none (↑(ByteArray.size (q3j l x)) : Int) ≤ (↑(ByteArray.size (q3j l x)) : Int)))) ∧ ((List.length (q1F (List.take x l) p) = List.length (q1F (List.take x l) p)) ∧ ((List.length (q1F (List.take x l) p) + 1 ≤ 1073741824) ∧ ((q0r 1 1 (qMC l x)) ∧ ((inK IntKind.i64 ((↑x : Int) + (1 : Int))) ∧ (∃ y : Nat, ((SLe (AS.mk [(0, q0H (q00 1) 1 l), (1, V.str p), (5, V.osl 32000384 (List.length (q1F (List.take x l) p) + 1)), (6, vi ((↑x : Int) + (1 : Int)))] [(32000384, Blk.arr 1 (List.length (q1F (List.take x l) p) + 1) (q2n (List.length (q1F (List.take x l) p)) (gL q3M (q1F (List.take x l) p)) (qMC l x)) 100)]) (qKG l p y)) ∧ ((y ≤ List.length l) ∧ (List.length l - y < List.length l - x)))))))))))) ∧ ((b = false) → ((inK IntKind.i64 ((↑x : Int) + (1 : Int))) ∧ (∃ y : Nat, ((SLe (AS.mk [(0, q0H (q00 1) 1 l), (1, V.str p), (5, V.osl 32000384 (List.length (q1F (List.take x l) p))), (6, vi ((↑x : Int) + (1 : Int)))] [(32000384, Blk.arr 1 (List.length (q1F (List.take x l) p)) (gL q3M (q1F (List.take x l) p)) 100)]) (qKG l p y)) ∧ ((y ≤ List.length l) ∧ (List.length l - y < List.length l - x)))))))))))))))) ∧ ((decide ((↑x : Int) < (↑(List.length l) : Int)) = false) → (VLe (q0H q3M 2 (q1F (List.take x l) p)) (q0H q3M 2 (q1F l p)))))))) := by
  delta qIa; delta qMC; delta qKG; delta q3j; delta vi
  obtain ⟨hl, hb⟩ := hpre
  simp only [q16]
  refine ⟨⟨0, q1X ⟨rfl, VLe.refl _, rfl, VLe.refl _, rfl, VLe.refl _, rfl, VLe.refl _, trivial⟩ ⟨rfl, q2h _, trivial⟩, by omega⟩, fun i hi => ⟨fun h => ?_, fun h => ?_⟩⟩
  ·have hlt : i < l.length := by simpa using h
   have hz := hb (l.getD i default) (q4A hlt)
   have n1 := qIO (l.take i) p
   rw [List.length_take] at n1
   have h4 : q1S (l.getD i default).path < (l.getD i default).path.size := q6O _ hz.1
   simp only [Int.toNat_natCast]
   refine ⟨⟨by omega, by omega⟩, tqI _, fun _ => hz.2.1, tqI _, tqI _, fun _ h => h, fun b hb2 => ⟨fun h2 => ?_, fun h2 => ?_⟩⟩
   ·rw [h2] at hb2
    have hc : (l.getD i default).path ≠ top ∧ upF (l.getD i default).path = p := by
     by_cases a1 : (l.getD i default).path = top
     ·rw [decide_eq_true a1] at hb2; cases hb2
     ·rw [decide_eq_false a1] at hb2
      exact ⟨a1, of_decide_eq_true hb2.symm⟩
    simp only [Option.getD_some, Option.getD_none]
    refine ⟨hz.2.1, q0U (by omega), ⟨by omega, by omega, by omega⟩, trivial, by omega, qC8, q0U (by omega), i + 1, ?_, by omega, by omega⟩
    rw [qMr hlt hc, List.length_append, List.length_singleton]
    have e1 : ((q1S (l.getD i default).path : Int) + 1).toNat = q1S (l.getD i default).path + 1 := by omega
    have e2 : (((l.getD i default).path.size : Int)).toNat = (l.getD i default).path.size := by omega
    rw [e1, e2]
    exact q1X ⟨rfl, VLe.refl _, rfl, VLe.refl _, rfl, VLe.refl _, rfl, q0J (by omega), trivial⟩ ⟨rfl, q8M rfl rfl, trivial⟩
   ·rw [h2] at hb2
    have hc : ¬ ((l.getD i default).path ≠ top ∧ upF (l.getD i default).path = p) := fun g => by
     rw [decide_eq_false g.1] at hb2
     exact of_decide_eq_false (p := upF (l.getD i default).path = p) hb2.symm g.2
    refine ⟨q0U (by omega), i + 1, ?_, by omega, by omega⟩
    rw [qPk hlt hc]
    exact q1X ⟨rfl, VLe.refl _, rfl, VLe.refl _, rfl, VLe.refl _, rfl, q0J (by omega), trivial⟩ ⟨rfl, BLe.refl _, trivial⟩
  ·have hge : i = l.length := by simp at h; omega
   subst hge
   rw [List.take_length]
   exact VLe.refl _
 exact Eq.mp (by kernel_rfl) key
theorem qVt : q0T Tryz.prog 255 qPV := by
 refine q09 q1C (pol := 1) Tryz.func255 rfl (by kernel_rfl) fun args bin ob r bout hDe hob => ?_
 unfold qPV at hDe
 split at hDe
 ·rename_i a0 a1
  cases hDe
  exact okB (x3p ((q0M q04) a0) a1 (hob.2)) x11 (args_of_vles ⟨hob.1, VLe.refl _, trivial⟩)
 ·cases hDe
def qSs (l : List q03) (p : ByteArray) (v : Int) : Prop := l.length ≤ 1000 ∧ qJK l
noncomputable def q8V (l : List q03) (p : ByteArray) (v : Int) : q0F := q34 l p v
noncomputable def qXW (l : List q03) (p : ByteArray) (v : Int) : List Blk := [(.arr 5 ((q8V l p v).nodes).length (gL (q00 1) ((q8V l p v).nodes)) q0i)]
noncomputable def qUW (l : List q03) (p : ByteArray) (v : Int) : V := .agg [.int .i64 ((q8V l p v).code), .str ((q8V l p v).path), .osl 0 ((q8V l p v).nodes).length]
noncomputable def qSC : q0G := fun args bin => match args, bin with
 | [a0, .str a1, .int .i64 a2], [] => some (VLe a0 (q0H (q00 1) 1 (((q0M q04) a0))) ∧ qSs ((q0M q04) a0) a1 a2, qUW ((q0M q04) a0) a1 a2, qXW ((q0M q04) a0) a1 a2)
 | _, _ => none
noncomputable def x7C : Nat → Option (Fl × q0G) := lk [(249, (.ro, qMe)), (199, (.ro, qFE)), (255, (.ro, qPV))]
theorem x0h : q0D Tryz.prog x7C := q01 qRS (q01 qJ1 (q01 qVt (q07)))
noncomputable def x2W (l : List q03) (p : ByteArray) (v : Int) : Cx := ⟨tt, x7C, Tryz.f198.ntmps, [0, 1, 2, 6, 7, 8, 10, 16, 28, 34], [], [], fun _ => none, [], noM, []⟩
noncomputable def q1g (l : List q03) : List q03 := (q0M q04 (q0H (q00 1) 1 l))
noncomputable def qCv (l : List q03) (p : ByteArray) (v : Int) : V := (V.agg [vi (q0F.code (q8V l p v)), V.str (q0F.path (q8V l p v)), V.osl 0 (List.length (q0F.nodes (q8V l p v)))])
noncomputable def qD0 (l : List q03) (p : ByteArray) (v : Int) : Blk := (Blk.arr 5 (List.length (q0F.nodes (q8V l p v))) (gL (q00 1) (q0F.nodes (q8V l p v))) 100)
noncomputable def q2z (l : List q03) : Int := (↑(List.length l) : Int)
theorem qYm (l : List q03) (p : ByteArray) (v : Int) (hpre : qSs l p v) : q3H (x2W l p v) Tryz.f198 [(2, 5)] [q0H (q00 1) 1 (l), .str (p), .int .i64 (v)] [] (fun rr bs => VLe rr (qUW l p v) ∧ q1d bs (qXW l p v)) := by
 have key : (((q1R p (ByteArray.mk #[(47 : UInt8)]) = true) → ((q66 (1 : Int)) ∧ ((VLe (V.agg [vi (q0F.code (q1Y (1 : Int))), V.str (q0F.path (q1Y (1 : Int))), V.osl 0 0]) (qCv l p v)) ∧ ((BLe (Blk.arr 5 0 (gL (q00 1) (q0F.nodes (q1Y (1 : Int)))) 100) (qD0 l p v)) ∧ (True))))) ∧ ((q1R p (ByteArray.mk #[(47 : UInt8)]) = false) → (((VLe (q0H (q00 1) 1 l) (q0H (q00 1) 1 (q1g l))) ∧ (q7w (q1g l) p)) ∧ (((decide (atN (q1g l) p < (0 : Int)) = true) → ((q66 (4 : Int)) ∧ ((VLe (V.agg [vi (q0F.code (q1Y (4 : Int))), V.str (q0F.path (q1Y (4 : Int))), V.osl 0 0]) (qCv l p v)) ∧ ((BLe (Blk.arr 5 0 (gL (q00 1) (q0F.nodes (q1Y (4 : Int)))) 100) (qD0 l p v)) ∧ (True))))) ∧ ((decide (atN (q1g l) p < (0 : Int)) = false) → ((tq (v != (-1))) ∧ ((tq (v != (-1))) ∧ ((((v != (-1)) = true) → (((0 : Int) ≤ atN (q1g l) p) ∧ (atN (q1g l) p < (q2z l)))) ∧ ((tq (v != (-1))) ∧ ((tq (v != (-1))) ∧ ((tq (v != (-1))) ∧ ((tq (v != (-1))) ∧ (((true = true) → (((v != (-1)) = true) → ((v != (-1)) = true))) ∧ (∀ b : Bool, ((b = bif v != (-1) then v != q03.version (List.getD l (Int.toNat (atN (q1g l) p)) default) else false) → (((b = true) → ((q66 (7 : Int)) ∧ ((VLe (V.agg [vi (q0F.code (q1Y (7 : Int))), V.str (q0F.path (q1Y (7 : Int))), V.osl 0 0]) (qCv l p v)) ∧ ((BLe (Blk.arr 5 0 (gL (q00 1) (q0F.nodes (q1Y (7 : Int)))) 100) (qD0 l p v)) ∧ (True))))) ∧ ((b = false) → (((VLe (q0H (q00 1) 1 l) (q0H (q00 1) 1 (q1g l))) ∧ (qOd (q1g l) p)) ∧ (((decide ((↑(List.length (q1F (q1g l) p)) : Int) > (0 : Int)) = true) → ((q66 (8 : Int)) ∧ ((VLe (V.agg [vi (q0F.code (q1Y (8 : Int))), V.str (q0F.path (q1Y (8 : Int))), V.osl 0 0]) (qCv l p v)) ∧ ((BLe (Blk.arr 5 0 (gL (q00 1) (q0F.nodes (q1Y (8 : Int)))) 100) (qD0 l p v)) ∧ (True))))) ∧ ((decide ((↑(List.length (q1F (q1g l) p)) : Int) > (0 : Int)) = false) → ((((0 : Int) ≤ Option.getD none (0 : Int)) ∧ ((Option.getD none (0 : Int) ≤ Option.getD (some (atN (q1g l) p)) (q2z l)) ∧ (Option.getD (some (atN (q1g l) p)) (q2z l) ≤ (q2z l)))) ∧ ((q0r 5 (List.length l) (gL (q00 1) l)) ∧ ((0 = 0) ∧ ((0 + (Int.toNat (Option.getD (some (atN (q1g l) p)) (q2z l)) - 0) ≤ 1073741824) ∧ ((q0r 5 (Int.toNat (Option.getD (some (atN (q1g l) p)) (q2z l)) - 0) (match (motive := Option Int → Nat → V) none with | none => gL (q00 1) l | some val => q29 (gL (q00 1) l) 0)) ∧ ((∀ i : Nat, ((i < Int.toNat (Option.getD (some (atN (q1g l) p)) (q2z l)) - 0) → (q69 (q00 1 (List.getD l i default)) = true))) ∧ ((inK IntKind.i64 (atN (q1g l) p + (1 : Int))) ∧ ((((0 : Int) ≤ Option.getD (some (atN (q1g l) p + (1 : Int))) (0 : Int)) ∧ ((Option.getD (some (atN (q1g l) p + (1 : Int))) (0 : Int) ≤ Option.getD none (q2z l)) ∧ (Option.getD none (q2z l) ≤ (q2z l)))) ∧ ((q0r 5 (List.length l) (gL (q00 1) l)) ∧ ((0 + (Int.toNat (Option.getD (some (atN (q1g l) p)) (q2z l)) - 0) = 0 + (Int.toNat (Option.getD (some (atN (q1g l) p)) (q2z l)) - 0)) ∧ ((0 + (Int.toNat (Option.getD (some (atN (q1g l) p)) (q2z l)) - 0) + (Int.toNat (Option.getD none (q2z l)) - Int.toNat (Option.getD (some (atN (q1g l) p + (1 : Int))) (0 : Int))) ≤ 1073741824) ∧ ((q0r 5 (Int.toNat (Option.getD none (q2z l)) - Int.toNat (Option.getD (some (atN (q1g l) p + (1 : Int))) (0 : Int))) (match (motive := Option Int → Nat → V) some (atN (q1g l) p + (1 : Int)) with | none => gL (q00 1) l | some val => q29 (gL (q00 1) l) (Int.toNat (Option.getD (some (atN (q1g l) p + (1 : Int))) (0 : Int))))) ∧ ((∀ i : Nat, ((i < Int.toNat (Option.getD none (q2z l)) - Int.toNat (Option.getD (some (atN (q1g l) p + (1 : Int))) (0 : Int))) → (q69 (q00 1 (List.getD l (Int.toNat (Option.getD (some (atN (q1g l) p + (1 : Int))) (0 : Int)) + i) default)) = true))) ∧ ((VLe (V.agg [vi 0, V.str (ByteArray.mk #[]), V.osl 0 (0 + (Int.toNat (Option.getD (some (atN (q1g l) p)) (q2z l)) - 0) + (Int.toNat (Option.getD none (q2z l)) - Int.toNat (Option.getD (some (atN (q1g l) p + (1 : Int))) (0 : Int))))]) (qCv l p v)) ∧ ((BLe (Blk.arr 5 (0 + (Int.toNat (Option.getD (some (atN (q1g l) p)) (q2z l)) - 0) + (Int.toNat (Option.getD none (q2z l)) - Int.toNat (Option.getD (some (atN (q1g l) p + (1 : Int))) (0 : Int)))) (q2n (0 + (Int.toNat (Option.getD (some (atN (q1g l) p)) (q2z l)) - 0)) (q2n 0 (q2o []) (match (motive := Option Int → Nat → V) none with | none => gL (q00 1) l | some val => q29 (gL (q00 1) l) 0)) (match (motive := Option Int → Nat → V) some (atN (q1g l) p + (1 : Int)) with | none => gL (q00 1) l | some val => q29 (gL (q00 1) l) (Int.toNat (Option.getD (some (atN (q1g l) p + (1 : Int))) (0 : Int))))) 100) (qD0 l p v)) ∧ (True)))))))))))))))))))))))))))))))))))) := by
  delta q2z; delta qD0; delta qCv; delta q1g; delta vi
  obtain ⟨hl, hb⟩ := hpre
  have hm : l.length ≤ maxLen := by unfold maxLen; omega
  simp only [q0s, q16, x2L, q1Y, q8V]
  refine ⟨fun h => qDy ?_, fun h => ⟨⟨VLe.refl _, hm⟩, fun h2 => qDy ?_, fun h2 => ⟨tqI _, tqI _, fun _ => q9W h2, tqI _, tqI _, tqI _, tqI _, fun _ h => h, fun b hb2 => ⟨fun h3 => qDy ?_, fun h3 => ⟨⟨VLe.refl _, hl, hb⟩, fun h4 => qDy ?_, fun h4 => ?_⟩⟩⟩⟩⟩
  ·unfold q34
   rw [if_pos (of_decide_eq_true h)]
  ·unfold q34
   rw [if_neg (of_decide_eq_false h), if_pos (of_decide_eq_true h2)]
  ·rw [h3] at hb2
   unfold q34
   rw [if_neg (of_decide_eq_false h), if_neg (of_decide_eq_false h2), if_pos (of_decide_eq_true hb2.symm)]
  ·rw [h3] at hb2
   have h5 : q1F l p ≠ [] := fun g => by rw [g] at h4; cases h4
   unfold q34
   rw [if_neg (of_decide_eq_false h), if_neg (of_decide_eq_false h2), if_neg (of_decide_eq_false hb2.symm), if_pos h5]
  ·rw [h3] at hb2
   have h5 : ¬ q1F l p ≠ [] := fun g => of_decide_eq_false h4 (by have := List.length_pos_iff.2 g; omega)
   have h6 := q9W h2
   have e : q34 l p v = ⟨0, q1Q, l.take (atN l p).toNat ++ l.drop ((atN l p).toNat + 1)⟩ := by
    unfold q34
    rw [if_neg (of_decide_eq_false h), if_neg (of_decide_eq_false h2), if_neg (of_decide_eq_false hb2.symm), if_neg h5]
   obtain ⟨i, hi⟩ := Int.eq_ofNat_of_zero_le h6.1
   rw [e]
   rw [hi] at h6 ⊢
   have h7 : i < l.length := by omega
   have en : (l.take i ++ l.drop (i + 1)).length = i + (l.length - (i + 1)) := by
    rw [List.length_append, List.length_take, List.length_drop]
    omega
   have ei : ((i : Int) + 1).toNat = i + 1 := by omega
   simp only [Option.getD_some, Option.getD_none, Int.toNat_natCast, Nat.sub_zero, Nat.zero_add, ei, en]
   exact ⟨⟨by omega, by omega, by omega⟩, fun k hk => ⟨rfl, rfl⟩, trivial, by omega, fun k hk => ⟨rfl, rfl⟩, fun k hk => rfl, q0U (by omega), ⟨by omega, by omega, by omega⟩, fun k hk => ⟨rfl, rfl⟩, trivial, by omega, fun k hk => ⟨rfl, rfl⟩, fun k hk => rfl, VLe.refl _, qSF h7, trivial⟩
 exact Eq.mp (by kernel_rfl) key
theorem x2C : q0T Tryz.prog 198 qSC := by
 refine q0V q1C (tpl := [(2, 5)]) Tryz.func198 rfl (by kernel_rfl) fun args bin ob r bout hDe hob => ?_
 unfold qSC at hDe
 split at hDe
 ·rename_i a0 a1 a2
  cases hDe
  exact okQ (qYm ((q0M q04) a0) a1 a2 (hob.2)) x0h (args_of_vles ⟨hob.1, VLe.refl _, VLe.refl _, trivial⟩) trivial
 ·cases hDe
def qPD (l : List q03) (p : ByteArray) (d : Int) (v : Int) : Prop := l.length ≤ 1000 ∧ qJK l
noncomputable def q8s (l : List q03) (p : ByteArray) (d : Int) (v : Int) : q0F := q2H l p d v
noncomputable def qWK (l : List q03) (p : ByteArray) (d : Int) (v : Int) : List Blk := [(.arr 5 ((q8s l p d v).nodes).length (gL (q00 1) ((q8s l p d v).nodes)) q0i)]
noncomputable def qWz (l : List q03) (p : ByteArray) (d : Int) (v : Int) : V := .agg [.int .i64 ((q8s l p d v).code), .str ((q8s l p d v).path), .osl 0 ((q8s l p d v).nodes).length]
noncomputable def qSv : q0G := fun args bin => match args, bin with
 | [a0, .str a1, .int .i64 a2, .int .i64 a3], [] => some (VLe a0 (q0H (q00 1) 1 (((q0M q04) a0))) ∧ qPD ((q0M q04) a0) a1 a2 a3, qWz ((q0M q04) a0) a1 a2 a3, qWK ((q0M q04) a0) a1 a2 a3)
 | _, _ => none
noncomputable def x79 : Nat → Option (Fl × q0G) := lk [(249, (.ro, qMe)), (199, (.ro, qFE)), (192, (.ro, qJ8)), (202, (.ro, qKL))]
theorem x5K : q0D Tryz.prog x79 := q01 qRS (q01 qJ1 (q01 qPK (q01 qTO (q07))))
noncomputable def qZJ (l : List q03) (p : ByteArray) (d : Int) (v : Int) : Cx := ⟨tt, x79, Tryz.f200.ntmps, [0, 1, 2, 3, 8, 9, 10, 13, 19, 31, 38], [], [], fun _ => none, [], noM, []⟩
noncomputable def q1j (l : List q03) : List q03 := (q0M q04 (q0H (q00 1) 1 l))
noncomputable def q1s (l : List q03) (p : ByteArray) : Nat := (Int.toNat (atN (q1j l) p))
noncomputable def qCa (l : List q03) (p : ByteArray) (d : Int) (v : Int) : V := (V.agg [vi (q0F.code (q8s l p d v)), V.str (q0F.path (q8s l p d v)), V.osl 0 (List.length (q0F.nodes (q8s l p d v)))])
noncomputable def qBt (l : List q03) (p : ByteArray) (d : Int) (v : Int) : Blk := (Blk.arr 5 (List.length (q0F.nodes (q8s l p d v))) (gL (q00 1) (q0F.nodes (q8s l p d v))) 100)
def qI4 (l : List q03) (p : ByteArray) : Prop := (((0 : Int) ≤ atN (q1j l) p) ∧ (atN (q1j l) p < (↑(List.length (q2U (q1j l))) : Int)))
def qIF (l : List q03) (p : ByteArray) : Prop := (Int.toNat (atN (q1j l) p) < List.length (q2U (q1j l)))
theorem qZA (l : List q03) (p : ByteArray) (d : Int) (v : Int) (hpre : qPD l p d v) : q3H (qZJ l p d v) Tryz.f200 [(2, 5)] [q0H (q00 1) 1 (l), .str (p), .int .i64 (d), .int .i64 (v)] [] (fun rr bs => VLe rr (qWz l p d v) ∧ q1d bs (qWK l p d v)) := by
 have key : ((qFs d) ∧ ((((!decide (inR d 0 9999)) = true) → ((q66 (3 : Int)) ∧ ((VLe (V.agg [vi (q0F.code (q1Y (3 : Int))), V.str (q0F.path (q1Y (3 : Int))), V.osl 0 0]) (qCa l p d v)) ∧ ((BLe (Blk.arr 5 0 (gL (q00 1) (q0F.nodes (q1Y (3 : Int)))) 100) (qBt l p d v)) ∧ (True))))) ∧ (((!decide (inR d 0 9999)) = false) → (((VLe (q0H (q00 1) 1 l) (q0H (q00 1) 1 (q1j l))) ∧ (q7w (q1j l) p)) ∧ (((decide (atN (q1j l) p < (0 : Int)) = true) → ((q66 (4 : Int)) ∧ ((VLe (V.agg [vi (q0F.code (q1Y (4 : Int))), V.str (q0F.path (q1Y (4 : Int))), V.osl 0 0]) (qCa l p d v)) ∧ ((BLe (Blk.arr 5 0 (gL (q00 1) (q0F.nodes (q1Y (4 : Int)))) 100) (qBt l p d v)) ∧ (True))))) ∧ ((decide (atN (q1j l) p < (0 : Int)) = false) → ((tq (v != (-1))) ∧ ((tq (v != (-1))) ∧ ((((v != (-1)) = true) → (((0 : Int) ≤ atN (q1j l) p) ∧ (atN (q1j l) p < (↑(List.length l) : Int)))) ∧ ((tq (v != (-1))) ∧ ((tq (v != (-1))) ∧ ((tq (v != (-1))) ∧ ((tq (v != (-1))) ∧ (((true = true) → (((v != (-1)) = true) → ((v != (-1)) = true))) ∧ (∀ b : Bool, ((b = bif v != (-1) then v != q03.version (List.getD l (q1s l p) default) else false) → (((b = true) → ((q66 (7 : Int)) ∧ ((VLe (V.agg [vi (q0F.code (q1Y (7 : Int))), V.str (q0F.path (q1Y (7 : Int))), V.osl 0 0]) (qCa l p d v)) ∧ ((BLe (Blk.arr 5 0 (gL (q00 1) (q0F.nodes (q1Y (7 : Int)))) 100) (qBt l p d v)) ∧ (True))))) ∧ ((b = false) → ((((0 : Int) ≤ atN (q1j l) p) ∧ (atN (q1j l) p < (↑(List.length l) : Int))) ∧ (((decide (q03.version (List.getD l (q1s l p) default) ≥ (999 : Int)) = true) → ((q66 (2 : Int)) ∧ ((VLe (V.agg [vi (q0F.code (q1Y (2 : Int))), V.str (q0F.path (q1Y (2 : Int))), V.osl 0 0]) (qCa l p d v)) ∧ ((BLe (Blk.arr 5 0 (gL (q00 1) (q0F.nodes (q1Y (2 : Int)))) 100) (qBt l p d v)) ∧ (True))))) ∧ ((decide (q03.version (List.getD l (q1s l p) default) ≥ (999 : Int)) = false) → (((VLe (q0H (q00 1) 1 l) (q0H (q00 1) 1 (q1j l))) ∧ (qKf (q1j l))) ∧ ((qI4 l p) ∧ ((qIF l p) ∧ ((qI4 l p) ∧ ((qIF l p) ∧ ((inK IntKind.i64 ((bif Nat.beq (q1s l p) (q1s l p) then q03.version (List.getD (q2U (q1j l)) (q1s l p) default) else q03.version (List.getD (q2U (q1j l)) (q1s l p) default)) + (1 : Int))) ∧ ((qI4 l p) ∧ ((qIF l p) ∧ ((VLe (V.agg [vi 0, V.str (ByteArray.mk #[]), V.osl 0 (List.length (q2U (q1j l)))]) (qCa l p d v)) ∧ ((BLe (Blk.arr 5 (List.length (q2U (q1j l))) (q5d (q5d (gL (q00 1) (q2U (q1j l))) (q1s l p) (V.agg [V.str (q03.path (List.getD (q2U (q1j l)) (q1s l p) default)), vi d, vi (q03.version (List.getD (q2U (q1j l)) (q1s l p) default)), vi (q03.owner (List.getD (q2U (q1j l)) (q1s l p) default)), vi (q03.next (List.getD (q2U (q1j l)) (q1s l p) default))])) (q1s l p) (V.agg [V.str (bif Nat.beq (q1s l p) (q1s l p) then q03.path (List.getD (q2U (q1j l)) (q1s l p) default) else q03.path (List.getD (q2U (q1j l)) (q1s l p) default)), vi (bif Nat.beq (q1s l p) (q1s l p) then d else q03.data (List.getD (q2U (q1j l)) (q1s l p) default)), vi ((bif Nat.beq (q1s l p) (q1s l p) then q03.version (List.getD (q2U (q1j l)) (q1s l p) default) else q03.version (List.getD (q2U (q1j l)) (q1s l p) default)) + (1 : Int)), vi (bif Nat.beq (q1s l p) (q1s l p) then q03.owner (List.getD (q2U (q1j l)) (q1s l p) default) else q03.owner (List.getD (q2U (q1j l)) (q1s l p) default)), vi (bif Nat.beq (q1s l p) (q1s l p) then q03.next (List.getD (q2U (q1j l)) (q1s l p) default) else q03.next (List.getD (q2U (q1j l)) (q1s l p) default))])) 100) (qBt l p d v)) ∧ (True)))))))))))))))))))))))))))))))) := by
  delta qIF; delta qI4; delta qBt; delta qCa; delta q1s; delta q1j; delta vi
  obtain ⟨hl, hb⟩ := hpre
  have hm : l.length ≤ maxLen := by unfold maxLen; omega
  simp only [q0s, q16, x2L, q1Y, q8s, q2U]
  refine ⟨trivial, fun h => qDy ?_, fun h => ⟨⟨VLe.refl _, hm⟩, fun h2 => qDy ?_, fun h2 => ⟨tqI _, tqI _, fun _ => q9W h2, tqI _, tqI _, tqI _, tqI _, fun _ h => h, fun b hb2 => ⟨fun h3 => qDy ?_, fun h3 => ⟨q9W h2, fun h4 => qDy ?_, fun h4 => ?_⟩⟩⟩⟩⟩
  ·unfold q2H
   rw [if_pos (by simpa using h)]
  ·unfold q2H
   rw [if_neg (by simpa using h), if_pos (of_decide_eq_true h2)]
  ·rw [h3] at hb2
   unfold q2H
   rw [if_neg (by simpa using h), if_neg (of_decide_eq_false h2), if_pos (of_decide_eq_true hb2.symm)]
  ·rw [h3] at hb2
   unfold q2H
   rw [if_neg (by simpa using h), if_neg (of_decide_eq_false h2), if_neg (of_decide_eq_false hb2.symm), if_pos (of_decide_eq_true h4)]
  ·rw [h3] at hb2
   have h5 := of_decide_eq_false h4
   have h6 := q9W h2
   have h9 := h6
   have e : q2H l p d v = ⟨0, q1Q, q48 l (atN l p).toNat d⟩ := by
    unfold q2H
    rw [if_neg (by simpa using h), if_neg (of_decide_eq_false h2), if_neg (of_decide_eq_false hb2.symm), if_neg h5]
   rw [e]
   obtain ⟨i, hi⟩ := Int.eq_ofNat_of_zero_le h6.1
   rw [hi] at h5 h6 h9 ⊢
   have h7 : i < l.length := by omega
   have h8 : 0 ≤ (l.getD i default).version := (hb _ (q4A h7)).2.2.1
   have en : (q48 l i d).length = l.length := by
    unfold q48
    rw [List.length_set]
   simp only [Int.toNat_natCast, Nat.beq_refl, cond_true, en] at h5 ⊢
   refine ⟨⟨VLe.refl _, hl⟩, h9, h7, h9, h7, q0U (by omega), h9, h7, VLe.refl _, ?_, trivial⟩
   exact q7n h7 (ELe.of_eq (by simp [q2G, V.cells, q00])) fun j e => by simp [q2G, e]
 exact Eq.mp (by kernel_rfl) key
theorem qZH : q0T Tryz.prog 200 qSv := by
 refine q0V q1C (tpl := [(2, 5)]) Tryz.func200 rfl (by kernel_rfl) fun args bin ob r bout hDe hob => ?_
 unfold qSv at hDe
 split at hDe
 ·rename_i a0 a1 a2 a3
  cases hDe
  exact okQ (qZA ((q0M q04) a0) a1 a2 a3 (hob.2)) x5K (args_of_vles ⟨hob.1, VLe.refl _, VLe.refl _, VLe.refl _, trivial⟩) trivial
 ·cases hDe
set_option maxHeartbeats 8000000
theorem qIV {l : List q03} {i t : Nat} {v : V} {z : q03} (hv : q04 v = z) : q0M q04 (.sl l.length (q5d (gL (q00 1) l) i v) t) = l.set i z := by
 refine List.ext_getElem (by simp [q0M]) fun k h1 h2 => ?_
 have hk : k < l.length := by simpa using h2
 simp only [q0M, List.getElem_map, List.getElem_range, q2G, List.getElem_set]
 by_cases e : k = i
 ·subst e
  rw [if_pos rfl, if_pos rfl, hv]
 ·rw [if_neg e, if_neg (fun g => e g.symm)]
  simp [gL, hk]
theorem qLh {l : List q03} {i : Nat} {v : V} {z : q03} (hi : i < l.length) (hv : v = q00 1 z) : VLe (.sl l.length (q5d (gL (q00 1) l) i v) 1) (q0H (q00 1) 1 (l.set i z)) :=
 q3A (by rw [List.length_set]) (fun k hk => by
  have hk2 : k < l.length := by rw [List.length_set] at hk; exact hk
  rw [q2G, List.getElem_set]
  by_cases e : k = i
  ·subst e
   rw [if_pos rfl, if_pos rfl, hv]
  ·rw [if_neg e, if_neg (fun g => e g.symm)]
   simp [gL, hk2]) (Or.inl rfl)
theorem inB {a b : Prop} [Decidable a] [Decidable b] : (bif !decide a then true else !decide b) = decide (¬ (a ∧ b)) := by
 by_cases h1 : a <;> by_cases h2 : b <;> simp [h1, h2]
theorem qKX (p : ByteArray) : (upF p).size ≤ p.size + 1 := by
 unfold upF
 split
 ·show 1 ≤ _
  omega
 ·have h : q1S p ≤ p.size := q86 _ _
  rw [q6Y _ _ _ (Nat.zero_le _) h]
  omega
theorem q8U (s : ByteArray) (n : Int) : (q42 s n).size = s.size + 2 := by
 unfold q42
 rw [ByteArray.size_append, ByteArray.size_append, qBV, qBV]
theorem qEs {p : ByteArray} (h : 0 < p.size) : (q35 p).size ≤ p.size := by
 have h2 : q1S p < p.size := q6O _ h
 unfold q35
 rw [q6Y _ _ _ (by omega) (Nat.le_refl _)]
 omega
theorem qIL {l out : List q03} {p : ByteArray} {d o : Int} {x : q0F} (hx : x = q4q l out p d o) (h1 : decide (atN l p ≥ 0) = false) (h2 : decide ((l.length : Int) ≥ 20) = false) : x = ⟨0, p, qKx out ⟨p, d, 0, o, 0⟩⟩ := by
 rw [hx]
 unfold q4q
 rw [if_neg (of_decide_eq_false h1), if_neg (by have := of_decide_eq_false h2; omega)]
theorem qHw {l out : List q03} {p : ByteArray} {d o : Int} {x : q0F} (hx : x = q4q l out p d o) (h1 : decide (atN l p ≥ 0) = true) : x = ⟨6, q1Q, []⟩ := by
 rw [hx]
 unfold q4q
 rw [if_pos (of_decide_eq_true h1)]
theorem qHY {l out : List q03} {p : ByteArray} {d o : Int} {x : q0F} (hx : x = q4q l out p d o) (h1 : decide (atN l p ≥ 0) = false) (h2 : decide ((l.length : Int) ≥ 20) = true) : x = ⟨2, q1Q, []⟩ := by
 rw [hx]
 unfold q4q
 rw [if_neg (of_decide_eq_false h1), if_pos (by have := of_decide_eq_true h2; omega)]
theorem qVv {p : ByteArray} {l : List q03} {x : q0F} (h : x = ⟨0, p, l⟩) : VLe (.agg [.int .i64 0, .str p, .osl 0 l.length]) (.agg [.int .i64 x.code, .str x.path, .osl 0 x.nodes.length]) ∧
  BLe (.arr 5 l.length (gL (q00 1) l) q0i) (.arr 5 x.nodes.length (gL (q00 1) x.nodes) q0i) ∧ True := by
 subst h
 exact ⟨VLe.refl _, BLe.refl _, trivial⟩
def qPY (l : List q03) (p : ByteArray) (d : Int) (o : Int) (s : Bool) : Prop := l.length ≤ 1000 ∧ qJK l ∧ 0 < p.size ∧ p.size ≤ 900
noncomputable def q7o (l : List q03) (p : ByteArray) (d : Int) (o : Int) (s : Bool) : q0F := q2I l p d o s
noncomputable def qVx (l : List q03) (p : ByteArray) (d : Int) (o : Int) (s : Bool) : List Blk := [(.arr 5 ((q7o l p d o s).nodes).length (gL (q00 1) ((q7o l p d o s).nodes)) q0i)]
noncomputable def qUJ (l : List q03) (p : ByteArray) (d : Int) (o : Int) (s : Bool) : V := .agg [.int .i64 ((q7o l p d o s).code), .str ((q7o l p d o s).path), .osl 0 ((q7o l p d o s).nodes).length]
noncomputable def qR5 : q0G := fun args bin => match args, bin with
 | [a0, .str a1, .int .i64 a2, .int .i64 a3, .bool a4], [] => some (VLe a0 (q0H (q00 1) 1 (((q0M q04) a0))) ∧ qPY ((q0M q04) a0) a1 a2 a3 a4, qUJ ((q0M q04) a0) a1 a2 a3 a4, qVx ((q0M q04) a0) a1 a2 a3 a4)
 | _, _ => none
noncomputable def x6E : Nat → Option (Fl × q0G) := lk [(249, (.ro, qMe)), (199, (.ro, qFE)), (192, (.ro, qJ8)), (220, (.ro, qOz)), (221, (.ro, qMi)), (202, (.ro, qKL)), (250, (.ro, qLB)), (252, (.ro, qR3)), (251, (.ro, qNt)), (253, (.ro, qSk)), (191, (.ro, qKq)), (254, (.ro, qS2))]
theorem x0X : q0D Tryz.prog x6E := q01 qRS (q01 qJ1 (q01 qPK (q01 qWd (q01 qTN (q01 qTO (q01 qRf (q01 qZy (q01 qWo (q01 x2d (q01 qT3 (q01 x36 (q07))))))))))))
noncomputable def x4a (l : List q03) (p : ByteArray) (d : Int) (o : Int) (s : Bool) : Cx := ⟨tt, x6E, Tryz.f197.ntmps, [0, 1, 2, 3, 4, 10, 11, 12, 13, 14, 15, 23, 26, 33, 40, 44, 51, 62, 73, 85, 89], [], [], fun _ => none, [], noM, []⟩
noncomputable def q26 (l : List q03) : List q03 := (q0M q04 (q0H (q00 1) 1 l))
noncomputable def q5b (l : List q03) (p : ByteArray) : Nat := (Int.toNat (atN (q26 l) (upF p)))
noncomputable def qAe (l : List q03) (p : ByteArray) : V := (V.sl (List.length (q2U (q26 l))) (q5d (gL (q00 1) (q2U (q26 l))) (q5b l p) (V.agg [V.str (q03.path (List.getD (q2U (q26 l)) (q5b l p) default)), vi (q03.data (List.getD (q2U (q26 l)) (q5b l p) default)), vi (q03.version (List.getD (q2U (q26 l)) (q5b l p) default)), vi (q03.owner (List.getD (q2U (q26 l)) (q5b l p) default)), vi (q03.next (List.getD l (q5b l p) default) + (1 : Int))])) 1)
noncomputable def q4K (p : ByteArray) : Nat := (Int.toNat (Option.getD (some ((↑(q1S p) : Int) + (1 : Int))) (0 : Int)))
noncomputable def q6Q (l : List q03) (p : ByteArray) (d : Int) (o : Int) (s : Bool) : V := (V.agg [vi (q0F.code (q7o l p d o s)), V.str (q0F.path (q7o l p d o s)), V.osl 0 (List.length (q0F.nodes (q7o l p d o s)))])
noncomputable def q4D (l : List q03) (p : ByteArray) : Int := (q03.next (List.getD l (q5b l p) default))
noncomputable def q6e (l : List q03) (p : ByteArray) (d : Int) (o : Int) (s : Bool) : Blk := (Blk.arr 5 (List.length (q0F.nodes (q7o l p d o s))) (gL (q00 1) (q0F.nodes (q7o l p d o s))) 100)
noncomputable def q4L (p : ByteArray) : Nat := (Int.toNat (Option.getD none (↑(ByteArray.size p) : Int)))
noncomputable def qBa (l : List q03) (p : ByteArray) (d : Int) (o : Int) : V := (V.agg [V.str (q1n (upF p) (q42 (ByteArray.extract p (q4K p) (q4L p)) (q4D l p))), vi d, vi 0, vi o, vi 0])
def qLn (l : List q03) (p : ByteArray) (d : Int) (o : Int) (s : Bool) : Prop := ((decide ((↑(List.length l) : Int) ≥ (20 : Int)) = true) → ((q66 (2 : Int)) ∧ ((VLe (V.agg [vi (q0F.code (q1Y (2 : Int))), V.str (q0F.path (q1Y (2 : Int))), V.osl 0 0]) (q6Q l p d o s)) ∧ ((BLe (Blk.arr 5 0 (gL (q00 1) (q0F.nodes (q1Y (2 : Int)))) 100) (q6e l p d o s)) ∧ (True)))))
noncomputable def qAn (l : List q03) (p : ByteArray) : Int := (q10 (q1n (upF p) (q42 (ByteArray.extract p (q4K p) (q4L p)) (q4D l p))))
def qGl (l : List q03) (p : ByteArray) (d : Int) (o : Int) (s : Bool) : Prop := ((q66 (3 : Int)) ∧ ((VLe (V.agg [vi (q0F.code (q1Y (3 : Int))), V.str (q0F.path (q1Y (3 : Int))), V.osl 0 0]) (q6Q l p d o s)) ∧ ((BLe (Blk.arr 5 0 (gL (q00 1) (q0F.nodes (q1Y (3 : Int)))) 100) (q6e l p d o s)) ∧ (True))))
def qH3 (l : List q03) (p : ByteArray) (d : Int) (o : Int) (s : Bool) : Prop := ((q66 (6 : Int)) ∧ ((VLe (V.agg [vi (q0F.code (q1Y (6 : Int))), V.str (q0F.path (q1Y (6 : Int))), V.osl 0 0]) (q6Q l p d o s)) ∧ ((BLe (Blk.arr 5 0 (gL (q00 1) (q0F.nodes (q1Y (6 : Int)))) 100) (q6e l p d o s)) ∧ (True))))
noncomputable def q98 (l : List q03) : List q03 := (q0M q04 (q0H (q00 1) 1 (q2U (q26 l))))
def qAK (l : List q03) : Prop := (VLe (q0H (q00 1) 1 l) (q0H (q00 1) 1 (q26 l)))
noncomputable def q7i (p : ByteArray) (d : Int) (o : Int) : V := (V.agg [V.str p, vi d, vi 0, vi o, vi 0])
theorem x01 (l : List q03) (p : ByteArray) (d : Int) (o : Int) (s : Bool) (hpre : qPY l p d o s) : q3H (x4a l p d o s) Tryz.f197 [(2, 5)] [q0H (q00 1) 1 (l), .str (p), .int .i64 (d), .int .i64 (o), .bool (s)] [] (fun rr bs => VLe rr (qUJ l p d o s) ∧ q1d bs (qVx l p d o s)) := by
 have key : ((qFs d) ∧ ((tq (!!decide (inR d 0 9999))) ∧ ((((!!decide (inR d 0 9999)) = true) → (qJT o)) ∧ ((tq (!!decide (inR d 0 9999))) ∧ (((true = true) → (((!decide (inR d 0 9999)) = false) → ((!!decide (inR d 0 9999)) = true))) ∧ (∀ b : Bool, ((b = bif !decide (inR d 0 9999) then true else !decide (inR o 0 9)) → (((b = true) → (qGl l p d o s)) ∧ ((b = false) → (((q1R p (ByteArray.mk #[(47 : UInt8)]) = true) → ((q66 (1 : Int)) ∧ ((VLe (V.agg [vi (q0F.code (q1Y (1 : Int))), V.str (q0F.path (q1Y (1 : Int))), V.osl 0 0]) (q6Q l p d o s)) ∧ ((BLe (Blk.arr 5 0 (gL (q00 1) (q0F.nodes (q1Y (1 : Int)))) 100) (q6e l p d o s)) ∧ (True))))) ∧ ((q1R p (ByteArray.mk #[(47 : UInt8)]) = false) → ((qDg p) ∧ (((qAK l) ∧ (q7w (q26 l) (upF p))) ∧ (((decide (atN (q26 l) (upF p) < (0 : Int)) = true) → ((q66 (4 : Int)) ∧ ((VLe (V.agg [vi (q0F.code (q1Y (4 : Int))), V.str (q0F.path (q1Y (4 : Int))), V.osl 0 0]) (q6Q l p d o s)) ∧ ((BLe (Blk.arr 5 0 (gL (q00 1) (q0F.nodes (q1Y (4 : Int)))) 100) (q6e l p d o s)) ∧ (True))))) ∧ ((decide (atN (q26 l) (upF p) < (0 : Int)) = false) → ((((0 : Int) ≤ atN (q26 l) (upF p)) ∧ (atN (q26 l) (upF p) < (↑(List.length l) : Int))) ∧ ((((q03.owner (List.getD l (q5b l p) default) != 0) = true) → ((q66 (8 : Int)) ∧ ((VLe (V.agg [vi (q0F.code (q1Y (8 : Int))), V.str (q0F.path (q1Y (8 : Int))), V.osl 0 0]) (q6Q l p d o s)) ∧ ((BLe (Blk.arr 5 0 (gL (q00 1) (q0F.nodes (q1Y (8 : Int)))) 100) (q6e l p d o s)) ∧ (True))))) ∧ (((q03.owner (List.getD l (q5b l p) default) != 0) = false) → (((qAK l) ∧ (qKf (q26 l))) ∧ (((s = true) → ((((0 : Int) ≤ atN (q26 l) (upF p)) ∧ (atN (q26 l) (upF p) < (↑(List.length l) : Int))) ∧ (((decide (q03.next (List.getD l (q5b l p) default) ≥ (100 : Int)) = true) → (qGl l p d o s)) ∧ ((decide (q03.next (List.getD l (q5b l p) default) ≥ (100 : Int)) = false) → ((qKH p) ∧ ((inK IntKind.i64 ((↑(q1S p) : Int) + (1 : Int))) ∧ ((((0 : Int) ≤ Option.getD (some ((↑(q1S p) : Int) + (1 : Int))) (0 : Int)) ∧ ((Option.getD (some ((↑(q1S p) : Int) + (1 : Int))) (0 : Int) ≤ Option.getD none (↑(ByteArray.size p) : Int)) ∧ (Option.getD none (↑(ByteArray.size p) : Int) ≤ (↑(ByteArray.size p) : Int)))) ∧ ((qO9 (ByteArray.extract p (q4K p) (q4L p)) (q4D l p)) ∧ ((qIt (q42 (ByteArray.extract p (q4K p) (q4L p)) (q4D l p))) ∧ ((((!decide (q4C (q42 (ByteArray.extract p (q4K p) (q4L p)) (q4D l p)))) = true) → ((q66 (5 : Int)) ∧ ((VLe (V.agg [vi (q0F.code (q1Y (5 : Int))), V.str (q0F.path (q1Y (5 : Int))), V.osl 0 0]) (q6Q l p d o s)) ∧ ((BLe (Blk.arr 5 0 (gL (q00 1) (q0F.nodes (q1Y (5 : Int)))) 100) (q6e l p d o s)) ∧ (True))))) ∧ (((!decide (q4C (q42 (ByteArray.extract p (q4K p) (q4L p)) (q4D l p)))) = false) → ((qDg p) ∧ ((qO9 (ByteArray.extract p (q4K p) (q4L p)) (q4D l p)) ∧ ((qSU (upF p) (q42 (ByteArray.extract p (q4K p) (q4L p)) (q4D l p))) ∧ ((qGj (q1n (upF p) (q42 (ByteArray.extract p (q4K p) (q4L p)) (q4D l p)))) ∧ ((((q10 (q1n (upF p) (q42 (ByteArray.extract p (q4K p) (q4L p)) (q4D l p))) != 0) = true) → ((q66 (qAn l p)) ∧ ((VLe (V.agg [vi (q0F.code (q1Y (qAn l p))), V.str (q0F.path (q1Y (qAn l p))), V.osl 0 0]) (q6Q l p d o s)) ∧ ((BLe (Blk.arr 5 0 (gL (q00 1) (q0F.nodes (q1Y (qAn l p)))) 100) (q6e l p d o s)) ∧ (True))))) ∧ (((q10 (q1n (upF p) (q42 (ByteArray.extract p (q4K p) (q4L p)) (q4D l p))) != 0) = false) → ((inK IntKind.i64 (q03.next (List.getD l (q5b l p) default) + (1 : Int))) ∧ ((((0 : Int) ≤ atN (q26 l) (upF p)) ∧ (atN (q26 l) (upF p) < (↑(List.length (q2U (q26 l))) : Int))) ∧ ((Int.toNat (atN (q26 l) (upF p)) < List.length (q2U (q26 l))) ∧ (((qAK l) ∧ (q7w (q26 l) (q1n (upF p) (q42 (ByteArray.extract p (q4K p) (q4L p)) (q4D l p))))) ∧ (((decide (atN (q26 l) (q1n (upF p) (q42 (ByteArray.extract p (q4K p) (q4L p)) (q4D l p))) ≥ (0 : Int)) = true) → (qH3 l p d o s)) ∧ ((decide (atN (q26 l) (q1n (upF p) (q42 (ByteArray.extract p (q4K p) (q4L p)) (q4D l p))) ≥ (0 : Int)) = false) → ((qLn l p d o s) ∧ ((decide ((↑(List.length l) : Int) ≥ (20 : Int)) = false) → (((VLe (qAe l p) (q0H (q00 1) 1 (q0M q04 (qAe l p)))) ∧ ((VLe (qBa l p d o) (q00 1 (q04 (qBa l p d o)))) ∧ (qP8 (q0M q04 (qAe l p)) (q04 (qBa l p d o))))) ∧ ((VLe (V.agg [vi 0, V.str (q1n (upF p) (q42 (ByteArray.extract p (q4K p) (q4L p)) (q4D l p))), V.osl 0 (List.length (q7j (q0M q04 (qAe l p)) (q04 (qBa l p d o))))]) (q6Q l p d o s)) ∧ ((BLe (Blk.arr 5 (List.length (q7j (q0M q04 (qAe l p)) (q04 (qBa l p d o)))) (gL (q00 1) (q7j (q0M q04 (qAe l p)) (q04 (qBa l p d o)))) 100) (q6e l p d o s)) ∧ (True))))))))))))))))))))))))))))) ∧ ((s = false) → (((qAK l) ∧ (q7w (q26 l) p)) ∧ (((decide (atN (q26 l) p ≥ (0 : Int)) = true) → (qH3 l p d o s)) ∧ ((decide (atN (q26 l) p ≥ (0 : Int)) = false) → ((qLn l p d o s) ∧ ((decide ((↑(List.length l) : Int) ≥ (20 : Int)) = false) → (((VLe (q0H (q00 1) 1 (q2U (q26 l))) (q0H (q00 1) 1 (q98 l))) ∧ ((VLe (q7i p d o) (q00 1 (q04 (q7i p d o)))) ∧ (qP8 (q98 l) (q04 (q7i p d o))))) ∧ ((VLe (V.agg [vi 0, V.str p, V.osl 0 (List.length (q7j (q98 l) (q04 (q7i p d o))))]) (q6Q l p d o s)) ∧ ((BLe (Blk.arr 5 (List.length (q7j (q98 l) (q04 (q7i p d o)))) (gL (q00 1) (q7j (q98 l) (q04 (q7i p d o)))) 100) (q6e l p d o s)) ∧ (True)))))))))))))))))))))))))))))) := by
  delta q7i; delta qAK; delta q98; delta qH3; delta qGl; delta qAn; delta qLn; delta qBa; delta q4L; delta q6e; delta q4D; delta q6Q; delta q4K; delta qAe; delta q5b; delta q26; delta vi
  obtain ⟨hl, hb, hp1, hp2⟩ := hpre
  have hm : l.length ≤ maxLen := by unfold maxLen; omega
  have u1 := qKX p
  have u2 := qEs hp1
  have u3 : q1S p < p.size := q6O _ hp1
  have e1 : ((q1S p : Int) + 1).toNat = q1S p + 1 := by omega
  have e2 : ((p.size : Int)).toNat = p.size := by omega
  have e3 : p.extract (q1S p + 1) p.size = q35 p := rfl
  have e4 : (atN l (upF p)).toNat = upN l p := rfl
  simp only [q0s, q16, inB, q1Y, q7o, q2U, q7j, Option.getD_some, Option.getD_none, e1, e2, e3, e4]
  refine ⟨trivial, tqI _, fun _ => trivial, tqI _, fun _ h => by simpa using h, fun b hb2 => ⟨fun h => qDy ?_, fun h => ⟨fun h2 => qDy ?_, fun h2 => ⟨by show p.size ≤ 1000; omega, ⟨VLe.refl _, hm⟩, fun h3 => qDy ?_, fun h3 => ⟨q9W h3, fun h4 => qDy ?_, fun h4 => ⟨⟨VLe.refl _, hl⟩, fun h5 => ?_, fun h5 => ?_⟩⟩⟩⟩⟩⟩
  ·rw [h] at hb2
   unfold q2I
   rw [if_pos (of_decide_eq_true hb2.symm)]
  all_goals rw [h] at hb2
  ·unfold q2I
   rw [if_neg (of_decide_eq_false hb2.symm), if_pos (of_decide_eq_true h2)]
  ·unfold q2I
   rw [if_neg (of_decide_eq_false hb2.symm), if_neg (of_decide_eq_false h2), if_pos (of_decide_eq_true h3)]
  ·unfold q2I
   rw [if_neg (of_decide_eq_false hb2.symm), if_neg (of_decide_eq_false h2), if_neg (of_decide_eq_false h3), if_pos (by simpa using h4)]
  ·have h6 := q9W h3
   have hu : upN l p < l.length := by unfold upN; omega
   have hz : 0 ≤ (l.getD (upN l p) default).next := (hb _ (q4A hu)).2.2.2
   refine ⟨h6, fun h7 => qDy ?_, fun h7 => ?_⟩
   ·unfold q2I
    rw [if_neg (of_decide_eq_false hb2.symm), if_neg (of_decide_eq_false h2), if_neg (of_decide_eq_false h3), if_neg (by simpa using h4), h5, if_neg (by decide), if_pos (of_decide_eq_true h7)]
   have h8 := of_decide_eq_false h7
   have hr : inR (l.getD (upN l p) default).next 0 99 := ⟨hz, by omega⟩
   have hs := q8U (q35 p) (l.getD (upN l p) default).next
   have ez : q2I l p d o s = if ¬ q4C (q42 (q35 p) (l.getD (upN l p) default).next) then ⟨5, q1Q, []⟩
     else if q10 (q1n (upF p) (q42 (q35 p) (l.getD (upN l p) default).next)) ≠ 0 then ⟨q10 (q1n (upF p) (q42 (q35 p) (l.getD (upN l p) default).next)), q1Q, []⟩
     else q4q l (q3Q l (upN l p)) (q1n (upF p) (q42 (q35 p) (l.getD (upN l p) default).next)) d o := by
    unfold q2I
    rw [if_neg (of_decide_eq_false hb2.symm), if_neg (of_decide_eq_false h2), if_neg (of_decide_eq_false h3), if_neg (by simpa using h4), h5, if_neg (by decide), if_neg h8]
   generalize q42 (q35 p) (l.getD (upN l p) default).next = q at *
   have ef : (!decide (q4C q)) = false → (q10 (q1n (upF p) q) != 0) = false → q2I l p d o s = q4q l (q3Q l (upN l p)) (q1n (upF p) q) d o := fun k1 k2 => by
    rw [ez, if_neg (by simpa using k1), if_neg (by simpa using k2)]
   refine ⟨by show p.size ≤ 1000; omega, q0U (by omega), ⟨by omega, by omega, by omega⟩, ⟨by omega, hr⟩, by show q.size ≤ 1000; omega, fun h9 => qDy ?_, fun h9 => ⟨by show p.size ≤ 1000; omega, ⟨by omega, hr⟩, ⟨by omega, by omega⟩, trivial, fun h10 => qDy ?_, fun h10 => ⟨q0U (by omega), h6, hu, ⟨VLe.refl _, hm⟩, fun h11 => qDy ?_, fun h11 => ⟨fun h12 => qDy ?_, fun h12 => ?_⟩⟩⟩⟩
   ·rw [ez, if_pos (by simpa using h9)]
   ·rw [ez, if_neg (by simpa using h9), if_pos (by simpa using h10)]
   ·exact qHw (ef h9 h10) h11
   ·exact qHY (ef h9 h10) h11 h12
   ·have eq := qIL (ef h9 h10) h11 h12
    have el : ∀ t, q0M q04 (.sl l.length (q5d (gL (q00 1) l) (upN l p) (.agg [.str (l.getD (upN l p) default).path, .int .i64 (l.getD (upN l p) default).data, .int .i64 (l.getD (upN l p) default).version, .int .i64 (l.getD (upN l p) default).owner, .int .i64 ((l.getD (upN l p) default).next + 1)])) t) = q3Q l (upN l p) := fun t => qIV rfl
    rw [el]
    refine ⟨⟨qLh hu rfl, VLe.refl _, ?_⟩, qVv eq⟩
    show (q3Q l (upN l p)).length ≤ 1000
    unfold q3Q
    rw [List.length_set]
    exact hl
  ·have ez : q2I l p d o s = q4q l l p d o := by
    unfold q2I
    rw [if_neg (of_decide_eq_false hb2.symm), if_neg (of_decide_eq_false h2), if_neg (of_decide_eq_false h3), if_neg (by simpa using h4), h5, if_pos rfl]
   refine ⟨⟨VLe.refl _, hm⟩, fun h11 => qDy (qHw ez h11), fun h11 => ⟨fun h12 => qDy (qHY ez h11 h12), fun h12 => ?_⟩⟩
   have eq := qIL ez h11 h12
   exact ⟨⟨VLe.refl _, VLe.refl _, hl⟩, qVv eq⟩
 exact Eq.mp (by kernel_rfl) key
theorem x4y : q0T Tryz.prog 197 qR5 := by
 refine q0V q1C (tpl := [(2, 5)]) Tryz.func197 rfl (by kernel_rfl) fun args bin ob r bout hDe hob => ?_
 unfold qR5 at hDe
 split at hDe
 ·rename_i a0 a1 a2 a3 a4
  cases hDe
  exact okQ (x01 ((q0M q04) a0) a1 a2 a3 a4 (hob.2)) x0X (args_of_vles ⟨hob.1, VLe.refl _, VLe.refl _, VLe.refl _, VLe.refl _, trivial⟩) trivial
 ·cases hDe
theorem qX4 (a b : Int) : q4g 2 (q2o [.int .u8 a, .int .u8 b]) = q4g 1 (q2o [.int .u8 a]) ++ q4g 1 (q2o [.int .u8 b]) := by
 apply q3f
 rfl
def qLw (v : Int) (z : q03) : Prop := True
noncomputable def qWr (v : Int) (z : q03) : V := .bool (decide (v = -1 ∨ v = z.version))
noncomputable def qLH : q0G := fun args bin => match args, bin with
 | [.int .i64 a0, a1], [] => some (VLe a1 (q00 1 ((q04 a1))) ∧ qLw a0 (q04 a1), qWr a0 (q04 a1), [])
 | _, _ => none
noncomputable def x6f : Nat → Option (Fl × q0G) := lk []
theorem x46 : q0D Tryz.prog x6f := q07
noncomputable def qZ7 (v : Int) (z : q03) : Cx := ⟨tt, x6f, Tryz.f187.ntmps, [0, 1, 3, 4], [], [], fun _ => none, [], noM, []⟩
theorem x4D (v : Int) (z : q03) (hpre : qLw v z) : q0f (qZ7 v z) Tryz.f187 0 [.int .i64 (v), q00 1 (z)] (fun rr => VLe rr (qWr v z)) := by
 have key : ((tq (!v == (-1))) ∧ ((tq (!v == (-1))) ∧ ((tq (!v == (-1))) ∧ (((true = true) → (((v == (-1)) = false) → ((!v == (-1)) = true))) ∧ (∀ b : Bool, ((b = bif v == (-1) then true else v == q03.version z) → (VLe (V.bool b) (V.bool (decide (v = (-1 : Int) ∨ v = q03.version z)))))))))) := by
  repeat (first | refine And.intro (tqI _) ?_ | refine And.intro (fun _ h => by rw [h]; rfl) ?_)
  intro q hq
  refine q0e ?_
  rw [hq, Bool.eq_iff_iff, decide_eq_true_eq]
  by_cases a1 : v = -1 <;> simp [a1]
 exact Eq.mp (by kernel_rfl) key
theorem qSd : q0T Tryz.prog 187 qLH := by
 refine q09 q1C (pol := 0) Tryz.func187 rfl (by kernel_rfl) fun args bin ob r bout hDe hob => ?_
 unfold qLH at hDe
 split at hDe
 ·rename_i a0 a1
  cases hDe
  exact okB (x4D a0 (q04 a1) (hob.2)) x46 (args_of_vles ⟨VLe.refl _, hob.1, trivial⟩)
 ·cases hDe
def qHB (l : List q03) (p : ByteArray) : Prop := l.length ≤ maxLen
noncomputable def qU8 (l : List q03) (p : ByteArray) : V := .int .i64 (if q0p l ≠ 0 then q0p l else q10 p)
noncomputable def qHR : q0G := fun args bin => match args, bin with
 | [a0, .str a1], [] => some (VLe a0 (q0H (q00 1) 1 (((q0M q04) a0))) ∧ qHB ((q0M q04) a0) a1, qU8 ((q0M q04) a0) a1, [])
 | _, _ => none
noncomputable def x6p : Nat → Option (Fl × q0G) := lk [(117, (.ro, qPh)), (175, (.ro, qJQ))]
theorem qYn : q0D Tryz.prog x6p := q01 qU7 (q01 qOa (q07))
noncomputable def x2a (l : List q03) (p : ByteArray) : Cx := ⟨tt, x6p, Tryz.f237.ntmps, [0, 1, 4, 5, 9], [], [], fun _ => none, [], noM, []⟩
noncomputable def qCb (l : List q03) : List q03 := (q0M q04 (q0H (q00 1) 1 l))
theorem x0l (l : List q03) (p : ByteArray) (hpre : qHB l p) : q0f (x2a l p) Tryz.f237 0 [q0H (q00 1) 1 (l), .str (p)] (fun rr => VLe rr (qU8 l p)) := by
 have key : (((VLe (q0H (q00 1) 1 l) (q0H (q00 1) 1 (qCb l))) ∧ (qLG (qCb l))) ∧ ((((q0p (qCb l) != 0) = true) → (VLe (vi (q0p (qCb l))) (vi (if q0p l ≠ (0 : Int) then q0p l else q10 p)))) ∧ (((q0p (qCb l) != 0) = false) → ((qHW p) ∧ (VLe (vi (q10 p)) (vi (if q0p l ≠ (0 : Int) then q0p l else q10 p))))))) := by
  delta qCb; delta vi
  have hl : l.length ≤ maxLen := hpre
  simp only [q0s]
  refine ⟨⟨VLe.refl _, hl⟩, fun h => q0J ?_, fun h => ?_⟩
  ·have h1 : q0p l ≠ 0 := by simpa using h
   rw [if_pos h1]
  ·have h1 : q0p l = 0 := by simpa using h
   rw [if_neg (not_not_intro h1)]
   exact ⟨trivial, VLe.refl _⟩
 exact Eq.mp (by kernel_rfl) key
theorem qKV : q0T Tryz.prog 237 qHR := by
 refine q09 q1C (pol := 0) Tryz.func237 rfl (by kernel_rfl) fun args bin ob r bout hDe hob => ?_
 unfold qHR at hDe
 split at hDe
 ·rename_i a0 a1
  cases hDe
  exact okB (x0l ((q0M q04) a0) a1 (hob.2)) qYn (args_of_vles ⟨hob.1, VLe.refl _, trivial⟩)
 ·cases hDe
def qQy (s : ByteArray) (n : Int) : Prop := s.size ≤ 900
noncomputable def qVI (s : ByteArray) (n : Int) : V := q5g 0 (if ¬ q4C s then ⟨5, q1Q⟩ else if ¬ inR n 0 99 then ⟨3, q1Q⟩ else if ¬ q4C (q42 s n) then ⟨5, q1Q⟩ else ⟨0, q42 s n⟩)
noncomputable def qT0 : q0G := fun args bin => match args, bin with
 | [.str a0, .int .i64 a1], [] => some (qQy a0 a1, qVI a0 a1, [])
 | _, _ => none
noncomputable def x86 : Nat → Option (Fl × q0G) := lk [(234, (.ro, qPH)), (120, (.ro, q8i))]
theorem qZ4 : q0D Tryz.prog x86 := q01 qU9 (q01 qAW (q07))
noncomputable def x3R (s : ByteArray) (n : Int) : Cx := ⟨tt, x86, Tryz.f239.ntmps, [0, 1, 4, 5, 6, 11, 30], [], [], fun _ => none, [], noM, []⟩
noncomputable def qFN (s : ByteArray) (n : Int) : V := (q5g 1 (if ¬q4C s then q0q.mk (5 : Int) q1Q else if ¬inR n 0 99 then q0q.mk (3 : Int) q1Q else if ¬q4C (q42 s n) then q0q.mk (5 : Int) q1Q else q0q.mk (0 : Int) (q42 s n)))
noncomputable def qFi (n : Int) : Nat → V := (q2o [V.int IntKind.u8 ((48 : Int) + Int.tdiv n (10 : Int)), V.int IntKind.u8 ((48 : Int) + Int.tmod n (10 : Int))])
theorem x5I (s : ByteArray) (n : Int) (hpre : qQy s n) : q0f (x3R s n) Tryz.f239 0 [.str (s), .int .i64 (n)] (fun rr => VLe rr (qVI s n)) := by
 have key : ((qF0 s) ∧ ((((!decide (q4C s)) = true) → (VLe (V.agg [vi 5, V.str (ByteArray.mk #[])]) (qFN s n))) ∧ (((!decide (q4C s)) = false) → ((q4w n (0 : Int) (99 : Int)) ∧ ((((!decide (inR n 0 99)) = true) → (VLe (V.agg [vi 3, V.str (ByteArray.mk #[])]) (qFN s n))) ∧ (((!decide (inR n 0 99)) = false) → (((10 : Int) ≠ (0 : Int)) ∧ ((inK IntKind.i64 (Int.tdiv n (10 : Int))) ∧ ((inK IntKind.i64 ((48 : Int) + Int.tdiv n (10 : Int))) ∧ ((inK IntKind.u8 ((48 : Int) + Int.tdiv n (10 : Int))) ∧ (((10 : Int) ≠ (0 : Int)) ∧ ((inK IntKind.i64 ((48 : Int) + Int.tmod n (10 : Int))) ∧ ((inK IntKind.u8 ((48 : Int) + Int.tmod n (10 : Int))) ∧ ((∀ i : Nat, ((i < 2) → (qNa (V.int IntKind.u8 (List.getD [(48 : Int) + Int.tdiv n (10 : Int), (48 : Int) + Int.tmod n (10 : Int)] i (0 : Int))) = true))) ∧ ((ByteArray.size s + 2 ≤ 4611686018427387904) ∧ ((qF0 (s ++ q4g 2 (qFi n))) ∧ ((((!decide (q4C (s ++ q4g 2 (qFi n)))) = true) → (VLe (V.agg [vi 5, V.str (ByteArray.mk #[])]) (qFN s n))) ∧ (((!decide (q4C (s ++ q4g 2 (qFi n)))) = false) → (VLe (V.agg [vi 0, V.str (s ++ q4g 2 (qFi n))]) (qFN s n)))))))))))))))))))) := by
  delta qFi; delta qFN; delta vi
  have hs : s.size ≤ 900 := hpre
  have b2 : s ++ q4g 2 (q2o [.int .u8 (48 + n.tdiv 10), .int .u8 (48 + n.tmod 10)]) = q42 s n := by
   unfold q42 qKS
   rw [qX4, ByteArray.append_assoc]
  have z2 : (q42 s n).size = s.size + 2 := q8U s n
  simp only [b2]
  refine ⟨by show s.size ≤ 1000; omega, fun h => agT ?_, fun h => ⟨trivial, fun h2 => agT ?_, fun h2 => ?_⟩⟩
  ·have h1 : ¬ q4C s := by simpa using h
   rw [if_pos h1]
  ·have h1 : q4C s := by simpa using h
   have h3 : ¬ inR n 0 99 := by simpa using h2
   rw [if_neg (not_not_intro h1), if_pos h3]
  ·have h1 : q4C s := by simpa using h
   have h3 : inR n 0 99 := by simpa using h2
   have h4 := h3
   unfold inR at h4
   obtain ⟨k, rfl⟩ := Int.eq_ofNat_of_zero_le h4.1
   have e1 : ((k : Int)).tdiv 10 = ((k / 10 : Nat) : Int) := rfl
   have e2 : ((k : Int)).tmod 10 = ((k % 10 : Nat) : Int) := rfl
   rw [if_neg (not_not_intro h1), if_neg (not_not_intro h3)]
   refine ⟨by decide, q0U (by rw [e1]; omega), q0U (by rw [e1]; omega), qZI (by rw [e1]; omega), by decide, q0U (by rw [e2]; omega), qZI (by rw [e2]; omega), fun i hi => rfl, by omega, by show (q42 s k).size ≤ 1000; omega, fun h5 => agT ?_, fun h5 => agT ?_⟩
   ·have h6 : ¬ q4C (q42 s k) := by simpa using h5
    rw [if_pos h6]
   ·have h6 : q4C (q42 s k) := by simpa using h5
    rw [if_neg (not_not_intro h6)]
 exact Eq.mp (by kernel_rfl) key
theorem qZb : q0T Tryz.prog 239 qT0 := by
 refine q09 q1C (pol := 0) Tryz.func239 rfl (by kernel_rfl) fun args bin ob r bout hDe hob => ?_
 unfold qT0 at hDe
 split at hDe
 ·rename_i a0 a1
  cases hDe
  exact okB (x5I a0 a1 (hob)) qZ4 (args_of_vles ⟨VLe.refl _, VLe.refl _, trivial⟩)
 ·cases hDe
def qR0 (p : ByteArray) (s : ByteArray) : Prop := p.size ≤ 1000 ∧ s.size ≤ 1000
noncomputable def qUx (p : ByteArray) (s : ByteArray) : V := .str (q1n p s)
noncomputable def qRp : q0G := fun args bin => match args, bin with
 | [.str a0, .str a1], [] => some (qR0 a0 a1, qUx a0 a1, [])
 | _, _ => none
noncomputable def x6Y : Nat → Option (Fl × q0G) := lk []
theorem x47 : q0D Tryz.prog x6Y := q07
noncomputable def x57 (p : ByteArray) (s : ByteArray) : Cx := ⟨tt, x6Y, Tryz.f240.ntmps, [0, 1, 4, 6], [], [], fun _ => none, [], noM, []⟩
theorem x0z (p : ByteArray) (s : ByteArray) (hpre : qR0 p s) : q0f (x57 p s) Tryz.f240 0 [.str (p), .str (s)] (fun rr => VLe rr (qUx p s)) := by
 have key : (((q1R p (ByteArray.mk #[(47 : UInt8)]) = true) → ((ByteArray.size p + ByteArray.size s ≤ 2 ^ 62) ∧ (VLe (V.str (p ++ s)) (V.str (q1n p s))))) ∧ ((q1R p (ByteArray.mk #[(47 : UInt8)]) = false) → ((ByteArray.size p + ByteArray.size (ByteArray.mk #[(47 : UInt8)]) ≤ 2 ^ 62) ∧ ((ByteArray.size (p ++ ByteArray.mk #[(47 : UInt8)]) + ByteArray.size s ≤ 2 ^ 62) ∧ (VLe (V.str (p ++ ByteArray.mk #[(47 : UInt8)] ++ s)) (V.str (q1n p s))))))) := by
  obtain ⟨h1, h2⟩ := hpre
  have t1 : (⟨#[47]⟩ : ByteArray).size = 1 := rfl
  simp only [q16]
  refine ⟨fun h => ⟨by omega, q5r ?_⟩, fun h => ⟨by omega, by rw [ByteArray.size_append]; omega, q5r ?_⟩⟩
  ·have h3 := of_decide_eq_true h
   unfold q1n
   rw [if_pos h3, h3]
  ·unfold q1n
   rw [if_neg (of_decide_eq_false h)]
 exact Eq.mp (by kernel_rfl) key
theorem x5j : q0T Tryz.prog 240 qRp := by
 refine q09 q1C (pol := 0) Tryz.func240 rfl (by kernel_rfl) fun args bin ob r bout hDe hob => ?_
 unfold qRp at hDe
 split at hDe
 ·rename_i a0 a1
  cases hDe
  exact okB (x0z a0 a1 (hob)) x47 (args_of_vles ⟨VLe.refl _, VLe.refl _, trivial⟩)
 ·cases hDe
def qNm (l : List q03) (p : ByteArray) : Prop := l.length ≤ 1000 ∧ (∀ z ∈ l, z.path.size ≤ 1000 ∧ q73 z.path)
noncomputable def qUQ (l : List q03) (p : ByteArray) : V := q0H q3M 2 (q1F l p)
noncomputable def qOH : q0G := fun args bin => match args, bin with
 | [a0, .str a1], [] => some (VLe a0 (q0H (q00 1) 1 (((q0M q04) a0))) ∧ qNm ((q0M q04) a0) a1, qUQ ((q0M q04) a0) a1, [])
 | _, _ => none
noncomputable def qTZ (l : List q03) (p : ByteArray) : q0O :=
 ⟨Nat, fun i => ⟨[(0, q0H (q00 1) 1 l), (1, .str p), (5, .osl (q1l 5) (q1F (l.take i) p).length), (11, q0H (q00 1) 1 l), (12, .int .i64 l.length), (13, .int .i64 i)], [(q1l 5, .arr 1 (q1F (l.take i) p).length (gL q3M (q1F (l.take i) p)) q0i)]⟩,
  fun i => i ≤ l.length, fun i => l.length - i⟩
noncomputable def x1F (l : List q03) (p : ByteArray) : Nat → Option q0O := fun rg_ => match rg_ with
 | 3 => some (qTZ l p)
 | _ => none
noncomputable def x62 : Nat → Option (Fl × q0G) := lk [(204, (.ro, qMR))]
theorem x5J : q0D Tryz.prog x62 := q01 qRP (q07)
noncomputable def x1s (l : List q03) (p : ByteArray) : Cx := ⟨tt, x62, Tryz.f242.ntmps, [0, 1, 4, 5, 7, 8, 9, 11, 12, 13, 14, 30], [(3, ⟨[(0, none), (1, none), (5, some 1), (11, none), (12, none), (13, none)], []⟩)], [], x1F l p, [], noM, []⟩
noncomputable def q76 (l : List q03) (x : Nat) : ByteArray := (q03.path (List.getD l (Int.toNat (↑x : Int)) default))
noncomputable def q88 (l : List q03) : Int := (↑(List.length l) : Int)
noncomputable def qNb (l : List q03) (p : ByteArray) (y : Nat) : AS := (AS.mk [(0, q0H (q00 1) 1 l), (1, V.str p), (5, V.osl 32000384 (List.length (q1F (List.take y l) p))), (11, q0H (q00 1) 1 l), (12, vi (q88 l)), (13, vi (↑y : Int))] [(32000384, Blk.arr 1 (List.length (q1F (List.take y l) p)) (gL q3M (q1F (List.take y l) p)) 100)])
theorem x30 (l : List q03) (p : ByteArray) (hpre : qNm l p) : q0f (x1s l p) Tryz.f242 1 [q0H (q00 1) 1 (l), .str (p)] (fun rr => VLe rr (qUQ l p)) := by
 have key : ((∃ x : Nat, ((SLe (AS.mk [(0, q0H (q00 1) 1 l), (1, V.str p), (5, V.osl 32000384 0), (11, q0H (q00 1) 1 l), (12, vi (q88 l)), (13, vi 0)] [(32000384, Blk.arr 1 0 (q2o []) 100)]) (AS.mk [(0, q0H (q00 1) 1 l), (1, V.str p), (5, V.osl 32000384 (List.length (q1F (List.take x l) p))), (11, q0H (q00 1) 1 l), (12, vi (q88 l)), (13, vi (↑x : Int))] [(32000384, Blk.arr 1 (List.length (q1F (List.take x l) p)) (gL q3M (q1F (List.take x l) p)) 100)])) ∧ (x ≤ List.length l))) ∧ (∀ x : Nat, ((x ≤ List.length l) → (((decide ((↑x : Int) < (q88 l)) = true) → ((((0 : Int) ≤ (↑x : Int)) ∧ ((↑x : Int) < (q88 l))) ∧ ((qHK (q76 l x)) ∧ ((tq (!q1R (q76 l x) (ByteArray.mk #[(47 : UInt8)]))) ∧ ((tq (!q1R (q76 l x) (ByteArray.mk #[(47 : UInt8)]))) ∧ (((true = true) → (((!q1R (q76 l x) (ByteArray.mk #[(47 : UInt8)])) = true) → ((!q1R (q76 l x) (ByteArray.mk #[(47 : UInt8)])) = true))) ∧ (∀ b : Bool, ((b = bif !q1R (q76 l x) (ByteArray.mk #[(47 : UInt8)]) then q1R (upF (q76 l x)) p else false) → (((b = true) → ((List.length (q1F (List.take x l) p) = List.length (q1F (List.take x l) p)) ∧ ((List.length (q1F (List.take x l) p) + 1 ≤ 1073741824) ∧ ((q0r 1 1 (q2o [V.str (q35 (q76 l x))])) ∧ ((inK IntKind.i64 ((↑x : Int) + (1 : Int))) ∧ (∃ y : Nat, ((SLe (AS.mk [(0, q0H (q00 1) 1 l), (1, V.str p), (5, V.osl 32000384 (List.length (q1F (List.take x l) p) + 1)), (11, q0H (q00 1) 1 l), (12, vi (q88 l)), (13, vi ((↑x : Int) + (1 : Int)))] [(32000384, Blk.arr 1 (List.length (q1F (List.take x l) p) + 1) (q2n (List.length (q1F (List.take x l) p)) (gL q3M (q1F (List.take x l) p)) (q2o [V.str (q35 (q76 l x))])) 100)]) (qNb l p y)) ∧ ((y ≤ List.length l) ∧ (List.length l - y < List.length l - x))))))))) ∧ ((b = false) → ((inK IntKind.i64 ((↑x : Int) + (1 : Int))) ∧ (∃ y : Nat, ((SLe (AS.mk [(0, q0H (q00 1) 1 l), (1, V.str p), (5, V.osl 32000384 (List.length (q1F (List.take x l) p))), (11, q0H (q00 1) 1 l), (12, vi (q88 l)), (13, vi ((↑x : Int) + (1 : Int)))] [(32000384, Blk.arr 1 (List.length (q1F (List.take x l) p)) (gL q3M (q1F (List.take x l) p)) 100)]) (qNb l p y)) ∧ ((y ≤ List.length l) ∧ (List.length l - y < List.length l - x))))))))))))))) ∧ ((decide ((↑x : Int) < (q88 l)) = false) → (VLe (q0H q3M 2 (q1F (List.take x l) p)) (q0H q3M 2 (q1F l p)))))))) := by
  delta qNb; delta q88; delta q76; delta vi
  obtain ⟨hl, hb⟩ := hpre
  simp only [q16]
  refine ⟨⟨0, q1X ⟨rfl, VLe.refl _, rfl, VLe.refl _, rfl, VLe.refl _, rfl, VLe.refl _, rfl, VLe.refl _, rfl, VLe.refl _, trivial⟩ ⟨rfl, q2h _, trivial⟩, by omega⟩, fun i hi => ⟨fun h => ?_, fun h => ?_⟩⟩
  ·have hlt : i < l.length := by simpa using h
   have hz := hb (l.getD i default) (q4A hlt)
   have n1 := qIO (l.take i) p
   rw [List.length_take] at n1
   simp only [Int.toNat_natCast, q11]
   refine ⟨⟨by omega, by omega⟩, hz, ?_⟩
   repeat (first | refine And.intro (tqI _) ?_ | refine And.intro (fun _ h => h) ?_)
   intro b hb2
   refine ⟨fun h2 => ?_, fun h2 => ?_⟩
   ·rw [h2] at hb2
    have hc : (l.getD i default).path ≠ top ∧ upF (l.getD i default).path = p := by
     by_cases a1 : (l.getD i default).path = top
     ·rw [decide_eq_true a1] at hb2; cases hb2
     ·rw [decide_eq_false a1] at hb2
      exact ⟨a1, of_decide_eq_true hb2.symm⟩
    refine ⟨trivial, by omega, qC8, q0U (by omega), i + 1, ?_, by omega, by omega⟩
    rw [qMr hlt hc, List.length_append, List.length_singleton]
    exact q1X ⟨rfl, VLe.refl _, rfl, VLe.refl _, rfl, VLe.refl _, rfl, VLe.refl _, rfl, VLe.refl _, rfl, q0J (by omega), trivial⟩ ⟨rfl, q8M rfl rfl, trivial⟩
   ·rw [h2] at hb2
    have hc : ¬ ((l.getD i default).path ≠ top ∧ upF (l.getD i default).path = p) := fun g => by
     rw [decide_eq_false g.1] at hb2
     exact of_decide_eq_false (p := upF (l.getD i default).path = p) hb2.symm g.2
    refine ⟨q0U (by omega), i + 1, ?_, by omega, by omega⟩
    rw [qPk hlt hc]
    exact q1X ⟨rfl, VLe.refl _, rfl, VLe.refl _, rfl, VLe.refl _, rfl, VLe.refl _, rfl, VLe.refl _, rfl, q0J (by omega), trivial⟩ ⟨rfl, BLe.refl _, trivial⟩
  ·have hge : i = l.length := by simp at h; omega
   subst hge
   rw [List.take_length]
   exact VLe.refl _
 exact Eq.mp (by kernel_rfl) key
theorem qWA : q0T Tryz.prog 242 qOH := by
 refine q09 q1C (pol := 1) Tryz.func242 rfl (by kernel_rfl) fun args bin ob r bout hDe hob => ?_
 unfold qOH at hDe
 split at hDe
 ·rename_i a0 a1
  cases hDe
  exact okB (x30 ((q0M q04) a0) a1 (hob.2)) x5J (args_of_vles ⟨hob.1, VLe.refl _, trivial⟩)
 ·cases hDe
theorem q2L {l : List q03} (h : q0p l = 0) : l.length ≤ 20 ∧ q3Z l ∧ ∀ z ∈ l, q10 z.path = 0 ∧ q73 z.path ∧ z.path.size ≤ 24 ∧ inR z.data 0 9999 ∧ inR z.version 0 999 ∧ inR z.owner 0 9 ∧ inR z.next 0 100 := by
 obtain ⟨h1, h2, _⟩ := qMZ h
 refine ⟨h1, qGa h, fun z hz => ?_⟩
 obtain ⟨i, hi, rfl⟩ := qBM hz
 have hn := q84 h2 hi
 have hp := q8P hn
 have hr := qJs hn
 exact ⟨hp, q3p hp, q6g hp, hr.1, hr.2.1, hr.2.2.1, hr.2.2.2⟩
theorem qMU {l : List q03} (h : q0p l = 0) : l.length ≤ 1000 ∧ ∀ z ∈ l, z.path.size ≤ 1000 ∧ q73 z.path := by
 obtain ⟨h1, _, h3⟩ := q2L h
 exact ⟨by omega, fun z hz => ⟨by have := (h3 z hz).2.2.1; omega, (h3 z hz).2.1⟩⟩
theorem zc0 {l : List q03} {p : ByteArray} (h : q0p l = 0) (h2 : q10 p = 0) : (if q0p l ≠ 0 then q0p l else q10 p) = 0 := by rw [if_neg (not_not_intro h), h2]
theorem qDE {c : Int} {x : q0F} (h : x = ⟨c, q1Q, []⟩) : VLe (.agg [.int .i64 c, .str ⟨#[]⟩, .osl 0 0]) (.agg [.int .i64 x.code, .str x.path, .osl 0 x.nodes.length]) ∧
  BLe (.arr 5 0 (fun _ => .undef) q0i) (.arr 5 x.nodes.length (gL (q00 1) x.nodes) q0i) ∧ True := by
 subst h
 exact ⟨VLe.refl _, q2h _, trivial⟩
theorem qJg {v w : Int} (h : (!decide (v = -1 ∨ v = w)) = false) : v = -1 ∨ v = w := by
 rw [Bool.not_eq_false'] at h
 exact of_decide_eq_true h
def qNE (l : List q03) (p : ByteArray) (v : Int) : Prop := q0p l = 0 ∧ q10 p = 0
noncomputable def q59 (l : List q03) (p : ByteArray) (v : Int) : q0F := q34 l p v
noncomputable def qQ3 (l : List q03) (p : ByteArray) (v : Int) : List Blk := [(.arr 5 ((q59 l p v).nodes).length (gL (q00 1) ((q59 l p v).nodes)) q0i)]
noncomputable def qPs (l : List q03) (p : ByteArray) (v : Int) : V := .agg [.int .i64 ((q59 l p v).code), .str ((q59 l p v).path), .osl 0 ((q59 l p v).nodes).length]
noncomputable def qNe : q0G := fun args bin => match args, bin with
 | [a0, .str a1, .int .i64 a2], [] => some (VLe a0 (q0H (q00 1) 1 (((q0M q04) a0))) ∧ qNE ((q0M q04) a0) a1 a2, qPs ((q0M q04) a0) a1 a2, qQ3 ((q0M q04) a0) a1 a2)
 | _, _ => none
noncomputable def qXI : Nat → Option (Fl × q0G) := lk [(237, (.ro, qHR)), (184, (.ro, qDP)), (187, (.ro, qLH)), (242, (.ro, qOH)), (162, (.ro, qBD)), (243, (.mv, qS8))]
theorem qUt : q0D Tryz.prog qXI := q01 qKV (q01 qHP (q01 qSd (q01 qWA (q01 qG2 (q01 qZ3 (q07))))))
noncomputable def qWm (l : List q03) (p : ByteArray) (v : Int) : Cx := ⟨tt, qXI, Tryz.f182.ntmps, [0, 1, 2, 6, 7, 8, 9, 14, 23, 27, 31, 40], [], [], fun _ => none, [], noM, []⟩
noncomputable def q1a (l : List q03) : List q03 := (q0M q04 (q0H (q00 1) 1 l))
def q8y (l : List q03) (p : ByteArray) (v : Int) : Prop := ((BLe (Blk.arr 5 0 (fun (x : Nat) ↦ V.undef) 100) (Blk.arr 5 (List.length (q0F.nodes (q59 l p v))) (gL (q00 1) (q0F.nodes (q59 l p v))) 100)) ∧ (True))
noncomputable def q7h (l : List q03) (p : ByteArray) (v : Int) : V := (V.agg [vi (q0F.code (q59 l p v)), V.str (q0F.path (q59 l p v)), V.osl 0 (List.length (q0F.nodes (q59 l p v)))])
noncomputable def q8h (l : List q03) (p : ByteArray) : V := (q00 1 (List.getD l (Int.toNat (↑(q20 (q1a l) p) : Int)) default))
noncomputable def qD7 (l : List q03) : List q03 := (q0M q04 (q0H (q00 1) 1 (q0g (q1a l))))
noncomputable def qDI (l : List q03) (p : ByteArray) : List q03 := (q9g (qD7 l) (↑(q20 (q1a l) p) : Int) ((↑(q20 (q1a l) p) : Int) + (1 : Int)))
def qAq (l : List q03) : Prop := (VLe (q0H (q00 1) 1 l) (q0H (q00 1) 1 (q1a l)))
theorem qUi (l : List q03) (p : ByteArray) (v : Int) (hpre : qNE l p v) : q3H (qWm l p v) Tryz.f182 [(2, 5)] [q0H (q00 1) 1 (l), .str (p), .int .i64 (v)] [] (fun rr bs => VLe rr (qPs l p v) ∧ q1d bs (qQ3 l p v)) := by
 have key : (((qAq l) ∧ (qHB (q1a l) p)) ∧ (((((if q0p (q1a l) ≠ (0 : Int) then q0p (q1a l) else q10 p) != 0) = true) → ((VLe (V.agg [vi (if q0p (q1a l) ≠ (0 : Int) then q0p (q1a l) else q10 p), V.str (ByteArray.mk #[]), V.osl 0 0]) (q7h l p v)) ∧ (q8y l p v))) ∧ ((((if q0p (q1a l) ≠ (0 : Int) then q0p (q1a l) else q10 p) != 0) = false) → (((qAq l) ∧ (q7z (q1a l) p)) ∧ (((q1R p (ByteArray.mk #[(47 : UInt8)]) = true) → ((VLe (V.agg [vi 1, V.str (ByteArray.mk #[]), V.osl 0 0]) (q7h l p v)) ∧ (q8y l p v))) ∧ ((q1R p (ByteArray.mk #[(47 : UInt8)]) = false) → ((((!isZ (q1a l) p) = true) → ((VLe (V.agg [vi 4, V.str (ByteArray.mk #[]), V.osl 0 0]) (q7h l p v)) ∧ (q8y l p v))) ∧ (((!isZ (q1a l) p) = false) → ((((0 : Int) ≤ (↑(q20 (q1a l) p) : Int)) ∧ ((↑(q20 (q1a l) p) : Int) < (↑(List.length l) : Int))) ∧ (((VLe (q8h l p) (q00 1 (q04 (q8h l p)))) ∧ (qLw v (q04 (q8h l p)))) ∧ ((((!decide (v = (-1 : Int) ∨ v = q03.version (q04 (q8h l p)))) = true) → ((VLe (V.agg [vi 7, V.str (ByteArray.mk #[]), V.osl 0 0]) (q7h l p v)) ∧ (q8y l p v))) ∧ (((!decide (v = (-1 : Int) ∨ v = q03.version (q04 (q8h l p)))) = false) → (((qAq l) ∧ (qNm (q1a l) p)) ∧ (((decide ((↑(List.length (q1F (q1a l) p)) : Int) > (0 : Int)) = true) → ((VLe (V.agg [vi 8, V.str (ByteArray.mk #[]), V.osl 0 0]) (q7h l p v)) ∧ (q8y l p v))) ∧ ((decide ((↑(List.length (q1F (q1a l) p)) : Int) > (0 : Int)) = false) → (((qAq l) ∧ (qAX (q1a l))) ∧ ((inK IntKind.i64 ((↑(q20 (q1a l) p) : Int) + (1 : Int))) ∧ ((((0 = 0) ∧ ((5 = 5) ∧ ((100 = 100) ∧ ((List.length (q0g (q1a l)) = List.length (q0g (q1a l))) ∧ (∀ i : Nat, ((i < List.length (q0g (q1a l))) → (ELe (q00 1 (List.getD (q0g (q1a l)) i default)) (q00 1 (List.getD (qD7 l) i default))))))))) ∧ (qRO (qD7 l) (↑(q20 (q1a l) p) : Int) ((↑(q20 (q1a l) p) : Int) + (1 : Int)))) ∧ ((VLe (V.agg [vi 0, V.str (ByteArray.mk #[]), V.osl 0 (List.length (qDI l p))]) (q7h l p v)) ∧ ((BLe (Blk.arr 5 (List.length (qDI l p)) (gL (q00 1) (qDI l p)) 100) (Blk.arr 5 (List.length (q0F.nodes (q59 l p v))) (gL (q00 1) (q0F.nodes (q59 l p v))) 100)) ∧ (True))))))))))))))))))))) := by
  delta qAq; delta qDI; delta qD7; delta q8h; delta q7h; delta q8y; delta q1a; delta vi
  obtain ⟨ht, hp⟩ := hpre
  obtain ⟨hl, hr, hn⟩ := q2L ht
  have hl2 : l.length ≤ maxLen := by unfold maxLen; omega
  have kp := qMU ht
  have zc := zc0 ht hp
  have ea := q9K hr p
  have lt0 := q3e hr p
  simp only [q0s, q11, zc, q16, Int.toNat_natCast, q0g]
  refine ⟨⟨VLe.refl _, hl2⟩, fun h => absurd h (by decide), fun _ => ⟨⟨VLe.refl _, hr, by omega⟩, fun h => qDE ?_, fun h => ⟨fun h2 => qDE ?_, fun h2 => ?_⟩⟩⟩
  ·exact if_pos (of_decide_eq_true h)
  ·show q34 l p v = _
   unfold q34
   rw [if_neg (of_decide_eq_false h), if_pos (lt0.2 (by simpa using h2))]
  ·have hz : isZ l p = true := by simpa using h2
   obtain ⟨q1, q2, q3⟩ := q5G hr hz
   have h1 := of_decide_eq_false h
   have h4 : ¬ atN l p < 0 := fun g => by rw [lt0.1 g] at hz; cases hz
   refine ⟨⟨by omega, by omega⟩, ⟨VLe.refl _, trivial⟩, fun h3 => qDE ?_, fun h3 => ⟨⟨VLe.refl _, kp⟩, fun h5 => qDE ?_, fun h5 => ?_⟩⟩
   ·show q34 l p v = _
    unfold q34
    rw [if_neg h1, if_neg h4, q1, if_pos]
    simpa using h3
   ·show q34 l p v = _
    have h6 : q1F l p ≠ [] := fun g => by rw [g] at h5; cases h5
    unfold q34
    rw [if_neg h1, if_neg h4, q1, if_neg, if_pos h6]
    intro g
    have h7 : v = -1 ∨ v = (l.getD (q20 l p) default).version := qJg h3
    rcases h7 with h7 | h7
    ·exact g.1 h7
    ·exact g.2 h7
   ·have h6 : ¬ q1F l p ≠ [] := fun g => of_decide_eq_false h5 (by have := List.length_pos_iff.2 g; omega)
    have e : q59 l p v = ⟨0, q1Q, l.take (q20 l p) ++ l.drop (q20 l p + 1)⟩ := by
     show q34 l p v = _
     unfold q34
     rw [if_neg h1, if_neg h4, q1, if_neg, if_neg h6]
     intro g
     have h7 : v = -1 ∨ v = (l.getD (q20 l p) default).version := qJg h3
     rcases h7 with h7 | h7
     ·exact g.1 h7
     ·exact g.2 h7
    rw [e]
    exact ⟨⟨VLe.refl _, by show l.length ≤ 1000; omega⟩, q0U (by omega), ⟨⟨trivial, trivial, trivial, trivial, fun i hi => ELe.refl _⟩, ⟨by omega, by omega, rfl, by omega⟩⟩, VLe.refl _, BLe.refl _, trivial⟩
 exact Eq.mp (by kernel_rfl) key
theorem qXc : q0T Tryz.prog 182 qNe := by
 refine q0V q1C (tpl := [(2, 5)]) Tryz.func182 rfl (by kernel_rfl) fun args bin ob r bout hDe hob => ?_
 unfold qNe at hDe
 split at hDe
 ·rename_i a0 a1 a2
  cases hDe
  exact okQ (qUi ((q0M q04) a0) a1 a2 (hob.2)) qUt (args_of_vles ⟨hob.1, VLe.refl _, VLe.refl _, trivial⟩) trivial
 ·cases hDe
def qMQ (l : List q03) (p : ByteArray) (d : Int) (v : Int) : Prop := q0p l = 0 ∧ q10 p = 0
noncomputable def q5C (l : List q03) (p : ByteArray) (d : Int) (v : Int) : q0F := q2H l p d v
noncomputable def qQ5 (l : List q03) (p : ByteArray) (d : Int) (v : Int) : List Blk := [(.arr 5 ((q5C l p d v).nodes).length (gL (q00 1) ((q5C l p d v).nodes)) q0i)]
noncomputable def qQA (l : List q03) (p : ByteArray) (d : Int) (v : Int) : V := .agg [.int .i64 ((q5C l p d v).code), .str ((q5C l p d v).path), .osl 0 ((q5C l p d v).nodes).length]
noncomputable def qNG : q0G := fun args bin => match args, bin with
 | [a0, .str a1, .int .i64 a2, .int .i64 a3], [] => some (VLe a0 (q0H (q00 1) 1 (((q0M q04) a0))) ∧ qMQ ((q0M q04) a0) a1 a2 a3, qQA ((q0M q04) a0) a1 a2 a3, qQ5 ((q0M q04) a0) a1 a2 a3)
 | _, _ => none
noncomputable def qTt : Nat → Option (Fl × q0G) := lk [(237, (.ro, qHR)), (184, (.ro, qDP)), (176, (.ro, qJ9)), (187, (.ro, qLH)), (162, (.ro, qBD))]
theorem qUs : q0D Tryz.prog qTt := q01 qKV (q01 qHP (q01 qNu (q01 qSd (q01 qG2 (q07)))))
noncomputable def qWh (l : List q03) (p : ByteArray) (d : Int) (v : Int) : Cx := ⟨tt, qTt, Tryz.f183.ntmps, [0, 1, 2, 3, 8, 9, 10, 11, 12, 17, 26, 31, 35, 44], [], [], fun _ => none, [], noM, []⟩
noncomputable def q12 (l : List q03) : List q03 := (q0M q04 (q0H (q00 1) 1 l))
noncomputable def q1N (l : List q03) (p : ByteArray) : Nat := (Int.toNat (↑(q20 (q12 l) p) : Int))
def q8l (l : List q03) (p : ByteArray) (d : Int) (v : Int) : Prop := ((BLe (Blk.arr 5 0 (fun (x : Nat) ↦ V.undef) 100) (Blk.arr 5 (List.length (q0F.nodes (q5C l p d v))) (gL (q00 1) (q0F.nodes (q5C l p d v))) 100)) ∧ (True))
noncomputable def q7P (l : List q03) (p : ByteArray) (d : Int) (v : Int) : V := (V.agg [vi (q0F.code (q5C l p d v)), V.str (q0F.path (q5C l p d v)), V.osl 0 (List.length (q0F.nodes (q5C l p d v)))])
def qE8 (l : List q03) (p : ByteArray) : Prop := (((0 : Int) ≤ (↑(q20 (q12 l) p) : Int)) ∧ ((↑(q20 (q12 l) p) : Int) < (↑(List.length (q0g (q12 l))) : Int)))
noncomputable def q8W (l : List q03) (p : ByteArray) : V := (q00 1 (List.getD l (q1N l p) default))
def qDG (l : List q03) (p : ByteArray) : Prop := (Int.toNat (↑(q20 (q12 l) p) : Int) < List.length (q0g (q12 l)))
def qDi (l : List q03) : Prop := (VLe (q0H (q00 1) 1 l) (q0H (q00 1) 1 (q12 l)))
theorem qWw (l : List q03) (p : ByteArray) (d : Int) (v : Int) (hpre : qMQ l p d v) : q3H (qWh l p d v) Tryz.f183 [(2, 5)] [q0H (q00 1) 1 (l), .str (p), .int .i64 (d), .int .i64 (v)] [] (fun rr bs => VLe rr (qQA l p d v) ∧ q1d bs (qQ5 l p d v)) := by
 have key : (((qDi l) ∧ (qHB (q12 l) p)) ∧ (((((if q0p (q12 l) ≠ (0 : Int) then q0p (q12 l) else q10 p) != 0) = true) → ((VLe (V.agg [vi (if q0p (q12 l) ≠ (0 : Int) then q0p (q12 l) else q10 p), V.str (ByteArray.mk #[]), V.osl 0 0]) (q7P l p d v)) ∧ (q8l l p d v))) ∧ ((((if q0p (q12 l) ≠ (0 : Int) then q0p (q12 l) else q10 p) != 0) = false) → (((qDi l) ∧ (q7z (q12 l) p)) ∧ ((qGQ d) ∧ ((((!decide (inR d 0 9999)) = true) → ((VLe (V.agg [vi 3, V.str (ByteArray.mk #[]), V.osl 0 0]) (q7P l p d v)) ∧ (q8l l p d v))) ∧ (((!decide (inR d 0 9999)) = false) → ((((!isZ (q12 l) p) = true) → ((VLe (V.agg [vi 4, V.str (ByteArray.mk #[]), V.osl 0 0]) (q7P l p d v)) ∧ (q8l l p d v))) ∧ (((!isZ (q12 l) p) = false) → ((((0 : Int) ≤ (↑(q20 (q12 l) p) : Int)) ∧ ((↑(q20 (q12 l) p) : Int) < (↑(List.length l) : Int))) ∧ (((VLe (q8W l p) (q00 1 (q04 (q8W l p)))) ∧ (qLw v (q04 (q8W l p)))) ∧ ((((!decide (v = (-1 : Int) ∨ v = q03.version (q04 (q8W l p)))) = true) → ((VLe (V.agg [vi 7, V.str (ByteArray.mk #[]), V.osl 0 0]) (q7P l p d v)) ∧ (q8l l p d v))) ∧ (((!decide (v = (-1 : Int) ∨ v = q03.version (q04 (q8W l p)))) = false) → ((((0 : Int) ≤ (↑(q20 (q12 l) p) : Int)) ∧ ((↑(q20 (q12 l) p) : Int) < (↑(List.length l) : Int))) ∧ ((((q03.version (List.getD l (q1N l p) default) == 999) = true) → ((VLe (V.agg [vi 2, V.str (ByteArray.mk #[]), V.osl 0 0]) (q7P l p d v)) ∧ (q8l l p d v))) ∧ (((q03.version (List.getD l (q1N l p) default) == 999) = false) → (((qDi l) ∧ (qAX (q12 l))) ∧ ((qE8 l p) ∧ ((qDG l p) ∧ ((qE8 l p) ∧ ((qDG l p) ∧ ((inK IntKind.i64 ((bif Nat.beq (q1N l p) (q1N l p) then q03.version (List.getD (q0g (q12 l)) (q1N l p) default) else q03.version (List.getD (q0g (q12 l)) (q1N l p) default)) + (1 : Int))) ∧ ((qE8 l p) ∧ ((qDG l p) ∧ ((VLe (V.agg [vi 0, V.str (ByteArray.mk #[]), V.osl 0 (List.length (q0g (q12 l)))]) (q7P l p d v)) ∧ ((BLe (Blk.arr 5 (List.length (q0g (q12 l))) (q5d (q5d (gL (q00 1) (q0g (q12 l))) (q1N l p) (V.agg [V.str (q03.path (List.getD (q0g (q12 l)) (q1N l p) default)), vi d, vi (q03.version (List.getD (q0g (q12 l)) (q1N l p) default)), vi (q03.owner (List.getD (q0g (q12 l)) (q1N l p) default)), vi (q03.next (List.getD (q0g (q12 l)) (q1N l p) default))])) (q1N l p) (V.agg [V.str (bif Nat.beq (q1N l p) (q1N l p) then q03.path (List.getD (q0g (q12 l)) (q1N l p) default) else q03.path (List.getD (q0g (q12 l)) (q1N l p) default)), vi (bif Nat.beq (q1N l p) (q1N l p) then d else q03.data (List.getD (q0g (q12 l)) (q1N l p) default)), vi ((bif Nat.beq (q1N l p) (q1N l p) then q03.version (List.getD (q0g (q12 l)) (q1N l p) default) else q03.version (List.getD (q0g (q12 l)) (q1N l p) default)) + (1 : Int)), vi (bif Nat.beq (q1N l p) (q1N l p) then q03.owner (List.getD (q0g (q12 l)) (q1N l p) default) else q03.owner (List.getD (q0g (q12 l)) (q1N l p) default)), vi (bif Nat.beq (q1N l p) (q1N l p) then q03.next (List.getD (q0g (q12 l)) (q1N l p) default) else q03.next (List.getD (q0g (q12 l)) (q1N l p) default))])) 100) (Blk.arr 5 (List.length (q0F.nodes (q5C l p d v))) (gL (q00 1) (q0F.nodes (q5C l p d v))) 100)) ∧ (True))))))))))))))))))))))))))) := by
  delta qDi; delta qDG; delta q8W; delta qE8; delta q7P; delta q8l; delta q1N; delta q12; delta vi
  obtain ⟨ht, hp⟩ := hpre
  obtain ⟨hl, hr, hn⟩ := q2L ht
  have hl2 : l.length ≤ maxLen := by unfold maxLen; omega
  have kp := qMU ht
  have zc := zc0 ht hp
  have ea := q9K hr p
  have lt0 := q3e hr p
  simp only [q0s, q11, zc, Int.toNat_natCast, q0g]
  refine ⟨⟨VLe.refl _, hl2⟩, fun h => absurd h (by decide), fun _ => ⟨⟨VLe.refl _, hr, by omega⟩, trivial, fun h => qDE ?_, fun h => ⟨fun h2 => qDE ?_, fun h2 => ?_⟩⟩⟩
  ·show q2H l p d v = _
   unfold q2H
   rw [if_pos (by simpa using h)]
  ·show q2H l p d v = _
   unfold q2H
   rw [if_neg (by simpa using h), if_pos (lt0.2 (by simpa using h2))]
  ·have hz : isZ l p = true := by simpa using h2
   obtain ⟨q1, q2, q3⟩ := q5G hr hz
   have h1 : ¬ ¬ inR d 0 9999 := by simpa using h
   have h4 : ¬ atN l p < 0 := fun g => by rw [lt0.1 g] at hz; cases hz
   have hv := (hn _ (q4A q2)).2.2.2.2.1
   unfold inR at hv
   have hv : 0 ≤ (l.getD (q20 l p) default).version ∧ (l.getD (q20 l p) default).version ≤ 999 := hv
   refine ⟨⟨by omega, by omega⟩, ⟨VLe.refl _, trivial⟩, fun h3 => qDE ?_, fun h3 => ⟨⟨by omega, by omega⟩, fun h5 => qDE ?_, fun h5 => ?_⟩⟩
   ·show q2H l p d v = _
    unfold q2H
    rw [if_neg h1, if_neg h4, q1, if_pos]
    simpa using h3
   ·show q2H l p d v = _
    have h6 : (l.getD (q20 l p) default).version = 999 := eq_of_beq h5
    unfold q2H
    rw [if_neg h1, if_neg h4, q1, if_neg, if_pos (by show 999 ≤ (l.getD (q20 l p) default).version; omega)]
    intro g
    have h7 : v = -1 ∨ v = (l.getD (q20 l p) default).version := qJg h3
    rcases h7 with h7 | h7
    ·exact g.1 h7
    ·exact g.2 h7
   ·have h6 : ¬ (l.getD (q20 l p) default).version = 999 := by simpa using h5
    have e : q5C l p d v = ⟨0, q1Q, q48 l (q20 l p) d⟩ := by
     show q2H l p d v = _
     unfold q2H
     rw [if_neg h1, if_neg h4, q1, if_neg, if_neg (by show ¬ 999 ≤ (l.getD (q20 l p) default).version; omega)]
     intro g
     have h7 : v = -1 ∨ v = (l.getD (q20 l p) default).version := qJg h3
     rcases h7 with h7 | h7
     ·exact g.1 h7
     ·exact g.2 h7
    rw [e]
    have en : (q48 l (q20 l p) d).length = l.length := by
     unfold q48
     rw [List.length_set]
    have e1 : Nat.beq (q20 l p) (q20 l p) = true := Nat.beq_refl _
    simp only [e1, cond_true, en]
    refine ⟨⟨VLe.refl _, by show l.length ≤ 1000; omega⟩, ⟨by omega, by omega⟩, q2, ⟨by omega, by omega⟩, q2, q0U (by omega), ⟨by omega, by omega⟩, q2, VLe.refl _, ?_, trivial⟩
    exact q7n q2 (ELe.of_eq (by simp [q2G, V.cells, q00])) fun j e => by simp [q2G, e]
 exact Eq.mp (by kernel_rfl) key
theorem qVB : q0T Tryz.prog 183 qNG := by
 refine q0V q1C (tpl := [(2, 5)]) Tryz.func183 rfl (by kernel_rfl) fun args bin ob r bout hDe hob => ?_
 unfold qNG at hDe
 split at hDe
 ·rename_i a0 a1 a2 a3
  cases hDe
  exact okQ (qWw ((q0M q04) a0) a1 a2 a3 (hob.2)) qUs (args_of_vles ⟨hob.1, VLe.refl _, VLe.refl _, VLe.refl _, trivial⟩) trivial
 ·cases hDe
def qQS (l : List q03) (p : ByteArray) : Prop := q0p l = 0 ∧ q10 p = 0
noncomputable def qWR (l : List q03) (p : ByteArray) : V := q71 2 (if atN l p < 0 then ⟨4, []⟩ else ⟨0, q1F l p⟩)
noncomputable def qSZ : q0G := fun args bin => match args, bin with
 | [a0, .str a1], [] => some (VLe a0 (q0H (q00 1) 1 (((q0M q04) a0))) ∧ qQS ((q0M q04) a0) a1, qWR ((q0M q04) a0) a1, [])
 | _, _ => none
noncomputable def x7U : Nat → Option (Fl × q0G) := lk [(237, (.ro, qHR)), (184, (.ro, qDP)), (242, (.ro, qOH))]
theorem x2U : q0D Tryz.prog x7U := q01 qKV (q01 qHP (q01 qWA (q07)))
noncomputable def qYk (l : List q03) (p : ByteArray) : Cx := ⟨tt, x7U, Tryz.f185.ntmps, [0, 1, 4, 5, 7, 12, 22], [], [], fun _ => none, [], noM, []⟩
noncomputable def q4z (l : List q03) : List q03 := (q0M q04 (q0H (q00 1) 1 l))
noncomputable def qIk (l : List q03) (p : ByteArray) : V := (q71 2 (if atN l p < (0 : Int) then q1O.mk (4 : Int) [] else q1O.mk (0 : Int) (q1F l p)))
def qIl (l : List q03) : Prop := (VLe (q0H (q00 1) 1 l) (q0H (q00 1) 1 (q4z l)))
theorem x55 (l : List q03) (p : ByteArray) (hpre : qQS l p) : q0f (qYk l p) Tryz.f185 1 [q0H (q00 1) 1 (l), .str (p)] (fun rr => VLe rr (qWR l p)) := by
 have key : (((qIl l) ∧ (qHB (q4z l) p)) ∧ (((((if q0p (q4z l) ≠ (0 : Int) then q0p (q4z l) else q10 p) != 0) = true) → (VLe (V.agg [vi (if q0p (q4z l) ≠ (0 : Int) then q0p (q4z l) else q10 p), V.nil]) (qIk l p))) ∧ ((((if q0p (q4z l) ≠ (0 : Int) then q0p (q4z l) else q10 p) != 0) = false) → (((qIl l) ∧ (q7z (q4z l) p)) ∧ ((((!isZ (q4z l) p) = true) → (VLe (V.agg [vi 4, V.nil]) (qIk l p))) ∧ (((!isZ (q4z l) p) = false) → (((qIl l) ∧ (qNm (q4z l) p)) ∧ (VLe (V.agg [vi 0, q0H q3M 2 (q1F (q4z l) p)]) (qIk l p))))))))) := by
  delta qIl; delta qIk; delta q4z; delta vi
  obtain ⟨ht, hp⟩ := hpre
  obtain ⟨hl, hr, hn⟩ := q2L ht
  have hl2 : l.length ≤ maxLen := by unfold maxLen; omega
  have kp := qMU ht
  have zc := zc0 ht hp
  have ea := q9K hr p
  have lt0 := q3e hr p
  simp only [q0s, zc]
  refine ⟨⟨VLe.refl _, hl2⟩, fun h => absurd h (by decide), fun _ => ⟨⟨VLe.refl _, hr, by omega⟩, fun h2 => ?_, fun h2 => ?_⟩⟩
  ·rw [if_pos (lt0.2 (by simpa using h2))]
   exact q4u ⟨VLe.refl _, q7k _ _, trivial⟩
  ·have hz : isZ l p = true := by simpa using h2
   have h4 : ¬ atN l p < 0 := fun g => by rw [lt0.1 g] at hz; cases hz
   rw [if_neg h4]
   exact ⟨⟨VLe.refl _, kp⟩, VLe.refl _⟩
 exact Eq.mp (by kernel_rfl) key
theorem x0f : q0T Tryz.prog 185 qSZ := by
 refine q09 q1C (pol := 1) Tryz.func185 rfl (by kernel_rfl) fun args bin ob r bout hDe hob => ?_
 unfold qSZ at hDe
 split at hDe
 ·rename_i a0 a1
  cases hDe
  exact okB (x55 ((q0M q04) a0) a1 (hob.2)) x2U (args_of_vles ⟨hob.1, VLe.refl _, trivial⟩)
 ·cases hDe
def qTU (l : List q03) (p : ByteArray) : Prop := q0p l = 0 ∧ q10 p = 0
noncomputable def qUB (l : List q03) (p : ByteArray) : V := q1b 2 (if atN l p < 0 then ⟨4, q1Q, []⟩ else ⟨0, q1Q, [atZ l (atN l p).toNat]⟩)
noncomputable def qQu : q0G := fun args bin => match args, bin with
 | [a0, .str a1], [] => some (VLe a0 (q0H (q00 1) 1 (((q0M q04) a0))) ∧ qTU ((q0M q04) a0) a1, qUB ((q0M q04) a0) a1, [])
 | _, _ => none
noncomputable def x6A : Nat → Option (Fl × q0G) := lk [(237, (.ro, qHR)), (184, (.ro, qDP))]
theorem x02 : q0D Tryz.prog x6A := q01 qKV (q01 qHP (q07))
noncomputable def x5s (l : List q03) (p : ByteArray) : Cx := ⟨tt, x6A, Tryz.f186.ntmps, [0, 1, 4, 5, 6, 7, 12, 22], [], [], fun _ => none, [], noM, []⟩
noncomputable def q4J (l : List q03) : List q03 := (q0M q04 (q0H (q00 1) 1 l))
noncomputable def qIE (l : List q03) (p : ByteArray) : V := (q1b 2 (if atN l p < (0 : Int) then q0F.mk (4 : Int) q1Q [] else q0F.mk (0 : Int) q1Q [atZ l (Int.toNat (atN l p))]))
theorem x3M (l : List q03) (p : ByteArray) (hpre : qTU l p) : q0f (x5s l p) Tryz.f186 1 [q0H (q00 1) 1 (l), .str (p)] (fun rr => VLe rr (qUB l p)) := by
 have key : (((VLe (q0H (q00 1) 1 l) (q0H (q00 1) 1 (q4J l))) ∧ (qHB (q4J l) p)) ∧ (((((if q0p (q4J l) ≠ (0 : Int) then q0p (q4J l) else q10 p) != 0) = true) → (VLe (V.agg [vi (if q0p (q4J l) ≠ (0 : Int) then q0p (q4J l) else q10 p), V.str (ByteArray.mk #[]), V.nil]) (qIE l p))) ∧ ((((if q0p (q4J l) ≠ (0 : Int) then q0p (q4J l) else q10 p) != 0) = false) → (((VLe (q0H (q00 1) 1 l) (q0H (q00 1) 1 (q4J l))) ∧ (q7z (q4J l) p)) ∧ ((((!isZ (q4J l) p) = true) → (VLe (V.agg [vi 4, V.str (ByteArray.mk #[]), V.nil]) (qIE l p))) ∧ (((!isZ (q4J l) p) = false) → ((((0 : Int) ≤ (↑(q20 (q4J l) p) : Int)) ∧ ((↑(q20 (q4J l) p) : Int) < (↑(List.length l) : Int))) ∧ (VLe (V.agg [vi 0, V.str (ByteArray.mk #[]), V.sl 1 (q2o [q00 1 (List.getD l (Int.toNat (↑(q20 (q4J l) p) : Int)) default)]) 2]) (qIE l p))))))))) := by
  delta qIE; delta q4J; delta vi
  obtain ⟨ht, hp⟩ := hpre
  obtain ⟨hl, hr, hn⟩ := q2L ht
  have hl2 : l.length ≤ maxLen := by unfold maxLen; omega
  have kp := qMU ht
  have zc := zc0 ht hp
  have ea := q9K hr p
  have lt0 := q3e hr p
  simp only [q0s, zc]
  refine ⟨⟨VLe.refl _, hl2⟩, fun h => absurd h (by decide), fun _ => ⟨⟨VLe.refl _, hr, by omega⟩, fun h2 => ?_, fun h2 => ?_⟩⟩
  ·rw [if_pos (lt0.2 (by simpa using h2))]
   exact q4u ⟨VLe.refl _, VLe.refl _, q7k _ _, trivial⟩
  ·have hz : isZ l p = true := by simpa using h2
   obtain ⟨q1, q2, q3⟩ := q5G hr hz
   have h4 : ¬ atN l p < 0 := fun g => by rw [lt0.1 g] at hz; cases hz
   rw [if_neg h4, q1]
   refine ⟨⟨by omega, by omega⟩, q4u ⟨VLe.refl _, VLe.refl _, qGB (fun i hi => ?_) (.inl rfl), trivial⟩⟩
   have : i = 0 := by omega
   subst this
   exact ELe.refl _
 exact Eq.mp (by kernel_rfl) key
theorem x19 : q0T Tryz.prog 186 qQu := by
 refine q09 q1C (pol := 1) Tryz.func186 rfl (by kernel_rfl) fun args bin ob r bout hDe hob => ?_
 unfold qQu at hDe
 split at hDe
 ·rename_i a0 a1
  cases hDe
  exact okB (x3M ((q0M q04) a0) a1 (hob.2)) x02 (args_of_vles ⟨hob.1, VLe.refl _, trivial⟩)
 ·cases hDe
theorem qAw (l : List q03) (i : Nat) : (q3Q l i).length = l.length := by unfold q3Q; rw [List.length_set]
theorem q80 (l : List q03) (i k : Nat) : (atZ (q3Q l i) k).path = (atZ l k).path := by
 unfold q3Q
 by_cases e : k = i
 ·subst e
  by_cases hk : k < l.length
  ·simp [hk]
  ·have : l.set k ⟨(atZ l k).path, (atZ l k).data, (atZ l k).version, (atZ l k).owner, (atZ l k).next + 1⟩ = l := List.set_eq_of_length_le (by omega)
   rw [this]
 ·simp [List.getElem?_set, Ne.symm e]
theorem qOF {l : List q03} (h : q3Z l) (i : Nat) : q3Z (q3Q l i) := fun a b h1 h2 => by
 rw [q80, q80]
 exact h a b h1 (by rw [qAw] at h2; exact h2)
theorem qHV (l : List q03) (i : Nat) (t : ByteArray) : q20 (q3Q l i) t = q20 l t := by
 refine qAm (by rw [qAw]; exact q7G) (fun k hk => ?_) fun h => ?_
 ·rw [q80]
  exact of_decide_eq_true (qBc (p := qCh t) (l := l) hk)
 ·rw [q80]
  rw [qAw] at h
  exact of_decide_eq_false (qHI (p := qCh t) (l := l) h)
theorem qV9 (l : List q03) (i : Nat) (t : ByteArray) : isZ (q3Q l i) t = isZ l t := by
 unfold isZ
 rw [qHV, q80, qAw]
theorem qXX {l : List q03} {k : Nat} {v : V} {z : q03} (hv : v = q00 1 z) (i : Nat) (hi : i < l.length) : q5d (gL (q00 1) l) k v i = q00 1 ((l.set k z).getD i default) := by
 rw [q2G]
 by_cases e : i = k
 ·subst e
  rw [if_pos rfl, hv]
  simp [hi]
 ·rw [if_neg e]
  simp [gL, List.getElem?_set, Ne.symm e]
theorem qJ7 {a b : ByteArray} {i : Nat} (h : i < a.size) : q0c (a ++ b) i = q0c a i := by
 rw [q7M _ _ (by rw [ByteArray.size_append]; omega), q7M _ _ h]
 congr 2
 have e : (a ++ b).data.toList = a.data.toList ++ b.data.toList := by rw [ByteArray.data_append, Array.toList_append]
 rw [List.getElem_of_eq e]
 exact List.getElem_append_left (by rw [← q2W]; exact h)
theorem qWi {m : ByteArray} {n : Int} (h1 : 1 ≤ m.size) (h : q4C (q42 m n)) : q4C m := by
 have hs := q8U m n
 obtain ⟨h2, h3, h4⟩ := h
 refine ⟨fun i hi => ?_, h1, by omega⟩
 have := h2 i (by omega)
 have e : q42 m n = m ++ (qKS (n.tdiv 10) ++ qKS (n.tmod 10)) := by unfold q42; rw [ByteArray.append_assoc]
 rw [e, qJ7 hi] at this
 exact this
theorem qIR (c : UInt8) : ∀ l : List UInt8, [] ∈ (q9d c (l ++ [c])).tail
 | [] => by simp [q9d]
 | x :: r => by
  have ih := qIR c r
  rw [List.cons_append]
  unfold q9d
  split
  ·exact List.mem_of_mem_tail ih
  ·split
   ·rename_i p q e
    rw [e] at ih
    exact ih
   ·rename_i e
    exact absurd e (qH1 _ _)
theorem qFr {s : ByteArray} (h : q0c s 0 = 47) : ∀ n, 0 < n → q0c s (q2a s n : Nat) = 47
 | 0, h0 => absurd h0 (by decide)
 | n + 1, _ => by
  unfold q2a
  split
  ·assumption
  ·rename_i hb
   by_cases h1 : n = 0
   ·subst h1; exact absurd h hb
   ·exact qFr h n (by omega)
theorem qON {p : ByteArray} (h : q10 p = 0) (h2 : p ≠ top) : 1 ≤ (q35 p).size := by
 have hh := q3p h
 obtain ⟨h0, hb⟩ := q4b hh
 have hl : q1S p < p.size := q6O _ h0
 have ha := qFr hb p.size h0
 unfold q35
 rw [q6Y _ _ _ (by omega) (Nat.le_refl _)]
 by_cases e : p.size - (q1S p + 1) = 0
 ·exfalso
  have e2 : q1S p = p.size - 1 := by omega
  have ha2 : q0c p (p.size - 1 : Nat) = ((47 : UInt8).toNat : Int) := by rw [← e2]; exact ha
  have hg := (q7t (i := p.size - 1) (by omega) 47).1 ha2
  have hne : p.data.toList ≠ [] := fun g => by rw [q2W, g] at h0; cases h0
  have hlast : p.data.toList.getLast hne = 47 := by
   rw [List.getLast_eq_getElem]
   have : p.data.toList.length - 1 = p.size - 1 := by rw [← q2W]
   simp only [this]
   exact hg
  have hsplit := (List.dropLast_concat_getLast hne).symm
  rw [hlast] at hsplit
  unfold q10 at h
  split at h
  ·cases h
  split at h
  ·rename_i h1
   rcases h1 with h1 | h1
   ·exact h2 h1
   ·have hm : ba [] ∈ (q1i p).tail := by
     unfold q1i
     rw [hsplit, ← List.map_tail]
     exact List.mem_map_of_mem (qIR 47 _)
    have := (h1.2.2 _ hm).2.1
    rw [qDo] at this
    cases this
  ·cases h
 ·omega
theorem pz1 {l : List q03} (hr : q3Z l) {q : ByteArray} (h : isZ l q = true) : decide (atN l q ≥ 0) = true := decide_eq_true (by rw [q9K hr, if_pos h]; omega)
theorem pz0 {l : List q03} (hr : q3Z l) {q : ByteArray} (h : isZ l q = false) : decide (atN l q ≥ 0) = false := decide_eq_false (by have := (q3e hr q).2 h; omega)
theorem t20 {n : Nat} (h : ((n : Int) == 20) = true) : decide ((n : Int) ≥ 20) = true := decide_eq_true (by have := eq_of_beq h; omega)
theorem f20 {n : Nat} (hn : n ≤ 20) (h : ((n : Int) == 20) = false) : decide ((n : Int) ≥ 20) = false := by
 have h2 : ¬ (n : Int) = 20 := by simpa using h
 exact decide_eq_false (by omega)
theorem qPu {out : List q03} {z : q03} {i : Nat} (h : i = q20 out z.path) : out.take ((i : Nat) : Int).toNat ++ [z] ++ out.drop ((i : Nat) : Int).toNat = qKx out z := by
 subst h
 rw [List.append_assoc]
 rfl
def qI7 (l : List q03) (p : ByteArray) (d : Int) (o : Int) (s : Bool) : Prop := q0p l = 0 ∧ q10 p = 0
noncomputable def q3m (l : List q03) (p : ByteArray) (d : Int) (o : Int) (s : Bool) : q0F := q2I l p d o s
noncomputable def qQL (l : List q03) (p : ByteArray) (d : Int) (o : Int) (s : Bool) : List Blk := [(.arr 5 ((q3m l p d o s).nodes).length (gL (q00 1) ((q3m l p d o s).nodes)) q0i)]
noncomputable def qQD (l : List q03) (p : ByteArray) (d : Int) (o : Int) (s : Bool) : V := .agg [.int .i64 ((q3m l p d o s).code), .str ((q3m l p d o s).path), .osl 0 ((q3m l p d o s).nodes).length]
noncomputable def qLJ : q0G := fun args bin => match args, bin with
 | [a0, .str a1, .int .i64 a2, .int .i64 a3, .bool a4], [] => some (VLe a0 (q0H (q00 1) 1 (((q0M q04) a0))) ∧ qI7 ((q0M q04) a0) a1 a2 a3 a4, qQD ((q0M q04) a0) a1 a2 a3 a4, qQL ((q0M q04) a0) a1 a2 a3 a4)
 | _, _ => none
noncomputable def qXd : Nat → Option (Fl × q0G) := lk [(237, (.ro, qHR)), (184, (.ro, qDP)), (176, (.ro, qJ9)), (238, (.ro, qOq)), (204, (.ro, qMR)), (175, (.ro, qJQ)), (239, (.ro, qT0)), (240, (.ro, qRp)), (162, (.ro, qBD)), (241, (.mv, qRN))]
theorem qX9 : q0D Tryz.prog qXd := q01 qKV (q01 qHP (q01 qNu (q01 qW7 (q01 qRP (q01 qOa (q01 qZb (q01 x5j (q01 qG2 (q01 x4I (q07))))))))))
noncomputable def qVU (l : List q03) (p : ByteArray) (d : Int) (o : Int) (s : Bool) : Cx := ⟨tt, qXd, Tryz.f181.ntmps, [0, 1, 2, 3, 4, 10, 11, 12, 13, 14, 15, 16, 17, 18, 19, 20, 25, 28, 38, 53, 57, 67, 73, 84, 95, 112, 115], [], [], fun _ => none, [], noM, []⟩
noncomputable def q0k (l : List q03) : List q03 := (q0M q04 (q0H (q00 1) 1 l))
noncomputable def q1u (l : List q03) (p : ByteArray) : Nat := (Int.toNat (↑(q20 (q0k l) (upF p)) : Int))
noncomputable def qGx (l : List q03) (p : ByteArray) : V := (V.sl (List.length (q0g (q0k l))) (q5d (gL (q00 1) (q0g (q0k l))) (q1u l p) (V.agg [V.str (q03.path (List.getD (q0g (q0k l)) (q1u l p) default)), vi (q03.data (List.getD (q0g (q0k l)) (q1u l p) default)), vi (q03.version (List.getD (q0g (q0k l)) (q1u l p) default)), vi (q03.owner (List.getD (q0g (q0k l)) (q1u l p) default)), vi (q03.next (List.getD (q0g (q0k l)) (q1u l p) default) + (1 : Int))])) 1)
noncomputable def q4m (l : List q03) (p : ByteArray) : Int := (q03.next (List.getD (q0g (q0k l)) (q1u l p) default))
noncomputable def q3b (l : List q03) (p : ByteArray) : ByteArray := (q0q.text (if ¬q4C (q35 p) then q0q.mk (5 : Int) q1Q else if ¬inR (q4m l p) (0 : Int) (99 : Int) then q0q.mk (3 : Int) q1Q else if ¬q4C (q42 (q35 p) (q4m l p)) then q0q.mk (5 : Int) q1Q else q0q.mk (0 : Int) (q42 (q35 p) (q4m l p))))
noncomputable def q9p (l : List q03) (p : ByteArray) (d : Int) (o : Int) (s : Bool) : Blk := (Blk.arr 5 (List.length (q0F.nodes (q3m l p d o s))) (gL (q00 1) (q0F.nodes (q3m l p d o s))) 100)
def q3s (l : List q03) (p : ByteArray) (d : Int) (o : Int) (s : Bool) : Prop := ((BLe (Blk.arr 5 0 (fun (x : Nat) ↦ V.undef) 100) (q9p l p d o s)) ∧ (True))
noncomputable def q3E (l : List q03) (p : ByteArray) (d : Int) (o : Int) (s : Bool) : V := (V.agg [vi (q0F.code (q3m l p d o s)), V.str (q0F.path (q3m l p d o s)), V.osl 0 (List.length (q0F.nodes (q3m l p d o s)))])
noncomputable def q3S (l : List q03) : List q03 := (q0M q04 (q0H (q00 1) 1 (q0g (q0k l))))
def qBN (l : List q03) (p : ByteArray) : Prop := (((0 : Int) ≤ (↑(q20 (q0k l) (upF p)) : Int)) ∧ ((↑(q20 (q0k l) (upF p)) : Int) < (↑(List.length (q0g (q0k l))) : Int)))
noncomputable def q41 (l : List q03) (p : ByteArray) : List q03 := (q0M q04 (qGx l p))
noncomputable def q9l (l : List q03) (p : ByteArray) (d : Int) (o : Int) : List q03 := (q0M q04 (V.sl 1 (q2o [V.agg [V.str (q1n (upF p) (q3b l p)), vi d, vi 0, vi o, vi 0]]) 1))
noncomputable def qDz (l : List q03) (p : ByteArray) (d : Int) (o : Int) : List q03 := (q68 (q41 l p) (↑(q20 (q41 l p) (q1n (upF p) (q3b l p))) : Int) (q9l l p d o))
noncomputable def qDt (l : List q03) (p : ByteArray) : Bool := (q0q.code (if ¬q4C (q35 p) then q0q.mk (5 : Int) q1Q else if ¬inR (q4m l p) (0 : Int) (99 : Int) then q0q.mk (3 : Int) q1Q else if ¬q4C (q42 (q35 p) (q4m l p)) then q0q.mk (5 : Int) q1Q else q0q.mk (0 : Int) (q42 (q35 p) (q4m l p))) != 0)
noncomputable def q6t (p : ByteArray) (d : Int) (o : Int) : List q03 := (q0M q04 (V.sl 1 (q2o [V.agg [V.str p, vi d, vi 0, vi o, vi 0]]) 1))
def q8K (l : List q03) (p : ByteArray) : Prop := (Int.toNat (↑(q20 (q0k l) (upF p)) : Int) < List.length (q0g (q0k l)))
noncomputable def q83 (l : List q03) : Bool := ((↑(List.length (q0g (q0k l))) : Int) == (20 : Int))
def q9s (l : List q03) : Prop := (VLe (q0H (q00 1) 1 l) (q0H (q00 1) 1 (q0k l)))
theorem qXM (l : List q03) (p : ByteArray) (d : Int) (o : Int) (s : Bool) (hpre : qI7 l p d o s) : q3H (qVU l p d o s) Tryz.f181 [(2, 5)] [q0H (q00 1) 1 (l), .str (p), .int .i64 (d), .int .i64 (o), .bool (s)] [] (fun rr bs => VLe rr (qQD l p d o s) ∧ q1d bs (qQL l p d o s)) := by
 have key : (((q9s l) ∧ (qHB (q0k l) p)) ∧ (((((if q0p (q0k l) ≠ (0 : Int) then q0p (q0k l) else q10 p) != 0) = true) → ((VLe (V.agg [vi (if q0p (q0k l) ≠ (0 : Int) then q0p (q0k l) else q10 p), V.str (ByteArray.mk #[]), V.osl 0 0]) (q3E l p d o s)) ∧ (q3s l p d o s))) ∧ ((((if q0p (q0k l) ≠ (0 : Int) then q0p (q0k l) else q10 p) != 0) = false) → ((qGQ d) ∧ ((tq (!!decide (inR d 0 9999))) ∧ ((((!!decide (inR d 0 9999)) = true) → (qKP o)) ∧ ((tq (!!decide (inR d 0 9999))) ∧ (((true = true) → (((!decide (inR d 0 9999)) = false) → ((!!decide (inR d 0 9999)) = true))) ∧ (∀ b : Bool, ((b = bif !decide (inR d 0 9999) then true else !decide (inR o 0 9)) → (((b = true) → ((VLe (V.agg [vi 3, V.str (ByteArray.mk #[]), V.osl 0 0]) (q3E l p d o s)) ∧ (q3s l p d o s))) ∧ ((b = false) → (((q1R p (ByteArray.mk #[(47 : UInt8)]) = true) → ((VLe (V.agg [vi 1, V.str (ByteArray.mk #[]), V.osl 0 0]) (q3E l p d o s)) ∧ (q3s l p d o s))) ∧ ((q1R p (ByteArray.mk #[(47 : UInt8)]) = false) → ((qHK p) ∧ (((q9s l) ∧ (q7z (q0k l) (upF p))) ∧ ((((!isZ (q0k l) (upF p)) = true) → ((VLe (V.agg [vi 4, V.str (ByteArray.mk #[]), V.osl 0 0]) (q3E l p d o s)) ∧ (q3s l p d o s))) ∧ (((!isZ (q0k l) (upF p)) = false) → ((((0 : Int) ≤ (↑(q20 (q0k l) (upF p)) : Int)) ∧ ((↑(q20 (q0k l) (upF p)) : Int) < (↑(List.length l) : Int))) ∧ ((((q03.owner (List.getD l (q1u l p) default) != 0) = true) → ((VLe (V.agg [vi 8, V.str (ByteArray.mk #[]), V.osl 0 0]) (q3E l p d o s)) ∧ (q3s l p d o s))) ∧ (((q03.owner (List.getD l (q1u l p) default) != 0) = false) → (((q9s l) ∧ (qAX (q0k l))) ∧ (((s = true) → ((qBN l p) ∧ ((q8K l p) ∧ ((((q03.next (List.getD (q0g (q0k l)) (q1u l p) default) == 100) = true) → ((VLe (V.agg [vi 3, V.str (ByteArray.mk #[]), V.osl 0 0]) (q3E l p d o s)) ∧ (q3s l p d o s))) ∧ (((q03.next (List.getD (q0g (q0k l)) (q1u l p) default) == 100) = false) → ((qBN l p) ∧ ((q8K l p) ∧ ((qQy (q35 p) (q4m l p)) ∧ ((((qDt l p) = true) → ((VLe (V.agg [vi (q0q.code (if ¬q4C (q35 p) then q0q.mk (5 : Int) q1Q else if ¬inR (q4m l p) (0 : Int) (99 : Int) then q0q.mk (3 : Int) q1Q else if ¬q4C (q42 (q35 p) (q4m l p)) then q0q.mk (5 : Int) q1Q else q0q.mk (0 : Int) (q42 (q35 p) (q4m l p)))), V.str (ByteArray.mk #[]), V.osl 0 0]) (q3E l p d o s)) ∧ (q3s l p d o s))) ∧ (((qDt l p) = false) → ((qR0 (upF p) (q3b l p)) ∧ ((qHW (q1n (upF p) (q3b l p))) ∧ ((((q10 (q1n (upF p) (q3b l p)) != 0) = true) → ((VLe (V.agg [vi (q10 (q1n (upF p) (q3b l p))), V.str (ByteArray.mk #[]), V.osl 0 0]) (q3E l p d o s)) ∧ (q3s l p d o s))) ∧ (((q10 (q1n (upF p) (q3b l p)) != 0) = false) → ((qBN l p) ∧ ((q8K l p) ∧ ((inK IntKind.i64 (q03.next (List.getD (q0g (q0k l)) (q1u l p) default) + (1 : Int))) ∧ ((qBN l p) ∧ ((q8K l p) ∧ (((VLe (qGx l p) (q0H (q00 1) 1 (q41 l p))) ∧ (q7z (q41 l p) (q1n (upF p) (q3b l p)))) ∧ (((isZ (q41 l p) (q1n (upF p) (q3b l p)) = true) → ((VLe (V.agg [vi 6, V.str (ByteArray.mk #[]), V.osl 0 0]) (q3E l p d o s)) ∧ (q3s l p d o s))) ∧ ((isZ (q41 l p) (q1n (upF p) (q3b l p)) = false) → ((((q83 l) = true) → ((VLe (V.agg [vi 2, V.str (ByteArray.mk #[]), V.osl 0 0]) (q3E l p d o s)) ∧ (q3s l p d o s))) ∧ (((q83 l) = false) → ((((0 = 0) ∧ ((5 = 5) ∧ ((100 = 100) ∧ ((List.length (q0g (q0k l)) = List.length (q0g (q0k l))) ∧ (∀ i : Nat, ((i < List.length (q0g (q0k l))) → (ELe (V.agg (V.str (bif Nat.beq i (q1u l p) then q03.path (List.getD (q0g (q0k l)) (q1u l p) default) else q03.path (List.getD (q0g (q0k l)) i default)) :: vi (bif Nat.beq i (q1u l p) then q03.data (List.getD (q0g (q0k l)) (q1u l p) default) else q03.data (List.getD (q0g (q0k l)) i default)) :: vi (bif Nat.beq i (q1u l p) then q03.version (List.getD (q0g (q0k l)) (q1u l p) default) else q03.version (List.getD (q0g (q0k l)) i default)) :: vi (bif Nat.beq i (q1u l p) then q03.owner (List.getD (q0g (q0k l)) (q1u l p) default) else q03.owner (List.getD (q0g (q0k l)) i default)) :: vi (bif Nat.beq i (q1u l p) then q03.next (List.getD (q0g (q0k l)) (q1u l p) default) + (1 : Int) else q03.next (List.getD (q0g (q0k l)) i default)) :: (bif (Nat.beq i (q1u l p)) then [] else []))) (q00 1 (List.getD (q41 l p) i default))))))))) ∧ (((1 = 1) ∧ ((5 = 5) ∧ ((100 = 100) ∧ ((1 = 1) ∧ (∀ i : Nat, ((i < 1) → (ELe (q2o [V.agg [V.str (q1n (upF p) (q3b l p)), vi d, vi 0, vi o, vi 0]] i) (q00 1 (List.getD (q9l l p d o) i default))))))))) ∧ (qPA (q41 l p) (↑(q20 (q41 l p) (q1n (upF p) (q3b l p))) : Int) (q9l l p d o)))) ∧ ((VLe (V.agg [vi 0, V.str (q1n (upF p) (q3b l p)), V.osl 0 (List.length (qDz l p d o))]) (q3E l p d o s)) ∧ ((BLe (Blk.arr 5 (List.length (qDz l p d o)) (gL (q00 1) (qDz l p d o)) 100) (q9p l p d o s)) ∧ (True)))))))))))))))))))))))))))) ∧ ((s = false) → (((VLe (q0H (q00 1) 1 (q0g (q0k l))) (q0H (q00 1) 1 (q3S l))) ∧ (q7z (q3S l) p)) ∧ (((isZ (q3S l) p = true) → ((VLe (V.agg [vi 6, V.str (ByteArray.mk #[]), V.osl 0 0]) (q3E l p d o s)) ∧ (q3s l p d o s))) ∧ ((isZ (q3S l) p = false) → ((((q83 l) = true) → ((VLe (V.agg [vi 2, V.str (ByteArray.mk #[]), V.osl 0 0]) (q3E l p d o s)) ∧ (q3s l p d o s))) ∧ (((q83 l) = false) → ((((0 = 0) ∧ ((5 = 5) ∧ ((100 = 100) ∧ ((List.length (q0g (q0k l)) = List.length (q0g (q0k l))) ∧ (∀ i : Nat, ((i < List.length (q0g (q0k l))) → (ELe (q00 1 (List.getD (q0g (q0k l)) i default)) (q00 1 (List.getD (q3S l) i default))))))))) ∧ (((1 = 1) ∧ ((5 = 5) ∧ ((100 = 100) ∧ ((1 = 1) ∧ (∀ i : Nat, ((i < 1) → (ELe (q2o [V.agg [V.str p, vi d, vi 0, vi o, vi 0]] i) (q00 1 (List.getD (q6t p d o) i default))))))))) ∧ (qPA (q3S l) (↑(q20 (q3S l) p) : Int) (q6t p d o)))) ∧ ((VLe (V.agg [vi 0, V.str p, V.osl 0 (List.length (q68 (q3S l) (↑(q20 (q3S l) p) : Int) (q6t p d o)))]) (q3E l p d o s)) ∧ ((BLe (Blk.arr 5 (List.length (q68 (q3S l) (↑(q20 (q3S l) p) : Int) (q6t p d o))) (gL (q00 1) (q68 (q3S l) (↑(q20 (q3S l) p) : Int) (q6t p d o))) 100) (q9p l p d o s)) ∧ (True))))))))))))))))))))))))))))))))) := by
  delta q9s; delta q83; delta q8K; delta q6t; delta qDt; delta qDz; delta q9l; delta q41; delta qBN; delta q3S; delta q3E; delta q3s; delta q9p; delta q3b; delta q4m; delta qGx; delta q1u; delta q0k; delta vi
  obtain ⟨ht, hp⟩ := hpre
  obtain ⟨hl, hr, hn⟩ := q2L ht
  have hl2 : l.length ≤ maxLen := by unfold maxLen; omega
  have kp := qMU ht
  have zc := zc0 ht hp
  have hpp := q3p hp
  have hps := q6g hp
  have ea := q9K hr (upF p)
  have lt0 := q3e hr (upF p)
  simp only [q0s, q11, zc, q16, Int.toNat_natCast, q0g]
  generalize hU : upF p = u at *
  generalize hM : q35 p = m at *
  have hup := qKX p
  have hnp := qEs (q4b hpp).1
  rw [hU] at hup
  rw [hM] at hnp
  have eN : ∀ x, x = q2I l p d o s → x = q2I l p d o s := fun _ h => h
  refine ⟨⟨VLe.refl _, hl2⟩, fun h => absurd h (by decide), fun _ => ⟨trivial, tqI _, fun _ => trivial, tqI _, fun _ h => by simpa using h, fun b hb => ⟨fun h => qDE ?_, fun h => ⟨fun h2 => qDE ?_, fun h2 => ⟨⟨by omega, hpp⟩, ⟨VLe.refl _, hr, by omega⟩, fun h3 => qDE ?_, fun h3 => ?_⟩⟩⟩⟩⟩
  all_goals rw [h, inB] at hb
  ·show q2I l p d o s = _
   unfold q2I
   rw [if_pos (of_decide_eq_true hb.symm)]
  all_goals have c1 := of_decide_eq_false hb.symm
  ·show q2I l p d o s = _
   unfold q2I
   rw [if_neg c1, if_pos (of_decide_eq_true h2)]
  all_goals have c2 := of_decide_eq_false h2
  ·show q2I l p d o s = _
   unfold q2I
   rw [if_neg c1, if_neg c2, if_pos (by rw [hU]; exact lt0.2 (by simpa using h3))]
  have hz : isZ l u = true := by simpa using h3
  obtain ⟨q1, q2, q3⟩ := q5G hr hz
  have c3 : ¬ atN l (upF p) < 0 := fun g => by rw [hU] at g; rw [lt0.1 g] at hz; cases hz
  have e4 : upN l p = q20 l u := by unfold upN; rw [hU, q1]
  generalize hK : q20 l u = k at *
  refine ⟨⟨by omega, by omega⟩, fun h4 => qDE ?_, fun h4 => ⟨⟨VLe.refl _, by show l.length ≤ 1000; omega⟩, fun h5 => ?_, fun h5 => ?_⟩⟩
  ·show q2I l p d o s = _
   unfold q2I
   rw [if_neg c1, if_neg c2, if_neg c3, e4, if_pos (by simpa using h4)]
  all_goals have c4 : ¬ (l.getD k default).owner ≠ 0 := by simpa using h4
  ·have hz : inR (l.getD k default).next 0 100 := (hn _ (q4A q2)).2.2.2.2.2.2
   have hmp : 1 ≤ m.size := hM ▸ qON hp c2
   refine ⟨⟨by omega, by omega⟩, q2, fun h6 => qDE ?_, fun h6 => ?_⟩
   ·show q2I l p d o s = _
    have : (l.getD k default).next = 100 := eq_of_beq h6
    unfold q2I
    rw [if_neg c1, if_neg c2, if_neg c3, e4, if_neg c4, h5, if_neg (by decide), if_pos (by show 100 ≤ (l.getD k default).next; omega)]
   have c6 : ¬ (l.getD k default).next = 100 := by simpa using h6
   have ez : q2I l p d o s = if ¬ q4C (q42 m (l.getD k default).next) then ⟨5, q1Q, []⟩
     else if q10 (q1n u (q42 m (l.getD k default).next)) ≠ 0 then ⟨q10 (q1n u (q42 m (l.getD k default).next)), q1Q, []⟩
     else q4q l (q3Q l k) (q1n u (q42 m (l.getD k default).next)) d o := by
    unfold q2I
    unfold inR at hz
    rw [if_neg c1, if_neg c2, if_neg c3, e4, if_neg c4, h5, if_neg (by decide), if_neg (by show ¬ 100 ≤ (l.getD k default).next; omega), hU, hM]
   have hr9 : inR (l.getD k default).next 0 99 := by unfold inR at hz ⊢; omega
   have es : (if ¬ q4C m then (⟨5, q1Q⟩ : q0q) else if ¬ inR (l.getD k default).next 0 99 then ⟨3, q1Q⟩ else if ¬ q4C (q42 m (l.getD k default).next) then ⟨5, q1Q⟩ else ⟨0, q42 m (l.getD k default).next⟩) = if ¬ q4C (q42 m (l.getD k default).next) then ⟨5, q1Q⟩ else ⟨0, q42 m (l.getD k default).next⟩ := by
    by_cases a : q4C m
    ·rw [if_neg (not_not_intro a), if_neg (not_not_intro hr9)]
    ·rw [if_pos a, if_pos fun g => a (qWi hmp g)]
   simp only [es]
   have hs := q8U m (l.getD k default).next
   generalize q42 m (l.getD k default).next = q at *
   by_cases a : q4C q
   ·rw [if_neg (not_not_intro a)]
    rw [if_neg (not_not_intro a)] at ez
    have hj : (q1n u q).size ≤ 1000 := by
     unfold q1n
     split <;> simp only [ByteArray.size_append] <;> (have t1 : (top : ByteArray).size = 1 := rfl) <;> omega
    have el : ∀ t, q0M q04 (.sl l.length (q5d (gL (q00 1) l) k (.agg [.str (l.getD k default).path, .int .i64 (l.getD k default).data, .int .i64 (l.getD k default).version, .int .i64 (l.getD k default).owner, .int .i64 ((l.getD k default).next + 1)])) t) = q3Q l k := fun t => qIV rfl
    have hcr := qOF hr k
    have hcl := qAw l k
    simp only [el, qV9, qHV]
    unfold inR at hz
    refine ⟨⟨by omega, by omega⟩, q2, by show m.size ≤ 900; omega, fun h7 => absurd h7 (by decide), fun h7 => ⟨⟨by omega, by omega⟩, trivial, fun h8 => qDE ?_, fun h8 => ⟨⟨by omega, by omega⟩, q2, q0U (by omega), ⟨by omega, by omega⟩, q2, ⟨qLh q2 rfl, hcr, by show (q3Q l k).length ≤ 1000; omega⟩, fun h9 => qDE ?_, fun h9 => ⟨fun h10 => qDE ?_, fun h10 => ?_⟩⟩⟩⟩
    ·exact ez.trans (if_pos (by simpa using h8))
    all_goals
     have c8 : ¬ q10 (q1n u q) ≠ 0 := by simpa using h8
     rw [if_neg c8] at ez
    ·exact qHw (x := q3m l p d o s) ez (pz1 hr h9)
    ·exact qHY (x := q3m l p d o s) ez (pz0 hr h9) (t20 h10)
    ·have eq : q3m l p d o s = _ := qIL ez (pz0 hr h9) (f20 hl h10)
     have ew : q0M q04 (.sl 1 (q2o [.agg [.str (q1n u q), .int .i64 d, .int .i64 0, .int .i64 o, .int .i64 0]]) 1) = [⟨q1n u q, d, 0, o, 0⟩] := rfl
     have e2 : q68 (q3Q l k) (q20 l (q1n u q) : Int) [⟨q1n u q, d, 0, o, 0⟩] = qKx (q3Q l k) ⟨q1n u q, d, 0, o, 0⟩ := qPu (qHV l k _).symm
     have hpl : q20 l (q1n u q) ≤ l.length := q7G
     rw [ew, eq, e2]
     refine ⟨⟨⟨trivial, trivial, trivial, trivial, fun i hi => ELe.of_eq (qXX (z := ⟨(l.getD k default).path, (l.getD k default).data, (l.getD k default).version, (l.getD k default).owner, (l.getD k default).next + 1⟩) rfl i hi)⟩, ⟨trivial, trivial, trivial, trivial, fun i hi => ?_⟩, ⟨by omega, by rw [hcl]; omega, Nat.one_pos, by show (q3Q l k).length + 1 ≤ 1000; omega⟩⟩, VLe.refl _, BLe.refl _, trivial⟩
     have : i = 0 := by omega
     subst this
     exact ELe.refl _
   ·rw [if_pos a]
    rw [if_pos a] at ez
    refine ⟨⟨by omega, by omega⟩, q2, by show m.size ≤ 900; omega, fun h7 => qDE ez, fun h7 => absurd h7 (by decide)⟩
  ·have ez : q2I l p d o s = q4q l l p d o := by
    unfold q2I
    rw [if_neg c1, if_neg c2, if_neg c3, e4, if_neg c4, h5, if_pos rfl]
   refine ⟨⟨VLe.refl _, hr, by omega⟩, fun h9 => qDE (qHw (x := q3m l p d o s) ez (pz1 hr h9)), fun h9 => ⟨fun h10 => qDE (qHY (x := q3m l p d o s) ez (pz0 hr h9) (t20 h10)), fun h10 => ?_⟩⟩
   have eq : q3m l p d o s = _ := qIL ez (pz0 hr h9) (f20 hl h10)
   have ew : q0M q04 (.sl 1 (q2o [.agg [.str p, .int .i64 d, .int .i64 0, .int .i64 o, .int .i64 0]]) 1) = [⟨p, d, 0, o, 0⟩] := rfl
   have e2 : q68 l (q20 l p : Int) [⟨p, d, 0, o, 0⟩] = qKx l ⟨p, d, 0, o, 0⟩ := qPu rfl
   have hpl : q20 l p ≤ l.length := q7G
   rw [ew, eq, e2]
   refine ⟨⟨⟨trivial, trivial, trivial, trivial, fun i hi => ELe.refl _⟩, ⟨trivial, trivial, trivial, trivial, fun i hi => ?_⟩, ⟨by omega, by omega, Nat.one_pos, by show l.length + 1 ≤ 1000; omega⟩⟩, VLe.refl _, BLe.refl _, trivial⟩
   have : i = 0 := by omega
   subst this
   exact ELe.refl _
 exact Eq.mp (by kernel_rfl) key
theorem qVo : q0T Tryz.prog 181 qLJ := by
 refine q0V q1C (tpl := [(2, 5)]) Tryz.func181 rfl (by kernel_rfl) fun args bin ob r bout hDe hob => ?_
 unfold qLJ at hDe
 split at hDe
 ·rename_i a0 a1 a2 a3 a4
  cases hDe
  exact okQ (qXM ((q0M q04) a0) a1 a2 a3 a4 (hob.2)) qX9 (args_of_vles ⟨hob.1, VLe.refl _, VLe.refl _, VLe.refl _, VLe.refl _, trivial⟩) trivial
 ·cases hDe
def qDM (t : Nat) (s : ByteArray) : V := .ptr [.str s] 0 t
def q1A : V → ByteArray
 | .ptr (c :: _) _ _ => qNl c
 | _ => q1Q
@[simp] theorem qSL (t : Nat) (s : ByteArray) : q1A (qDM t s) = s := rfl
@[irreducible] def q49 (s sub : ByteArray) : Int := Lib.indexByte s.data.toList (q0c sub 0).toNat.toUInt8
@[irreducible] def qDv (k : Int) : ByteArray :=
 if k = 3 then ⟨#[112, 100, 115, 111]⟩ else if k = 4 then ⟨#[112, 118]⟩ else if k = 5 then ⟨#[112, 100, 118]⟩ else if k = 6 then ⟨#[112]⟩ else if k = 7 then ⟨#[112]⟩ else if k = 8 then ⟨#[112, 118]⟩ else ⟨#[]⟩
@[irreducible] def x0d (k : Int) : ByteArray :=
 if k = 1 then ⟨#[111, 112, 101, 110]⟩ else if k = 2 then ⟨#[99, 108, 111, 115, 101]⟩ else if k = 3 then ⟨#[99, 114, 101, 97, 116, 101]⟩ else if k = 4 then ⟨#[100, 101, 108, 101, 116, 101]⟩ else if k = 5 then ⟨#[115, 101, 116]⟩ else if k = 6 then ⟨#[103, 101, 116]⟩ else if k = 7 then ⟨#[107, 105, 100, 115]⟩ else if k = 8 then ⟨#[99, 104, 101, 99, 107]⟩ else ⟨#[]⟩
theorem qP0 {s : ByteArray} (h : s.size = 1) : ∃ c, s = ⟨#[c]⟩ := by
 rcases s with ⟨⟨l⟩⟩
 match l, h with
 | [c], _ => exact ⟨c, rfl⟩
theorem qO8 (c : UInt8) : q49 ⟨#[c]⟩ ⟨#[c]⟩ = 0 := by
 unfold q49 q0c
 simp [Lib.indexByte]
def qKC (s : ByteArray) (c : Int) : Prop := True
noncomputable def qQM (s : ByteArray) (c : Int) : V := .int .i64 (Lib.indexByte s.data.toList c.toNat.toUInt8)
noncomputable def qLp : q0G := fun args bin => match args, bin with
 | [.str a0, .int .u8 a1], [] => some (qKC a0 a1, qQM a0 a1, [])
 | _, _ => none
noncomputable def qU6 : Nat → Option (Fl × q0G) := lk [(291, (.ro, qRm))]
theorem qUP : q0D Tryz.prog qU6 := q01 qXj (q07)
noncomputable def qXJ (s : ByteArray) (c : Int) : Cx := ⟨tt, qU6, Tryz.f282.ntmps, [0, 1, 4], [], [], fun _ => none, [], noM, []⟩
theorem qUX (s : ByteArray) (c : Int) (hpre : qKC s c) : q0f (qXJ s c) Tryz.f282 0 [.str (s), .int .u8 (c)] (fun rr => VLe rr (qQM s c)) := by
 have key : ((True) ∧ (VLe (vi (Lib.indexByte (Array.toList (ByteArray.data s)) (Nat.toUInt8 (Int.toNat c)))) (vi (Lib.indexByte (Array.toList (ByteArray.data s)) (Nat.toUInt8 (Int.toNat c)))))) := by
  delta vi
  exact ⟨trivial, VLe.refl _⟩
 exact Eq.mp (by kernel_rfl) key
theorem qV3 : q0T Tryz.prog 282 qLp := by
 refine q09 q1C (pol := 0) Tryz.func282 rfl (by kernel_rfl) fun args bin ob r bout hDe hob => ?_
 unfold qLp at hDe
 split at hDe
 ·rename_i a0 a1
  cases hDe
  exact okB (qUX a0 a1 (hob)) qUP (args_of_vles ⟨VLe.refl _, VLe.refl _, trivial⟩)
 ·cases hDe
def qNC (s : ByteArray) (sub : ByteArray) : Prop := sub.size = 1
noncomputable def qPn (s : ByteArray) (sub : ByteArray) : V := .int .i64 (q49 s sub)
noncomputable def qN6 : q0G := fun args bin => match args, bin with
 | [.str a0, .str a1], [] => some (qNC a0 a1, qPn a0 a1, [])
 | _, _ => none
noncomputable def qVd : Nat → Option (Fl × q0G) := lk [(282, (.ro, qLp))]
theorem qXD : q0D Tryz.prog qVd := q01 qV3 (q07)
noncomputable def qWy (s : ByteArray) (sub : ByteArray) : Cx := ⟨tt, qVd, Tryz.f267.ntmps, [0, 1, 4, 5, 6, 7, 8, 9, 10, 11, 12, 13, 16, 24, 31, 36, 59, 64, 73, 93, 107, 114, 132, 139], [], [6], fun _ => none, [], noM, []⟩
noncomputable def q5j (sub : ByteArray) : Int := (↑(ByteArray.size sub) : Int)
theorem qUZ (s : ByteArray) (sub : ByteArray) (hpre : qNC s sub) : q0f (qWy s sub) Tryz.f267 0 [.str (s), .str (sub)] (fun rr => VLe rr (qPn s sub)) := by
 have key : ((tq (!(q5j sub) == (0 : Int))) ∧ ((tq (!(q5j sub) == (0 : Int))) ∧ (((true = true) → ((((q5j sub) == (0 : Int)) = false) → ((!(q5j sub) == (0 : Int)) = true))) ∧ (∀ b : Bool, ((b = bif (q5j sub) == (0 : Int) then true else q1R sub s) → (((b = true) → (VLe (vi 0) (vi (q49 s sub)))) ∧ ((b = false) → (((((q5j sub) == (1 : Int)) = true) → ((((0 : Int) ≤ (0 : Int)) ∧ ((0 : Int) < (q5j sub))) ∧ ((qKC s (q0c sub (0 : Int))) ∧ (VLe (vi (Lib.indexByte (Array.toList (ByteArray.data s)) (Nat.toUInt8 (Int.toNat (q0c sub (0 : Int)))))) (vi (q49 s sub)))))) ∧ ((((q5j sub) == (1 : Int)) = false) → (False)))))))))) := by
  delta q5j; delta vi
  have h1 : sub.size = 1 := hpre
  obtain ⟨c, rfl⟩ := qP0 h1
  simp only [h1]
  refine ⟨tqI _, tqI _, fun _ _ => rfl, fun b hb => ⟨fun h => ?_, fun h => ⟨fun _ => ⟨by decide, trivial, q0J (by unfold q49; rfl)⟩, fun h => by simp at h⟩⟩⟩
  rw [h] at hb
  have e : (⟨#[c]⟩ : ByteArray) = s := by simpa [q16] using hb
  subst e
  exact q0J (qO8 c).symm
 exact Eq.mp (by kernel_rfl) key
theorem qXP : q0T Tryz.prog 267 qN6 := by
 refine q09 q1C (pol := 0) Tryz.func267 rfl (by kernel_rfl) fun args bin ob r bout hDe hob => ?_
 unfold qN6 at hDe
 split at hDe
 ·rename_i a0 a1
  cases hDe
  exact okB (qUZ a0 a1 (hob)) qXD (args_of_vles ⟨VLe.refl _, VLe.refl _, trivial⟩)
 ·cases hDe
def qNd (s : ByteArray) (sub : ByteArray) : Prop := sub.size = 1
noncomputable def qQ1 (s : ByteArray) (sub : ByteArray) : V := .int .i64 (q49 s sub)
noncomputable def qKv : q0G := fun args bin => match args, bin with
 | [.str a0, .str a1], [] => some (qNd a0 a1, qQ1 a0 a1, [])
 | _, _ => none
noncomputable def qVk : Nat → Option (Fl × q0G) := lk [(267, (.ro, qN6))]
theorem qWM : q0D Tryz.prog qVk := q01 qXP (q07)
noncomputable def qVX (s : ByteArray) (sub : ByteArray) : Cx := ⟨tt, qVk, Tryz.f231.ntmps, [0, 1, 4], [], [], fun _ => none, [], noM, []⟩
theorem qU1 (s : ByteArray) (sub : ByteArray) (hpre : qNd s sub) : q0f (qVX s sub) Tryz.f231 0 [.str (s), .str (sub)] (fun rr => VLe rr (qQ1 s sub)) := by
 have key : ((qNC s sub) ∧ (VLe (vi (q49 s sub)) (vi (q49 s sub)))) := by
  delta vi
  exact ⟨hpre, VLe.refl _⟩
 exact Eq.mp (by kernel_rfl) key
theorem qVh : q0T Tryz.prog 231 qKv := by
 refine q09 q1C (pol := 0) Tryz.func231 rfl (by kernel_rfl) fun args bin ob r bout hDe hob => ?_
 unfold qKv at hDe
 split at hDe
 ·rename_i a0 a1
  cases hDe
  exact okB (qU1 a0 a1 (hob)) qWM (args_of_vles ⟨VLe.refl _, VLe.refl _, trivial⟩)
 ·cases hDe
def qRj (s : ByteArray) (sub : ByteArray) : Prop := sub.size = 1
noncomputable def qUK (s : ByteArray) (sub : ByteArray) : V := .bool (decide (0 ≤ q49 s sub))
noncomputable def qQV : q0G := fun args bin => match args, bin with
 | [.str a0, .str a1], [] => some (qRj a0 a1, qUK a0 a1, [])
 | _, _ => none
noncomputable def x75 : Nat → Option (Fl × q0G) := lk [(231, (.ro, qKv))]
theorem x3m : q0D Tryz.prog x75 := q01 qVh (q07)
noncomputable def x3y (s : ByteArray) (sub : ByteArray) : Cx := ⟨tt, x75, Tryz.f174.ntmps, [0, 1, 4], [], [], fun _ => none, [], noM, []⟩
theorem x5r (s : ByteArray) (sub : ByteArray) (hpre : qRj s sub) : q0f (x3y s sub) Tryz.f174 0 [.str (s), .str (sub)] (fun rr => VLe rr (qUK s sub)) := by
 have key : ((qNd s sub) ∧ (VLe (V.bool (decide (q49 s sub ≥ (0 : Int)))) (V.bool (decide ((0 : Int) ≤ q49 s sub))))) := by
  exact ⟨hpre, VLe.refl _⟩
 exact Eq.mp (by kernel_rfl) key
theorem qYS : q0T Tryz.prog 174 qQV := by
 refine q09 q1C (pol := 0) Tryz.func174 rfl (by kernel_rfl) fun args bin ob r bout hDe hob => ?_
 unfold qQV at hDe
 split at hDe
 ·rename_i a0 a1
  cases hDe
  exact okB (x5r a0 a1 (hob)) x3m (args_of_vles ⟨VLe.refl _, VLe.refl _, trivial⟩)
 ·cases hDe
def qSA (k : Int) : Prop := True
noncomputable def qVG (k : Int) : V := .tup [.str (x0d k), .str (qDv k)]
noncomputable def qSx : q0G := fun args bin => match args, bin with
 | [.int .i64 a0], [] => some (qSA a0, qVG a0, [])
 | _, _ => none
noncomputable def x6e : Nat → Option (Fl × q0G) := lk []
theorem x28 : q0D Tryz.prog x6e := q07
noncomputable def x5k (k : Int) : Cx := ⟨tt, x6e, Tryz.f172.ntmps, [0, 2, 3, 4, 5, 7, 9, 11, 13, 15, 17, 19], [], [], fun _ => none, [], noM, []⟩
noncomputable def q6z (k : Int) : V := (V.tup [V.str (x0d k), V.str (qDv k)])
theorem x4M (k : Int) (hpre : qSA k) : q0f (x5k k) Tryz.f172 0 [.int .i64 (k)] (fun rr => VLe rr (qVG k)) := by
 have key : ((((k == 1) = true) → (VLe (V.tup [V.str (ByteArray.mk #[(111 : UInt8), (112 : UInt8), (101 : UInt8), (110 : UInt8)]), V.str (ByteArray.mk #[])]) (q6z k))) ∧ (((k == 1) = false) → ((((k == 2) = true) → (VLe (V.tup [V.str (ByteArray.mk #[(99 : UInt8), (108 : UInt8), (111 : UInt8), (115 : UInt8), (101 : UInt8)]), V.str (ByteArray.mk #[])]) (q6z k))) ∧ (((k == 2) = false) → ((((k == 3) = true) → (VLe (V.tup [V.str (ByteArray.mk #[(99 : UInt8), (114 : UInt8), (101 : UInt8), (97 : UInt8), (116 : UInt8), (101 : UInt8)]), V.str (ByteArray.mk #[(112 : UInt8), (100 : UInt8), (115 : UInt8), (111 : UInt8)])]) (q6z k))) ∧ (((k == 3) = false) → ((((k == 4) = true) → (VLe (V.tup [V.str (ByteArray.mk #[(100 : UInt8), (101 : UInt8), (108 : UInt8), (101 : UInt8), (116 : UInt8), (101 : UInt8)]), V.str (ByteArray.mk #[(112 : UInt8), (118 : UInt8)])]) (q6z k))) ∧ (((k == 4) = false) → ((((k == 5) = true) → (VLe (V.tup [V.str (ByteArray.mk #[(115 : UInt8), (101 : UInt8), (116 : UInt8)]), V.str (ByteArray.mk #[(112 : UInt8), (100 : UInt8), (118 : UInt8)])]) (q6z k))) ∧ (((k == 5) = false) → ((((k == 6) = true) → (VLe (V.tup [V.str (ByteArray.mk #[(103 : UInt8), (101 : UInt8), (116 : UInt8)]), V.str (ByteArray.mk #[(112 : UInt8)])]) (q6z k))) ∧ (((k == 6) = false) → ((((k == 7) = true) → (VLe (V.tup [V.str (ByteArray.mk #[(107 : UInt8), (105 : UInt8), (100 : UInt8), (115 : UInt8)]), V.str (ByteArray.mk #[(112 : UInt8)])]) (q6z k))) ∧ (((k == 7) = false) → ((((k == 8) = true) → (VLe (V.tup [V.str (ByteArray.mk #[(99 : UInt8), (104 : UInt8), (101 : UInt8), (99 : UInt8), (107 : UInt8)]), V.str (ByteArray.mk #[(112 : UInt8), (118 : UInt8)])]) (q6z k))) ∧ (((k == 8) = false) → (VLe (V.tup [V.str (ByteArray.mk #[]), V.str (ByteArray.mk #[])]) (q6z k)))))))))))))))))) := by
  delta q6z
  refine ⟨fun h => ?_, fun h1 => ⟨fun h => ?_, fun h2 => ⟨fun h => ?_, fun h3 => ⟨fun h => ?_, fun h4 => ⟨fun h => ?_, fun h5 => ⟨fun h => ?_, fun h6 => ⟨fun h => ?_, fun h7 => ⟨fun h => ?_, fun h9 => ?_⟩⟩⟩⟩⟩⟩⟩⟩
  all_goals (unfold x0d qDv; simp_all)
 exact Eq.mp (by kernel_rfl) key
theorem x1n : q0T Tryz.prog 172 qSx := by
 refine q09 q1C (pol := 0) Tryz.func172 rfl (by kernel_rfl) fun args bin ob r bout hDe hob => ?_
 unfold qSx at hDe
 split at hDe
 ·rename_i a0
  cases hDe
  exact okB (x4M a0 (hob)) x28 (args_of_vles ⟨VLe.refl _, trivial⟩)
 ·cases hDe
def qF5 (f : ByteArray) (own : ByteArray) : Prop := f.size = 1
noncomputable def qV4 (f : ByteArray) (own : ByteArray) : V := .bool (!decide (0 ≤ q49 own f))
noncomputable def qQP : q0G := fun args bin => match args, bin with
 | [.str a0, a1], [] => some (VLe a1 (qDM 1 ((q1A a1))) ∧ qF5 a0 (q1A a1), qV4 a0 (q1A a1), [])
 | _, _ => none
noncomputable def x7E : Nat → Option (Fl × q0G) := lk [(174, (.ro, qQV))]
theorem x2t : q0D Tryz.prog x7E := q01 qYS (q07)
noncomputable def x1V (f : ByteArray) (own : ByteArray) : Cx := ⟨tt, x7E, Tryz.f173.ntmps, [0, 1, 3], [], [], fun _ => none, [], noM, []⟩
theorem x2R (f : ByteArray) (own : ByteArray) (hpre : qF5 f own) : q0f (x1V f own) Tryz.f173 0 [.str (f), qDM 1 (own)] (fun rr => VLe rr (qV4 f own)) := by
 have key : ((qRj own f) ∧ (VLe (V.bool !decide ((0 : Int) ≤ q49 own f)) (V.bool !decide ((0 : Int) ≤ q49 own f)))) := by
  exact ⟨hpre, VLe.refl _⟩
 exact Eq.mp (by kernel_rfl) key
theorem x4i : q0T Tryz.prog 173 qQP := by
 refine q09 q1C (pol := 0) Tryz.func173 rfl (by kernel_rfl) fun args bin ob r bout hDe hob => ?_
 unfold qQP at hDe
 split at hDe
 ·rename_i a0 a1
  cases hDe
  exact okB (x2R a0 (q1A a1) (hob.2)) x2t (args_of_vles ⟨VLe.refl _, hob.1, trivial⟩)
 ·cases hDe
theorem orB (x y : Bool) : (bif x then true else y) = (x || y) := by cases x <;> rfl
theorem x6C (x y : Bool) : (bif x then y else false) = (x && y) := by cases x <;> rfl
theorem x1R (k : Int) : (!decide (0 ≤ q49 (qDv k) ⟨#[112]⟩)) = decide (¬ q6x k) ∧ (!decide (0 ≤ q49 (qDv k) ⟨#[100]⟩)) = decide (¬ q91 k) ∧ (!decide (0 ≤ q49 (qDv k) ⟨#[118]⟩)) = decide (¬ q94 k)
  ∧ (!decide (0 ≤ q49 (qDv k) ⟨#[115]⟩)) = decide (k ≠ 3) ∧ (!decide (0 ≤ q49 (qDv k) ⟨#[111]⟩)) = decide (k ≠ 3) := by
 by_cases h3 : k = 3
 ·subst h3
  unfold qDv q49 q6x q91 q94 inR
  refine ⟨?_, ?_, ?_, ?_, ?_⟩ <;> simp <;> decide
 by_cases h4 : k = 4
 ·subst h4
  unfold qDv q49 q6x q91 q94 inR
  refine ⟨?_, ?_, ?_, ?_, ?_⟩ <;> simp <;> decide
 by_cases h5 : k = 5
 ·subst h5
  unfold qDv q49 q6x q91 q94 inR
  refine ⟨?_, ?_, ?_, ?_, ?_⟩ <;> simp <;> decide
 by_cases h6 : k = 6
 ·subst h6
  unfold qDv q49 q6x q91 q94 inR
  refine ⟨?_, ?_, ?_, ?_, ?_⟩ <;> simp <;> decide
 by_cases h7 : k = 7
 ·subst h7
  unfold qDv q49 q6x q91 q94 inR
  refine ⟨?_, ?_, ?_, ?_, ?_⟩ <;> simp <;> decide
 by_cases h8 : k = 8
 ·subst h8
  unfold qDv q49 q6x q91 q94 inR
  refine ⟨?_, ?_, ?_, ?_, ?_⟩ <;> simp <;> decide
 have e : qDv k = ⟨#[]⟩ := by unfold qDv; simp [h3, h4, h5, h6, h7, h8]
 have nP : ¬ q6x k := fun h => by unfold q6x inR at h; omega
 have nD : ¬ q91 k := fun h => by unfold q91 at h; omega
 have nV : ¬ q94 k := fun h => by unfold q94 at h; omega
 have z : ∀ f, (!decide (0 ≤ q49 ⟨#[]⟩ f)) = true := fun f => by unfold q49; rfl
 rw [e]
 simp [z, nP, nD, nV, h3]
def qTX (o : TOp) : Prop := True
noncomputable def qX3 (o : TOp) : V := .int .i64 (opF o)
noncomputable def qT6 : q0G := fun args bin => match args, bin with
 | [a0], [] => some (VLe a0 (q1E 1 ((q17 a0))) ∧ qTX (q17 a0), qX3 (q17 a0), [])
 | _, _ => none
noncomputable def x6Z : Nat → Option (Fl × q0G) := lk [(172, (.ro, qSx)), (173, (.ro, qQP)), (120, (.ro, q8i)), (175, (.ro, qJQ)), (176, (.ro, qJ9))]
theorem x4g : q0D Tryz.prog x6Z := q01 x1n (q01 x4i (q01 qAW (q01 qOa (q01 qNu (q07)))))
noncomputable def x37 (o : TOp) : Cx := ⟨tt, x6Z, Tryz.f108.ntmps, [0, 1, 2, 4, 5, 6, 14, 62, 69, 80], [], [], fun _ => none, [], noM, []⟩
noncomputable def q1q (o : TOp) : V := (V.ptr [V.str (qDv (TOp.kind o))] 0 1)
def qAY (o : TOp) : Prop := (VLe (q1q o) (qDM 1 (q1A (q1q o))))
def qEx (o : TOp) : Prop := ((!!decide (inR (TOp.kind o) 1 8)) = true)
def qNP (o : TOp) : Prop := ((!decide ((0 : Int) ≤ q49 (q1A (q1q o)) (ByteArray.mk #[(112 : UInt8)]))) = true)
theorem qYw (o : TOp) (hpre : qTX o) : q0f (x37 o) Tryz.f108 0 [q1E 1 (o)] (fun rr => VLe rr (qX3 o)) := by
 have key : ((qSA (TOp.kind o)) ∧ ((q4w (TOp.kind o) (1 : Int) (8 : Int)) ∧ ((tq (!!decide (inR (TOp.kind o) 1 8))) ∧ (((qEx o) → ((qAY o) ∧ (qF5 (ByteArray.mk #[(112 : UInt8)]) (q1A (q1q o))))) ∧ ((tq (!!decide (inR (TOp.kind o) 1 8))) ∧ ((tq (!!decide (inR (TOp.kind o) 1 8) && !decide ((0 : Int) ≤ q49 (q1A (q1q o)) (ByteArray.mk #[(112 : UInt8)])))) ∧ ((tq (!!decide (inR (TOp.kind o) 1 8) && !decide ((0 : Int) ≤ q49 (q1A (q1q o)) (ByteArray.mk #[(112 : UInt8)])))) ∧ ((tq (!!decide (inR (TOp.kind o) 1 8))) ∧ (((qEx o) → ((qEx o) → ((qNP o) → ((!!decide (inR (TOp.kind o) 1 8) && !decide ((0 : Int) ≤ q49 (q1A (q1q o)) (ByteArray.mk #[(112 : UInt8)]))) = true)))) ∧ (∀ b : Bool, ((b = bif !decide ((0 : Int) ≤ q49 (q1A (q1q o)) (ByteArray.mk #[(112 : UInt8)])) then !q1R (TOp.path o) (ByteArray.mk #[]) else false) → (((true = true) → (((!decide (inR (TOp.kind o) 1 8)) = false) → (qEx o))) ∧ (∀ b_1 : Bool, ((b_1 = bif !decide (inR (TOp.kind o) 1 8) then true else b) → ((tq (!b_1)) ∧ ((((!b_1) = true) → ((qAY o) ∧ (qF5 (ByteArray.mk #[(100 : UInt8)]) (q1A (q1q o))))) ∧ ((tq (!b_1)) ∧ ((tq (!b_1 && !decide ((0 : Int) ≤ q49 (q1A (q1q o)) (ByteArray.mk #[(100 : UInt8)])))) ∧ ((tq (!b_1 && !decide ((0 : Int) ≤ q49 (q1A (q1q o)) (ByteArray.mk #[(100 : UInt8)])))) ∧ ((tq (!b_1)) ∧ ((((!b_1) = true) → (((!b_1) = true) → (((!decide ((0 : Int) ≤ q49 (q1A (q1q o)) (ByteArray.mk #[(100 : UInt8)]))) = true) → ((!b_1 && !decide ((0 : Int) ≤ q49 (q1A (q1q o)) (ByteArray.mk #[(100 : UInt8)]))) = true)))) ∧ (∀ b_2 : Bool, ((b_2 = bif !decide ((0 : Int) ≤ q49 (q1A (q1q o)) (ByteArray.mk #[(100 : UInt8)])) then TOp.data o != 0 else false) → (((true = true) → ((b_1 = false) → ((!b_1) = true))) ∧ (∀ b_3 : Bool, ((b_3 = bif b_1 then true else b_2) → ((tq (!b_3)) ∧ ((((!b_3) = true) → ((qAY o) ∧ (qF5 (ByteArray.mk #[(118 : UInt8)]) (q1A (q1q o))))) ∧ ((tq (!b_3)) ∧ ((tq (!b_3 && !decide ((0 : Int) ≤ q49 (q1A (q1q o)) (ByteArray.mk #[(118 : UInt8)])))) ∧ ((tq (!b_3 && !decide ((0 : Int) ≤ q49 (q1A (q1q o)) (ByteArray.mk #[(118 : UInt8)])))) ∧ ((tq (!b_3)) ∧ ((((!b_3) = true) → (((!b_3) = true) → (((!decide ((0 : Int) ≤ q49 (q1A (q1q o)) (ByteArray.mk #[(118 : UInt8)]))) = true) → ((!b_3 && !decide ((0 : Int) ≤ q49 (q1A (q1q o)) (ByteArray.mk #[(118 : UInt8)]))) = true)))) ∧ (∀ b_4 : Bool, ((b_4 = bif !decide ((0 : Int) ≤ q49 (q1A (q1q o)) (ByteArray.mk #[(118 : UInt8)])) then TOp.version o != 0 else false) → (((true = true) → ((b_3 = false) → ((!b_3) = true))) ∧ (∀ b_5 : Bool, ((b_5 = bif b_3 then true else b_4) → ((tq (!b_5)) ∧ ((((!b_5) = true) → ((qAY o) ∧ (qF5 (ByteArray.mk #[(115 : UInt8)]) (q1A (q1q o))))) ∧ ((tq (!b_5)) ∧ ((tq (!b_5 && !decide ((0 : Int) ≤ q49 (q1A (q1q o)) (ByteArray.mk #[(115 : UInt8)])))) ∧ ((tq (!b_5)) ∧ ((((!b_5) = true) → (((!b_5) = true) → (((!decide ((0 : Int) ≤ q49 (q1A (q1q o)) (ByteArray.mk #[(115 : UInt8)]))) = true) → ((!b_5 && !decide ((0 : Int) ≤ q49 (q1A (q1q o)) (ByteArray.mk #[(115 : UInt8)]))) = true)))) ∧ (∀ b_6 : Bool, ((b_6 = bif !decide ((0 : Int) ≤ q49 (q1A (q1q o)) (ByteArray.mk #[(115 : UInt8)])) then TOp.seq o else false) → (((true = true) → ((b_5 = false) → ((!b_5) = true))) ∧ (∀ b_7 : Bool, ((b_7 = bif b_5 then true else b_6) → ((tq (!b_7)) ∧ ((((!b_7) = true) → ((qAY o) ∧ (qF5 (ByteArray.mk #[(111 : UInt8)]) (q1A (q1q o))))) ∧ ((tq (!b_7)) ∧ ((tq (!b_7 && !decide ((0 : Int) ≤ q49 (q1A (q1q o)) (ByteArray.mk #[(111 : UInt8)])))) ∧ ((tq (!b_7)) ∧ ((((!b_7) = true) → (((!b_7) = true) → (((!decide ((0 : Int) ≤ q49 (q1A (q1q o)) (ByteArray.mk #[(111 : UInt8)]))) = true) → ((!b_7 && !decide ((0 : Int) ≤ q49 (q1A (q1q o)) (ByteArray.mk #[(111 : UInt8)]))) = true)))) ∧ (∀ b_8 : Bool, ((b_8 = bif !decide ((0 : Int) ≤ q49 (q1A (q1q o)) (ByteArray.mk #[(111 : UInt8)])) then TOp.own o else false) → (((true = true) → ((b_7 = false) → ((!b_7) = true))) ∧ (∀ b_9 : Bool, ((b_9 = bif b_7 then true else b_8) → (((b_9 = true) → (VLe (vi 1) (vi (opF o)))) ∧ ((b_9 = false) → (((qAY o) ∧ (qF5 (ByteArray.mk #[(112 : UInt8)]) (q1A (q1q o)))) ∧ (((qNP o) → (VLe (vi 0) (vi (opF o)))) ∧ (((!decide ((0 : Int) ≤ q49 (q1A (q1q o)) (ByteArray.mk #[(112 : UInt8)]))) = false) → ((qHW (TOp.path o)) ∧ ((((q10 (TOp.path o) != 0) = true) → (VLe (vi (q10 (TOp.path o))) (vi (opF o)))) ∧ (((q10 (TOp.path o) != 0) = false) → ((qGQ (TOp.data o)) ∧ ((tq (!!decide (inR (TOp.data o) 0 9999))) ∧ ((tq (!!decide (inR (TOp.data o) 0 9999))) ∧ ((((!!decide (inR (TOp.data o) 0 9999)) = true) → (q4w (TOp.version o) (-1 : Int) (999 : Int))) ∧ ((tq (!!decide (inR (TOp.data o) 0 9999))) ∧ (((true = true) → (((!decide (inR (TOp.data o) 0 9999)) = false) → ((!!decide (inR (TOp.data o) 0 9999)) = true))) ∧ (∀ b_10 : Bool, ((b_10 = bif !decide (inR (TOp.data o) 0 9999) then true else !decide (inR (TOp.version o) (-1) 999)) → (((b_10 = true) → (VLe (vi 3) (vi (opF o)))) ∧ ((b_10 = false) → (VLe (vi 0) (vi (opF o))))))))))))))))))))))))))))))))))))))))))))))))))))))))))))))))))))))))))))))))) := by
  delta qNP; delta qEx; delta qAY; delta q1q; delta vi
  have e0 : q1A (.ptr [.str (qDv o.kind)] 0 1) = qDv o.kind := rfl
  obtain ⟨eP, eD, eV, eS, eO⟩ := x1R o.kind
  simp only [e0, eP, eD, eV, eS, eO, q16]
  refine ⟨trivial, trivial, ?_⟩
  repeat (first | refine And.intro (tqI _) ?_ | refine And.intro (fun _ => ⟨VLe.refl _, rfl⟩) ?_ | refine And.intro (fun h _ g => by rw [h, g]; rfl) ?_ | refine And.intro (fun _ h => by rw [h]; rfl) ?_ | intro b hb)
  subst_vars
  simp only [orB, x6C]
  have hW : (!decide (inR o.kind 1 8) || decide ¬q6x o.kind && !decide (o.path = ⟨#[]⟩) || decide ¬q91 o.kind && o.data != 0 || decide ¬q94 o.kind && o.version != 0 || decide (o.kind ≠ 3) && o.seq || decide (o.kind ≠ 3) && o.own) = true ↔
    (¬ okK o.kind ∨ (¬ q6x o.kind ∧ o.path ≠ q1Q) ∨ (¬ q91 o.kind ∧ o.data ≠ 0) ∨ (¬ q94 o.kind ∧ o.version ≠ 0) ∨ (o.kind ≠ 3 ∧ (o.seq = true ∨ o.own = true))) := by
   simp only [Bool.or_eq_true, Bool.and_eq_true, Bool.not_eq_true', decide_eq_true_eq, decide_eq_false_iff_not, bne_iff_ne, or_assoc, and_or_left]
   rfl
  refine ⟨fun h => q0J ?_, fun h => ?_⟩
  ·unfold opF
   rw [if_pos (hW.1 h)]
  have hN := fun g => (show False from by rw [hW.2 g] at h; cases h)
  refine ⟨⟨VLe.refl _, rfl⟩, fun h2 => q0J ?_, fun h2 => ⟨trivial, fun h3 => q0J ?_, fun h3 => ⟨trivial, tqI _, tqI _, fun _ => trivial, tqI _, fun _ h => by rw [h]; rfl, fun b hb => ⟨fun h4 => q0J ?_, fun h4 => q0J ?_⟩⟩⟩⟩
  ·unfold opF
   rw [if_neg hN, if_pos (of_decide_eq_true h2)]
  ·unfold opF
   rw [if_neg hN, if_neg (of_decide_eq_false h2), if_pos (by simpa using h3)]
  ·rw [h4] at hb
   unfold opF
   rw [if_neg hN, if_neg (of_decide_eq_false h2), if_neg (by simpa using h3), if_pos]
   rintro ⟨a1, a2⟩
   rw [decide_eq_true a1, decide_eq_true a2] at hb
   cases hb
  ·rw [h4] at hb
   unfold opF
   rw [if_neg hN, if_neg (of_decide_eq_false h2), if_neg (by simpa using h3), if_neg]
   intro g
   apply g
   by_cases a1 : inR o.data 0 9999
   ·by_cases a2 : inR o.version (-1) 999
    ·exact ⟨a1, a2⟩
    ·rw [decide_eq_true a1, decide_eq_false a2] at hb; cases hb
   ·rw [decide_eq_false a1] at hb; cases hb
 exact Eq.mp (by kernel_rfl) key
theorem qYY : q0T Tryz.prog 108 qT6 := by
 refine q09 q1C (pol := 0) Tryz.func108 rfl (by kernel_rfl) fun args bin ob r bout hDe hob => ?_
 unfold qT6 at hDe
 split at hDe
 ·rename_i a0
  cases hDe
  exact okB (qYw (q17 a0) (hob.2)) x4g (args_of_vles ⟨hob.1, trivial⟩)
 ·cases hDe
def qO7 (k : Int) : Prop := True
noncomputable def qXC (k : Int) : V := .bool (decide (q6x k))
noncomputable def qSm : q0G := fun args bin => match args, bin with
 | [.int .i64 a0], [] => some (qO7 a0, qXC a0, [])
 | _, _ => none
noncomputable def x7J : Nat → Option (Fl × q0G) := lk [(151, (.ro, q9G))]
theorem x0V : q0D Tryz.prog x7J := q01 qAT (q07)
noncomputable def x5g (k : Int) : Cx := ⟨tt, x7J, Tryz.f188.ntmps, [0, 2], [], [], fun _ => none, [], noM, []⟩
theorem x00 (k : Int) (hpre : qO7 k) : q0f (x5g k) Tryz.f188 0 [.int .i64 (k)] (fun rr => VLe rr (qXC k)) := by
 have key : ((q4f k (3 : Int) (8 : Int)) ∧ (VLe (V.bool (decide (inR k 3 8))) (V.bool (decide (q6x k))))) := by
  refine ⟨trivial, q0e ?_⟩
  rw [Bool.eq_iff_iff, decide_eq_true_eq, decide_eq_true_eq]
  rfl
 exact Eq.mp (by kernel_rfl) key
theorem x4x : q0T Tryz.prog 188 qSm := by
 refine q09 q1C (pol := 0) Tryz.func188 rfl (by kernel_rfl) fun args bin ob r bout hDe hob => ?_
 unfold qSm at hDe
 split at hDe
 ·rename_i a0
  cases hDe
  exact okB (x00 a0 (hob)) x0V (args_of_vles ⟨VLe.refl _, trivial⟩)
 ·cases hDe
def qQx (k : Int) : Prop := True
noncomputable def qVg (k : Int) : V := .bool (decide (q91 k))
noncomputable def qQc : q0G := fun args bin => match args, bin with
 | [.int .i64 a0], [] => some (qQx a0, qVg a0, [])
 | _, _ => none
noncomputable def x63 : Nat → Option (Fl × q0G) := lk []
theorem x1N : q0D Tryz.prog x63 := q07
noncomputable def x4n (k : Int) : Cx := ⟨tt, x63, Tryz.f189.ntmps, [0, 2], [], [], fun _ => none, [], noM, []⟩
theorem x1k (k : Int) (hpre : qQx k) : q0f (x4n k) Tryz.f189 0 [.int .i64 (k)] (fun rr => VLe rr (qVg k)) := by
 have key : ((tq (!k == 3)) ∧ (((true = true) → (((k == 3) = false) → ((!k == 3) = true))) ∧ (∀ b : Bool, ((b = bif k == 3 then true else k == 5) → (VLe (V.bool b) (V.bool (decide (q91 k)))))))) := by
  refine ⟨tqI _, fun _ h => by rw [h]; rfl, fun b hb => q0e ?_⟩
  rw [hb, orB, Bool.eq_iff_iff, decide_eq_true_eq]
  simp [q91]
 exact Eq.mp (by kernel_rfl) key
theorem qYq : q0T Tryz.prog 189 qQc := by
 refine q09 q1C (pol := 0) Tryz.func189 rfl (by kernel_rfl) fun args bin ob r bout hDe hob => ?_
 unfold qQc at hDe
 split at hDe
 ·rename_i a0
  cases hDe
  exact okB (x1k a0 (hob)) x1N (args_of_vles ⟨VLe.refl _, trivial⟩)
 ·cases hDe
def qRh (k : Int) : Prop := True
noncomputable def qU4 (k : Int) : V := .bool (decide (q94 k))
noncomputable def qS0 : q0G := fun args bin => match args, bin with
 | [.int .i64 a0], [] => some (qRh a0, qU4 a0, [])
 | _, _ => none
noncomputable def x6m : Nat → Option (Fl × q0G) := lk []
theorem qY8 : q0D Tryz.prog x6m := q07
noncomputable def x56 (k : Int) : Cx := ⟨tt, x6m, Tryz.f190.ntmps, [0, 2], [], [], fun _ => none, [], noM, []⟩
theorem x0J (k : Int) (hpre : qRh k) : q0f (x56 k) Tryz.f190 0 [.int .i64 (k)] (fun rr => VLe rr (qU4 k)) := by
 have key : ((tq (!k == 4)) ∧ (((true = true) → (((k == 4) = false) → ((!k == 4) = true))) ∧ (∀ b : Bool, ((b = bif k == 4 then true else k == 5) → ((tq (!b)) ∧ (((true = true) → ((b = false) → ((!b) = true))) ∧ (∀ b_1 : Bool, ((b_1 = bif b then true else k == 8) → (VLe (V.bool b_1) (V.bool (decide (q94 k)))))))))))) := by
  refine ⟨tqI _, fun _ h => by rw [h]; rfl, fun b hb => ⟨tqI _, fun _ h => by rw [h]; rfl, fun c hc => q0e ?_⟩⟩
  rw [hc, hb, orB, orB, Bool.eq_iff_iff, decide_eq_true_eq]
  simp [q94, or_assoc]
 exact Eq.mp (by kernel_rfl) key
theorem qYx : q0T Tryz.prog 190 qS0 := by
 refine q09 q1C (pol := 0) Tryz.func190 rfl (by kernel_rfl) fun args bin ob r bout hDe hob => ?_
 unfold qS0 at hDe
 split at hDe
 ·rename_i a0
  cases hDe
  exact okB (x0J a0 (hob)) qY8 (args_of_vles ⟨VLe.refl _, trivial⟩)
 ·cases hDe
def qRl (o : TOp) : Prop := True
noncomputable def qUR (o : TOp) : V := .int .i64 (opF o)
noncomputable def qRe : q0G := fun args bin => match args, bin with
 | [a0], [] => some (VLe a0 (q1U 1 ((q1V a0))) ∧ qRl (q1V a0), qUR (q1V a0), [])
 | _, _ => none
noncomputable def x7v : Nat → Option (Fl × q0G) := lk [(151, (.ro, q9G)), (188, (.ro, qSm)), (189, (.ro, qQc)), (190, (.ro, qS0)), (191, (.ro, qKq)), (192, (.ro, qJ8))]
theorem qZk : q0D Tryz.prog x7v := q01 qAT (q01 x4x (q01 qYq (q01 qYx (q01 qT3 (q01 qPK (q07))))))
noncomputable def x29 (o : TOp) : Cx := ⟨tt, x7v, Tryz.f111.ntmps, [0, 2, 3, 9, 71, 76, 83, 98], [], [], fun _ => none, [], noM, []⟩
def qN7 (o : TOp) : Prop := ((qFs (TOp.data o)) ∧ ((tq (!!decide (inR (TOp.data o) 0 9999))) ∧ ((tq (!!decide (inR (TOp.data o) 0 9999))) ∧ ((tq (!!decide (inR (TOp.data o) 0 9999))) ∧ ((tq (!!decide (inR (TOp.data o) 0 9999))) ∧ ((((!!decide (inR (TOp.data o) 0 9999)) = true) → (q4f (TOp.version o) (-1 : Int) (999 : Int))) ∧ ((tq (!!decide (inR (TOp.data o) 0 9999))) ∧ (((true = true) → (((!decide (inR (TOp.data o) 0 9999)) = false) → ((!!decide (inR (TOp.data o) 0 9999)) = true))) ∧ (∀ b_8 : Bool, ((b_8 = bif !decide (inR (TOp.data o) 0 9999) then true else !decide (inR (TOp.version o) (-1) 999)) → (((b_8 = true) → (VLe (vi 3) (vi (opF o)))) ∧ ((b_8 = false) → (VLe (vi 0) (vi (opF o)))))))))))))))
theorem x4N (o : TOp) (hpre : qRl o) : q0f (x29 o) Tryz.f111 0 [q1U 1 (o)] (fun rr => VLe rr (qUR o)) := by
 have key : ((q4f (TOp.kind o) (1 : Int) (8 : Int)) ∧ ((((!decide (inR (TOp.kind o) 1 8)) = true) → (VLe (vi 1) (vi (opF o)))) ∧ (((!decide (inR (TOp.kind o) 1 8)) = false) → ((qO7 (TOp.kind o)) ∧ ((tq (!decide (q6x (TOp.kind o)))) ∧ ((tq (!decide (q6x (TOp.kind o)))) ∧ ((tq (!decide (q6x (TOp.kind o)))) ∧ ((tq (!decide (q6x (TOp.kind o)))) ∧ (((true = true) → (((!decide (q6x (TOp.kind o))) = true) → ((!decide (q6x (TOp.kind o))) = true))) ∧ (∀ b : Bool, ((b = bif !decide (q6x (TOp.kind o)) then !q1R (TOp.path o) (ByteArray.mk #[]) else false) → ((tq (!b)) ∧ ((tq (!b)) ∧ ((tq (!b)) ∧ ((tq (!b)) ∧ ((((!b) = true) → (qQx (TOp.kind o))) ∧ ((tq (!b)) ∧ ((tq (!b)) ∧ ((tq (!b && !decide (q91 (TOp.kind o)))) ∧ ((tq (!b && !decide (q91 (TOp.kind o)))) ∧ ((tq (!b && !decide (q91 (TOp.kind o)))) ∧ ((tq (!b && !decide (q91 (TOp.kind o)))) ∧ ((tq (!b)) ∧ ((((!b) = true) → (((!b) = true) → (((!decide (q91 (TOp.kind o))) = true) → ((!b && !decide (q91 (TOp.kind o))) = true)))) ∧ (∀ b_1 : Bool, ((b_1 = bif !decide (q91 (TOp.kind o)) then TOp.data o != 0 else false) → (((true = true) → ((b = false) → ((!b) = true))) ∧ (∀ b_2 : Bool, ((b_2 = bif b then true else b_1) → ((tq (!b_2)) ∧ ((tq (!b_2)) ∧ ((tq (!b_2)) ∧ ((tq (!b_2)) ∧ ((((!b_2) = true) → (qRh (TOp.kind o))) ∧ ((tq (!b_2)) ∧ ((tq (!b_2)) ∧ ((tq (!b_2 && !decide (q94 (TOp.kind o)))) ∧ ((tq (!b_2 && !decide (q94 (TOp.kind o)))) ∧ ((tq (!b_2 && !decide (q94 (TOp.kind o)))) ∧ ((tq (!b_2 && !decide (q94 (TOp.kind o)))) ∧ ((tq (!b_2)) ∧ ((((!b_2) = true) → (((!b_2) = true) → (((!decide (q94 (TOp.kind o))) = true) → ((!b_2 && !decide (q94 (TOp.kind o))) = true)))) ∧ (∀ b_3 : Bool, ((b_3 = bif !decide (q94 (TOp.kind o)) then TOp.version o != 0 else false) → (((true = true) → ((b_2 = false) → ((!b_2) = true))) ∧ (∀ b_4 : Bool, ((b_4 = bif b_2 then true else b_3) → ((tq (!b_4)) ∧ ((tq (!b_4)) ∧ ((tq (!b_4)) ∧ ((tq (!b_4)) ∧ ((tq (!b_4)) ∧ ((tq (!b_4 && TOp.kind o != 3)) ∧ ((tq (!b_4 && TOp.kind o != 3)) ∧ ((tq (!b_4 && TOp.kind o != 3)) ∧ ((tq (!b_4 && TOp.kind o != 3)) ∧ ((tq (!b_4 && TOp.kind o != 3 && !TOp.seq o)) ∧ ((tq (!b_4 && TOp.kind o != 3 && !TOp.seq o)) ∧ ((tq (!b_4 && TOp.kind o != 3 && !TOp.seq o)) ∧ ((tq (!b_4 && TOp.kind o != 3)) ∧ ((((!b_4 && TOp.kind o != 3) = true) → (((!b_4 && TOp.kind o != 3) = true) → ((TOp.seq o = false) → ((!b_4 && TOp.kind o != 3 && !TOp.seq o) = true)))) ∧ (∀ b_5 : Bool, ((b_5 = bif TOp.seq o then true else TOp.own o) → ((tq (!b_4)) ∧ ((((!b_4) = true) → (((!b_4) = true) → (((TOp.kind o != 3) = true) → ((!b_4 && TOp.kind o != 3) = true)))) ∧ (∀ b_6 : Bool, ((b_6 = bif TOp.kind o != 3 then b_5 else false) → (((true = true) → ((b_4 = false) → ((!b_4) = true))) ∧ (∀ b_7 : Bool, ((b_7 = bif b_4 then true else b_6) → (((b_7 = true) → (VLe (vi 1) (vi (opF o)))) ∧ ((b_7 = false) → ((qO7 (TOp.kind o)) ∧ (((decide (q6x (TOp.kind o)) = true) → ((qGj (TOp.path o)) ∧ ((((q10 (TOp.path o) != 0) = true) → (VLe (vi (q10 (TOp.path o))) (vi (opF o)))) ∧ (((q10 (TOp.path o) != 0) = false) → (qN7 o))))) ∧ ((decide (q6x (TOp.kind o)) = false) → (qN7 o)))))))))))))))))))))))))))))))))))))))))))))))))))))))))))))))))))))))))))) := by
  delta qN7; delta vi
  simp only [q16]
  refine ⟨trivial, fun h => q0J ?_, fun h => ⟨trivial, ?_⟩⟩
  ·unfold opF
   rw [if_pos (.inl (by simpa [okK] using h))]
  have hk : okK o.kind := by simpa [okK] using h
  repeat (first | refine And.intro (tqI _) ?_ | refine And.intro (fun _ => trivial) ?_ | refine And.intro (fun _ h => h) ?_ | refine And.intro (fun h _ g => by rw [h, g]; rfl) ?_ | refine And.intro (fun _ h => by rw [h]; rfl) ?_ | intro b hb)
  subst_vars
  simp only [orB, x6C]
  have hW : (!decide (q6x o.kind) && !decide (o.path = ⟨#[]⟩) || !decide (q91 o.kind) && o.data != 0 || !decide (q94 o.kind) && o.version != 0 || o.kind != 3 && (o.seq || o.own)) = true ↔
    (¬ okK o.kind ∨ (¬ q6x o.kind ∧ o.path ≠ q1Q) ∨ (¬ q91 o.kind ∧ o.data ≠ 0) ∨ (¬ q94 o.kind ∧ o.version ≠ 0) ∨ (o.kind ≠ 3 ∧ (o.seq = true ∨ o.own = true))) := by
   simp only [Bool.or_eq_true, Bool.and_eq_true, Bool.not_eq_true', decide_eq_true_eq, decide_eq_false_iff_not, bne_iff_ne, or_assoc, not_not_intro hk, false_or]
  refine ⟨fun h => q0J ?_, fun h => ?_⟩
  ·unfold opF
   rw [if_pos (hW.1 h)]
  have hN := fun g => (show False from by rw [hW.2 g] at h; cases h)
  have rng : ∀ b : Bool, b = (!decide (inR o.data 0 9999) || !decide (inR o.version (-1) 999)) → (b = true → ¬ (inR o.data 0 9999 ∧ inR o.version (-1) 999)) ∧ (b = false → (inR o.data 0 9999 ∧ inR o.version (-1) 999)) := fun b hb => by
   rw [hb]
   by_cases a1 : inR o.data 0 9999 <;> by_cases a2 : inR o.version (-1) 999 <;> simp [a1, a2]
  refine ⟨trivial, fun h2 => ⟨trivial, fun h3 => q0J ?_, fun h3 => ⟨trivial, tqI _, tqI _, tqI _, tqI _, fun _ => trivial, tqI _, fun _ h => by rw [h]; rfl, fun b hb => ⟨fun h4 => q0J ?_, fun h4 => q0J ?_⟩⟩⟩, fun h2 => ⟨trivial, tqI _, tqI _, tqI _, tqI _, fun _ => trivial, tqI _, fun _ h => by rw [h]; rfl, fun b hb => ⟨fun h4 => q0J ?_, fun h4 => q0J ?_⟩⟩⟩
  ·unfold opF
   rw [if_neg hN, if_neg (not_not_intro (of_decide_eq_true h2)), if_pos (by simpa using h3)]
  ·unfold opF
   rw [if_neg hN, if_neg (not_not_intro (of_decide_eq_true h2)), if_neg (by simpa using h3), if_pos ((rng b hb).1 h4)]
  ·unfold opF
   rw [if_neg hN, if_neg (not_not_intro (of_decide_eq_true h2)), if_neg (by simpa using h3), if_neg (not_not_intro ((rng b hb).2 h4))]
  ·exfalso
   have np := of_decide_eq_false h2
   have nd : ¬ q91 o.kind := fun g => np (by unfold q91 at g; unfold q6x inR; omega)
   have nv : ¬ q94 o.kind := fun g => np (by unfold q94 at g; unfold q6x inR; omega)
   have d0 : o.data = 0 := Classical.byContradiction fun g => hN (.inr (.inr (.inl ⟨nd, g⟩)))
   have v0 : o.version = 0 := Classical.byContradiction fun g => hN (.inr (.inr (.inr (.inl ⟨nv, g⟩))))
   exact (rng b hb).1 h4 ⟨by rw [d0]; decide, by rw [v0]; decide⟩
  ·unfold opF
   rw [if_neg hN, if_pos (of_decide_eq_false h2)]
 exact Eq.mp (by kernel_rfl) key
theorem x1T : q0T Tryz.prog 111 qRe := by
 refine q09 q1C (pol := 0) Tryz.func111 rfl (by kernel_rfl) fun args bin ob r bout hDe hob => ?_
 unfold qRe at hDe
 split at hDe
 ·rename_i a0
  cases hDe
  exact okB (x4N (q1V a0) (hob.2)) qZk (args_of_vles ⟨hob.1, trivial⟩)
 ·cases hDe
@[irreducible] noncomputable def doR (s : q05) (c : Int) (o : TOp) : q0W := (doF s c o).2
@[irreducible] noncomputable def doS (s : q05) (c : Int) (o : TOp) : q05 := (doF s c o).1
theorem qQ6 {s : q05} {c : Int} {o : TOp} {s' : q05} {r : q0W} (h : doF s c o = (s', r)) : doR s c o = r ∧ doS s c o = s' := by
 unfold doR doS
 rw [h]
 exact ⟨rfl, rfl⟩
set_option maxHeartbeats 16000000
theorem q3D {s : q05} {c : Int} {o : TOp} {s' : q05} {r : q0W} (h : doF s c o = (s', r)) : VLe (.tup [q0S 0 r, q0C 0 s']) (.tup [q0S 0 (doR s c o), q0C 0 (doS s c o)]) := by
 obtain ⟨h1, h2⟩ := qQ6 h
 rw [h1, h2]
 exact VLe.refl _
theorem do1 {s : q05} {c : Int} {o : TOp} (h : (o.kind == 1) = true) : doF s c o = if (q37 s.sessions c s.now).code ≠ 0 then (s, ⟨(q37 s.sessions c s.now).code, 0, q1Q⟩) else (⟨s.nodes, (q37 s.sessions c s.now).sessions, s.now, s.marks⟩, ⟨0, 0, q1Q⟩) := by
 unfold doF
 rw [if_pos (eq_of_beq h)]
theorem doL {s : q05} {c : Int} {o : TOp} (h : (o.kind == 1) = false) : doF s c o = if ¬ q8I s.sessions c s.now = true then (s, ⟨9, 0, q1Q⟩)
 else if o.kind = 2 then (⟨q28 s.nodes [c], q1z s.sessions c, s.now, s.marks⟩, ⟨0, 0, q1Q⟩)
 else if o.kind = 3 then q5H s (q2I s.nodes o.path o.data (if o.own = true then c else 0) o.seq) 0
 else if o.kind = 4 then q5H s (q34 s.nodes o.path o.version) 0
 else if o.kind = 5 then q5H s (q2H s.nodes o.path o.data o.version) (qPP s.nodes o.path)
 else (s, q3G s.nodes o) := by
 unfold doF
 rw [if_neg (by simpa using h)]
theorem qMg {o : TOp} (h : opF o = 0) (h2 : q6x o.kind) : q10 o.path = 0 := Classical.byContradiction fun g => by
 unfold opF at h
 split at h
 ·cases h
 ·simp [h2, g] at h
theorem qMb {l : List q03} (h : q3Z l) (i : Nat) (d : Int) : q3Z (q48 l i d) := fun a b h1 h2 => by
 have hp : ∀ k, (atZ (q48 l i d) k).path = (atZ l k).path := fun k => by
  unfold q48
  by_cases e : k = i
  ·subst e
   by_cases hk : k < l.length
   ·simp [hk]
   ·rw [List.set_eq_of_length_le (by omega)]
  ·simp [List.getElem?_set, Ne.symm e]
 rw [hp, hp]
 exact h a b h1 (by unfold q48 at h2; rw [List.length_set] at h2; exact h2)
theorem qGH {l : List q03} (h : q3Z l) (p : ByteArray) (d v : Int) : q3Z (q2H l p d v).nodes ∧ (q2H l p d v).nodes.length ≤ l.length := by
 unfold q2H
 have h0 : q3Z ([] : List q03) := fun i j _ h2 => absurd h2 (Nat.not_lt_zero j)
 split
 ·exact ⟨h0, Nat.zero_le _⟩
 split
 ·exact ⟨h0, Nat.zero_le _⟩
 split
 ·exact ⟨h0, Nat.zero_le _⟩
 split
 ·exact ⟨h0, Nat.zero_le _⟩
 ·refine ⟨qMb h _ _, ?_⟩
  show (q48 _ _ _).length ≤ _
  unfold q48
  rw [List.length_set]
  exact Nat.le_refl _
theorem qA4 (l : List q03) (i : Nat) (d : Int) (k : Nat) : (atZ (q48 l i d) k).path = (atZ l k).path := by
 unfold q48
 by_cases e : k = i
 ·subst e
  by_cases hk : k < l.length
  ·simp [hk]
  ·rw [List.set_eq_of_length_le (by omega)]
 ·simp [List.getElem?_set, Ne.symm e]
theorem q9u (l : List q03) (i : Nat) (d : Int) : (q48 l i d).length = l.length := by unfold q48; rw [List.length_set]
theorem qIS (l : List q03) (i : Nat) (d : Int) (t : ByteArray) : q20 (q48 l i d) t = q20 l t := by
 refine qAm (by rw [q9u]; exact q7G) (fun k hk => ?_) fun h => ?_
 ·rw [qA4]
  exact of_decide_eq_true (qBc (p := qCh t) (l := l) hk)
 ·rw [qA4]
  rw [q9u] at h
  exact of_decide_eq_false (qHI (p := qCh t) (l := l) h)
theorem qMn (l : List q03) (i : Nat) (d : Int) (t : ByteArray) : isZ (q48 l i d) t = isZ l t := by
 unfold isZ
 rw [qIS, qA4, q9u]
theorem qEr (l : List q03) (p : ByteArray) (v : Int) : (q34 l p v).path = q1Q := by
 unfold q34
 repeat' split
 all_goals rfl
theorem q5S (l : List q03) (p : ByteArray) (d v : Int) : ((q2H l p d v).code ≠ 0 ∧ (q2H l p d v).nodes = []) ∨ (¬ atN l p < 0 ∧ q2H l p d v = ⟨0, q1Q, q48 l (atN l p).toNat d⟩) := by
 unfold q2H
 split
 ·exact .inl ⟨by decide, rfl⟩
 split
 ·exact .inl ⟨by decide, rfl⟩
 split
 ·exact .inl ⟨by decide, rfl⟩
 split
 ·exact .inl ⟨by decide, rfl⟩
 ·exact .inr ⟨by assumption, rfl⟩
theorem q5W {s : q05} {r : q0F} {v : Int} (h : r.code ≠ 0) : q5H s r v = (s, ⟨r.code, 0, q1Q⟩) := if_pos h
theorem q9x {s : q05} {r : q0F} {v : Int} (h : ¬ r.code ≠ 0) : q5H s r v = (⟨r.nodes, s.sessions, s.now, s.marks⟩, ⟨0, v, r.path⟩) := if_neg h
theorem qHr (l : List q06) (c : Int) : (l.filter fun s => !isS c s) = q1z l c := by
 unfold q1z isS
 congr 1
 funext s
 by_cases e : s.id = c <;> simp [e]
theorem bnT {x : Int} (h : (x != 0) = true) : x ≠ 0 := by simpa using h
theorem bnF {x : Int} (h : (x != 0) = false) : ¬ x ≠ 0 := by simpa using h
theorem qUY {s : q05} {c : Int} {o : TOp} (hr : q3Z s.nodes) (en : doF s c o = q5H s (q2H s.nodes o.path o.data o.version) (qPP s.nodes o.path)) (g1 : ¬ atN s.nodes o.path < 0) (g2 : q2H s.nodes o.path o.data o.version = ⟨0, q1Q, q48 s.nodes (atN s.nodes o.path).toNat o.data⟩) :
  doF s c o = (⟨(q2H s.nodes o.path o.data o.version).nodes, s.sessions, s.now, s.marks⟩, ⟨0, ((q2H s.nodes o.path o.data o.version).nodes.getD (q20 (q2H s.nodes o.path o.data o.version).nodes o.path) default).version, q1Q⟩) := by
 have hz : isZ s.nodes o.path = true := by
  cases hb : isZ s.nodes o.path
  ·exact absurd ((q3e hr o.path).2 hb) g1
  ·rfl
 obtain ⟨q1, q2, q3⟩ := q5G hr hz
 rw [en, g2]
 have ev : qPP s.nodes o.path = (atZ s.nodes (atN s.nodes o.path).toNat).version + 1 := if_pos (by omega)
 show (_, (⟨0, qPP s.nodes o.path, q1Q⟩ : q0W)) = (_, (⟨0, ((q48 s.nodes (atN s.nodes o.path).toNat o.data).getD (q20 (q48 s.nodes (atN s.nodes o.path).toNat o.data) o.path) default).version, q1Q⟩ : q0W))
 rw [qIS, ev, q1]
 have hv : ((q48 s.nodes (q20 s.nodes o.path) o.data).getD (q20 s.nodes o.path) default).version = (atZ s.nodes (q20 s.nodes o.path)).version + 1 := by
  unfold q48
  simp [q2]
 rw [hv]
def qTV (s : q05) (c : Int) (o : TOp) : Prop := q0p s.nodes = 0 ∧ q1x s.sessions = 0 ∧ inR s.now 0 9000 ∧ inR c 1 9 ∧ opF o = 0
noncomputable def qX1 (s : q05) (c : Int) (o : TOp) : V := .tup [q0S 0 (doR s c o), q0C 0 (doS s c o)]
noncomputable def qSW : q0G := fun args bin => match args, bin with
 | [a0, .int .i64 a1, a2], [] => some (VLe a0 (q0C 1 ((q0B a0))) ∧ VLe a2 (q1E 1 ((q17 a2))) ∧ qTV (q0B a0) a1 (q17 a2), qX1 (q0B a0) a1 (q17 a2), [])
 | _, _ => none
noncomputable def x7Y : Nat → Option (Fl × q0G) := lk [(177, (.ro, qKR)), (178, (.ro, qR6)), (163, (.ro, qEe)), (179, (.mv, qAz)), (180, (.ro, qMw)), (159, (.ro, qM0)), (181, (.ro, qLJ)), (182, (.ro, qNe)), (183, (.ro, qNG)), (184, (.ro, qDP)), (185, (.ro, qSZ)), (186, (.ro, qQu)), (187, (.ro, qLH))]
theorem x0Z : q0D Tryz.prog x7Y := q01 qX0 (q01 x45 (q01 qN4 (q01 qNV (q01 qT5 (q01 qVN (q01 qVo (q01 qXc (q01 qVB (q01 qHP (q01 x0f (q01 x19 (q01 qSd (q07)))))))))))))
noncomputable def x4O (s : q05) (c : Int) (o : TOp) : Cx := ⟨tt, x7Y, Tryz.f109.ntmps, [0, 1, 2, 3, 4, 5, 6, 7, 8, 9, 10, 11, 12, 13, 14, 15, 18, 27, 41, 45, 50, 67, 71, 81, 91, 105, 120, 129, 148, 156, 174], [], [], fun _ => none, [], noM, []⟩
noncomputable def q2F (s : q05) : List q03 := (q0M q04 (q0H (q00 1) 1 (q05.nodes s)))
def q9Q (s : q05) : Prop := (VLe (q0H (q00 1) 1 (q05.nodes s)) (q0H (q00 1) 1 (q2F s)))
noncomputable def qAg (s : q05) (o : TOp) : q0F := (q59 (q2F s) (TOp.path o) (TOp.version o))
noncomputable def q2r (s : q05) (c : Int) (o : TOp) : V := (V.tup [q0S 0 (doR s c o), q0C 0 (doS s c o)])
noncomputable def q6B (s : q05) (o : TOp) : q0F := (q5C (q2F s) (TOp.path o) (TOp.data o) (TOp.version o))
noncomputable def q5w (s : q05) (o : TOp) : List q03 := (q0M q04 (q0H (q00 1) 1 (q0F.nodes (q6B s o))))
def qH4 (s : q05) (c : Int) (o : TOp) : Prop := (((q0F.code (q6B s o) != 0) = true) → (VLe (V.tup [V.agg [vi (q0F.code (q6B s o)), vi 0, V.str (ByteArray.mk #[])], q0C 0 s]) (q2r s c o)))
noncomputable def qHS (s : q05) (o : TOp) : List V := [q0H (q00 1) 0 (q0F.nodes (q6B s o)), q0H (q02 1) 0 (q05.sessions s), vi (q05.now s), q0H (q0A 1) 0 (q05.marks s)]
noncomputable def qHE (s : q05) (o : TOp) : Bool := (q1O.code (if atN (q2F s) (TOp.path o) < (0 : Int) then q1O.mk (4 : Int) [] else q1O.mk (0 : Int) (q1F (q2F s) (TOp.path o))) != 0)
noncomputable def qA7 (s : q05) (o : TOp) : Bool := (q0F.code (if atN (q2F s) (TOp.path o) < (0 : Int) then q0F.mk (4 : Int) q1Q [] else q0F.mk (0 : Int) q1Q [atZ (q2F s) (Int.toNat (atN (q2F s) (TOp.path o)))]) != 0)
def qHn (s : q05) (c : Int) (o : TOp) : Prop := (((qA7 s o) = true) → (VLe (V.tup [V.agg [vi (q0F.code (if atN (q2F s) (TOp.path o) < (0 : Int) then q0F.mk (4 : Int) q1Q [] else q0F.mk (0 : Int) q1Q [atZ (q2F s) (Int.toNat (atN (q2F s) (TOp.path o)))])), vi 0, V.str (ByteArray.mk #[])], q0C 0 s]) (q2r s c o)))
noncomputable def qGD (s : q05) (o : TOp) : List q03 := (q0F.nodes (if atN (q2F s) (TOp.path o) < (0 : Int) then q0F.mk (4 : Int) q1Q [] else q0F.mk (0 : Int) q1Q [atZ (q2F s) (Int.toNat (atN (q2F s) (TOp.path o)))]))
def qDr (s : q05) (o : TOp) : Prop := (((0 : Int) ≤ (0 : Int)) ∧ ((0 : Int) < (↑(List.length (qGD s o)) : Int)))
noncomputable def q8o (s : q05) (o : TOp) : V := (q00 1 (List.getD (qGD s o) 0 default))
def qKo (s : q05) (c : Int) (o : TOp) : Prop := (((TOp.kind o == 3) = false) → ((((TOp.kind o == 4) = true) → (((q9Q s) ∧ (qNE (q2F s) (TOp.path o) (TOp.version o))) ∧ ((((q0F.code (qAg s o) != 0) = true) → (VLe (V.tup [V.agg [vi (q0F.code (qAg s o)), vi 0, V.str (ByteArray.mk #[])], q0C 0 s]) (q2r s c o))) ∧ (((q0F.code (qAg s o) != 0) = false) → (VLe (V.tup [V.agg [vi 0, vi 0, V.str (ByteArray.mk #[])], V.agg [q0H (q00 1) 0 (q0F.nodes (qAg s o)), q0H (q02 1) 0 (q05.sessions s), vi (q05.now s), q0H (q0A 1) 0 (q05.marks s)]]) (q2r s c o)))))) ∧ (((TOp.kind o == 4) = false) → ((((TOp.kind o == 5) = true) → (((q9Q s) ∧ (qMQ (q2F s) (TOp.path o) (TOp.data o) (TOp.version o))) ∧ (((VLe (q0H (q00 1) 1 (q0F.nodes (q6B s o))) (q0H (q00 1) 1 (q5w s o))) ∧ (q7z (q5w s o) (TOp.path o))) ∧ (((isZ (q5w s o) (TOp.path o) = true) → ((((0 : Int) ≤ (↑(q20 (q5w s o) (TOp.path o)) : Int)) ∧ ((↑(q20 (q5w s o) (TOp.path o)) : Int) < (↑(List.length (q0F.nodes (q6B s o))) : Int))) ∧ ((Int.toNat (↑(q20 (q5w s o) (TOp.path o)) : Int) < List.length (q0F.nodes (q6B s o))) ∧ ((qH4 s c o) ∧ (((q0F.code (q6B s o) != 0) = false) → (VLe (V.tup [V.agg [vi 0, vi (q03.version (List.getD (q0F.nodes (q6B s o)) (Int.toNat (↑(q20 (q5w s o) (TOp.path o)) : Int)) default)), V.str (ByteArray.mk #[])], V.agg (qHS s o)]) (q2r s c o))))))) ∧ ((isZ (q5w s o) (TOp.path o) = false) → ((qH4 s c o) ∧ (((q0F.code (q6B s o) != 0) = false) → (VLe (V.tup [V.agg [vi 0, vi 0, V.str (ByteArray.mk #[])], V.agg (qHS s o)]) (q2r s c o))))))))) ∧ (((TOp.kind o == 5) = false) → ((((TOp.kind o == 7) = true) → (((q9Q s) ∧ (qQS (q2F s) (TOp.path o))) ∧ ((((qHE s o) = true) → (VLe (V.tup [V.agg [vi (q1O.code (if atN (q2F s) (TOp.path o) < (0 : Int) then q1O.mk (4 : Int) [] else q1O.mk (0 : Int) (q1F (q2F s) (TOp.path o)))), vi 0, V.str (ByteArray.mk #[])], q0C 0 s]) (q2r s c o))) ∧ (((qHE s o) = false) → (VLe (V.tup [V.agg [vi 0, vi (↑(List.length (q1O.texts (if atN (q2F s) (TOp.path o) < (0 : Int) then q1O.mk (4 : Int) [] else q1O.mk (0 : Int) (q1F (q2F s) (TOp.path o))))) : Int), V.str (ByteArray.mk #[])], q0C 0 s]) (q2r s c o)))))) ∧ (((TOp.kind o == 7) = false) → (((q9Q s) ∧ (qTU (q2F s) (TOp.path o))) ∧ ((((qA7 s o) = true) → ((qHn s c o) ∧ (((qA7 s o) = false) → (VLe (V.tup [V.agg [vi 0, vi 0, V.str (ByteArray.mk #[])], q0C 0 s]) (q2r s c o))))) ∧ (((qA7 s o) = false) → ((((TOp.kind o == 6) = true) → ((qDr s o) ∧ ((qHn s c o) ∧ (((qA7 s o) = false) → (VLe (V.tup [V.agg [vi 0, vi (q03.data (List.getD (qGD s o) 0 default)), V.str (ByteArray.mk #[])], q0C 0 s]) (q2r s c o)))))) ∧ (((TOp.kind o == 6) = false) → ((qDr s o) ∧ (((VLe (q8o s o) (q00 1 (q04 (q8o s o)))) ∧ (qLw (TOp.version o) (q04 (q8o s o)))) ∧ ((((!decide (TOp.version o = (-1 : Int) ∨ TOp.version o = q03.version (q04 (q8o s o)))) = true) → (((((7 : Int) != (0 : Int)) = true) → (VLe (V.tup [V.agg [vi 7, vi 0, V.str (ByteArray.mk #[])], q0C 0 s]) (q2r s c o))) ∧ ((((7 : Int) != (0 : Int)) = false) → (VLe (V.tup [V.agg [vi 0, vi 0, V.str (ByteArray.mk #[])], q0C 0 s]) (q2r s c o))))) ∧ (((!decide (TOp.version o = (-1 : Int) ∨ TOp.version o = q03.version (q04 (q8o s o)))) = false) → ((qDr s o) ∧ ((qHn s c o) ∧ (((qA7 s o) = false) → (VLe (V.tup [V.agg [vi 0, vi (q03.version (List.getD (qGD s o) 0 default)), V.str (ByteArray.mk #[])], q0C 0 s]) (q2r s c o)))))))))))))))))))))
noncomputable def q44 (s : q05) : List q06 := (q0M q08 (q0H (q02 1) 1 (q05.sessions s)))
def qE4 (s : q05) : Prop := (VLe (q0H (q02 1) 1 (q05.sessions s)) (q0H (q02 1) 1 (q44 s)))
noncomputable def qA8 (s : q05) : List q06 := (q0M q08 (q0H (q02 1) 1 (q2i (q44 s))))
def qL8 (s : q05) (c : Int) (o : TOp) : Prop := (((TOp.kind o == 2) = true) → (((qE4 s) ∧ (qFf (q44 s))) ∧ ((((0 = 0) ∧ ((2 = 2) ∧ ((100 = 100) ∧ ((List.length (q2i (q44 s)) = List.length (q2i (q44 s))) ∧ (∀ i : Nat, ((i < List.length (q2i (q44 s))) → (ELe (q02 1 (List.getD (q2i (q44 s)) i default)) (q02 1 (List.getD (qA8 s) i default))))))))) ∧ ((VLe (V.ptr [vi c] 0 1) (q0u 1 (q0Y (V.ptr [vi c] 0 1)))) ∧ (qAO (qA8 s) (q0Y (V.ptr [vi c] 0 1))))) ∧ (((q9Q s) ∧ ((VLe (V.sl 1 (q2o [vi c]) 1) (q0H q2l 1 (q0M q24 (V.sl 1 (q2o [vi c]) 1)))) ∧ (qKp (q2F s) (q0M q24 (V.sl 1 (q2o [vi c]) 1))))) ∧ (((((0 : Int) != (0 : Int)) = true) → (VLe (V.tup [V.agg [vi 0, vi 0, V.str (ByteArray.mk #[])], V.agg [q0H (q00 1) 0 (q05.nodes s), q0H (q02 1) 0 (q2B (qA8 s) (q0Y (V.ptr [vi c] 0 1))), vi (q05.now s), q0H (q0A 1) 0 (q05.marks s)]]) (q2r s c o))) ∧ ((((0 : Int) != (0 : Int)) = false) → (VLe (V.tup [V.agg [vi 0, vi 0, V.str (ByteArray.mk #[])], V.agg [q0H (q00 1) 0 (qAi (q2F s) (q0M q24 (V.sl 1 (q2o [vi c]) 1))), q0H (q02 1) 0 (q2B (qA8 s) (q0Y (V.ptr [vi c] 0 1))), vi (q05.now s), q0H (q0A 1) 0 (q05.marks s)]]) (q2r s c o))))))))
noncomputable def q9C (s : q05) (o : TOp) : q0F := (q3m (q2F s) (TOp.path o) (TOp.data o) (0 : Int) (TOp.seq o))
noncomputable def q8k (s : q05) (c : Int) (o : TOp) : q0F := (q3m (q2F s) (TOp.path o) (TOp.data o) c (TOp.seq o))
theorem x3c (s : q05) (c : Int) (o : TOp) (hpre : qTV s c o) : q0f (x4O s c o) Tryz.f109 0 [q0C 1 (s), .int .i64 (c), q1E 1 (o)] (fun rr => VLe rr (qX1 s c o)) := by
 have key : ((((TOp.kind o == 1) = true) → (((qE4 s) ∧ (qMF (q44 s) c (q05.now s))) ∧ ((((q0R.code (q4M (q44 s) c (q05.now s)) == 0) = true) → (VLe (V.tup [V.agg [vi (q0R.code (q4M (q44 s) c (q05.now s))), vi 0, V.str (ByteArray.mk #[])], V.agg [q0H (q00 1) 0 (q05.nodes s), q0H (q02 1) 0 (q0R.sessions (q4M (q44 s) c (q05.now s))), vi (q05.now s), q0H (q0A 1) 0 (q05.marks s)]]) (q2r s c o))) ∧ (((q0R.code (q4M (q44 s) c (q05.now s)) == 0) = false) → (VLe (V.tup [V.agg [vi (q0R.code (q4M (q44 s) c (q05.now s))), vi 0, V.str (ByteArray.mk #[])], q0C 0 s]) (q2r s c o)))))) ∧ (((TOp.kind o == 1) = false) → (((qE4 s) ∧ (qTG (q44 s) c (q05.now s))) ∧ ((((!q8I (q44 s) c (q05.now s)) = true) → (VLe (V.tup [V.agg [vi 9, vi 0, V.str (ByteArray.mk #[])], q0C 0 s]) (q2r s c o))) ∧ (((!q8I (q44 s) c (q05.now s)) = false) → (((TOp.own o = true) → ((qL8 s c o) ∧ (((TOp.kind o == 2) = false) → ((((TOp.kind o == 3) = true) → (((q9Q s) ∧ (qI7 (q2F s) (TOp.path o) (TOp.data o) c (TOp.seq o))) ∧ ((((q0F.code (q8k s c o) != 0) = true) → (VLe (V.tup [V.agg [vi (q0F.code (q8k s c o)), vi 0, V.str (ByteArray.mk #[])], q0C 0 s]) (q2r s c o))) ∧ (((q0F.code (q8k s c o) != 0) = false) → (VLe (V.tup [V.agg [vi 0, vi 0, V.str (q0F.path (q8k s c o))], V.agg [q0H (q00 1) 0 (q0F.nodes (q8k s c o)), q0H (q02 1) 0 (q05.sessions s), vi (q05.now s), q0H (q0A 1) 0 (q05.marks s)]]) (q2r s c o)))))) ∧ (qKo s c o))))) ∧ ((TOp.own o = false) → ((qL8 s c o) ∧ (((TOp.kind o == 2) = false) → ((((TOp.kind o == 3) = true) → (((q9Q s) ∧ (qI7 (q2F s) (TOp.path o) (TOp.data o) (0 : Int) (TOp.seq o))) ∧ ((((q0F.code (q9C s o) != 0) = true) → (VLe (V.tup [V.agg [vi (q0F.code (q9C s o)), vi 0, V.str (ByteArray.mk #[])], q0C 0 s]) (q2r s c o))) ∧ (((q0F.code (q9C s o) != 0) = false) → (VLe (V.tup [V.agg [vi 0, vi 0, V.str (q0F.path (q9C s o))], V.agg [q0H (q00 1) 0 (q0F.nodes (q9C s o)), q0H (q02 1) 0 (q05.sessions s), vi (q05.now s), q0H (q0A 1) 0 (q05.marks s)]]) (q2r s c o)))))) ∧ (qKo s c o))))))))))) := by
  delta q8k; delta q9C; delta qL8; delta qA8; delta qE4; delta q44; delta qKo; delta q8o; delta qDr; delta qGD; delta qHn; delta qA7; delta qHE; delta qHS; delta qH4; delta q5w; delta q6B; delta q2r; delta qAg; delta q9Q; delta q2F; delta vi
  obtain ⟨ht, hs, hnow, hc, ho⟩ := hpre
  obtain ⟨hl, hr, hn⟩ := q2L ht
  have hk := q9H hs
  have hsl := hk.1
  have ew : q0M q24 (.sl 1 (q2o [.int .i64 c]) 1) = [c] := rfl
  simp only [q19, q0s, q11, ew, Int.toNat_natCast, qMA]
  have hnl : s.nodes.length ≤ 1000 := by omega
  have hsl2 : s.sessions.length ≤ 1000 := by omega
  refine ⟨fun k1 => ⟨⟨VLe.refl _, hs, hc, hnow⟩, fun h => ?_, fun h => ?_⟩, fun k1 => ⟨⟨VLe.refl _, hk, hc⟩, fun h => ?_, fun hlv => ?_⟩⟩
  ·have e : doF s c o = (⟨s.nodes, (q37 s.sessions c s.now).sessions, s.now, s.marks⟩, ⟨(q37 s.sessions c s.now).code, 0, q1Q⟩) := by
    have e0 : (q37 s.sessions c s.now).code = 0 := eq_of_beq h
    rw [do1 k1, if_neg (not_not_intro e0), e0]
   exact q3D e
  ·have e : doF s c o = (s, ⟨(q37 s.sessions c s.now).code, 0, q1Q⟩) := by
    have e0 : (q37 s.sessions c s.now).code ≠ 0 := fun g => by
     have h2 : ((q37 s.sessions c s.now).code == 0) = false := h
     rw [g] at h2
     cases h2
    rw [do1 k1, if_pos e0]
   exact q3D e
  ·have e : doF s c o = (s, ⟨9, 0, q1Q⟩) := by rw [doL k1, if_pos (by simpa using h)]
   exact q3D e
  have lv : ¬ ¬ q8I s.sessions c s.now = true := by simpa using hlv
  have dL := doL (s := s) (c := c) k1
  rw [if_neg lv] at dL
  have okk : okK o.kind := by
   unfold opF at ho
   split at ho
   ·cases ho
   ·rename_i g
    exact Classical.byContradiction fun g2 => g (.inl g2)
  unfold okK inR at okk
  have hp : 3 ≤ o.kind → q10 o.path = 0 := fun g => qMg ho (by unfold q6x inR; omega)
  have main : ∀ w, (if o.own = true then c else 0) = w → (VLe (q0H (q02 1) 1 s.sessions) (q0H (q02 1) 1 s.sessions)) := fun _ _ => VLe.refl _
  refine ⟨fun ow => ?_, fun ow => ?_⟩
  all_goals rw [ow] at dL
  all_goals simp only [if_true, Bool.false_eq_true, if_false] at dL
  all_goals
   refine ⟨fun k2 => ⟨⟨VLe.refl _, hsl2⟩, ⟨⟨trivial, trivial, trivial, trivial, fun i hi => ELe.refl _⟩, VLe.refl _, hsl2⟩, ⟨VLe.refl _, qGB (fun i hi => by have : i = 0 := (by omega); subst this; exact ELe.refl _) (.inl rfl), hnl, by show 1 ≤ 1000; omega⟩, fun h => absurd h (by decide), fun _ => ?_⟩, fun k2 => ⟨fun k3 => ?_, fun k3 => ⟨fun k4 => ?_, fun k4 => ⟨fun k5 => ?_, fun k5 => ⟨fun k7 => ?_, fun k7 => ?_⟩⟩⟩⟩⟩
  all_goals first | have n2 : ¬ o.kind = 2 := (by simpa using k2) | skip
  all_goals first | have n3 : ¬ o.kind = 3 := (by simpa using k3) | skip
  all_goals first | have n4 : ¬ o.kind = 4 := (by simpa using k4) | skip
  all_goals first | have n5 : ¬ o.kind = 5 := (by simpa using k5) | skip
  all_goals first | have n7 : ¬ o.kind = 7 := (by simpa using k7) | skip
  ·have e : doF s c o = (⟨q28 s.nodes [c], q1z s.sessions c, s.now, s.marks⟩, ⟨0, 0, q1Q⟩) := by rw [dL, if_pos (eq_of_beq k2)]
   rw [← qHr] at e
   exact q3D e
  ·refine ⟨⟨VLe.refl _, ht, hp (by have := eq_of_beq k3; omega)⟩, fun h => ?_, fun h => ?_⟩
   ·have e : doF s c o = (s, ⟨(q2I s.nodes o.path o.data c o.seq).code, 0, q1Q⟩) := by rw [dL, if_neg n2, if_pos (eq_of_beq k3), q5W (r := (q2I s.nodes o.path o.data c o.seq)) (bnT h)]
    exact q3D e
   ·have e : doF s c o = (⟨(q2I s.nodes o.path o.data c o.seq).nodes, s.sessions, s.now, s.marks⟩, ⟨0, 0, (q2I s.nodes o.path o.data c o.seq).path⟩) := by rw [dL, if_neg n2, if_pos (eq_of_beq k3), q9x (r := (q2I s.nodes o.path o.data c o.seq)) (bnF h)]
    exact q3D e
  ·refine ⟨⟨VLe.refl _, ht, hp (by have := eq_of_beq k4; omega)⟩, fun h => ?_, fun h => ?_⟩
   ·have e : doF s c o = (s, ⟨(q34 s.nodes o.path o.version).code, 0, q1Q⟩) := by rw [dL, if_neg n2, if_neg n3, if_pos (eq_of_beq k4), q5W (r := (q34 s.nodes o.path o.version)) (bnT h)]
    exact q3D e
   ·have e : doF s c o = (⟨(q34 s.nodes o.path o.version).nodes, s.sessions, s.now, s.marks⟩, ⟨0, 0, (q34 s.nodes o.path o.version).path⟩) := by rw [dL, if_neg n2, if_neg n3, if_pos (eq_of_beq k4), q9x (r := (q34 s.nodes o.path o.version)) (bnF h)]
    rw [qEr] at e
    exact q3D e
  ·have hset := qGH hr o.path o.data o.version
   have en : doF s c o = q5H s (q2H s.nodes o.path o.data o.version) (qPP s.nodes o.path) := by rw [dL, if_neg n2, if_neg n3, if_neg n4, if_pos (eq_of_beq k5)]
   have bad : (q2H s.nodes o.path o.data o.version).code ≠ 0 → doF s c o = (s, ⟨(q2H s.nodes o.path o.data o.version).code, 0, q1Q⟩) := fun h => by rw [en, q5W h]
   refine ⟨⟨VLe.refl _, ht, hp (by have := eq_of_beq k5; omega)⟩, ⟨VLe.refl _, hset.1, by show (q2H s.nodes o.path o.data o.version).nodes.length ≤ 1000; have := hset.2; omega⟩, fun hz => ⟨⟨by omega, ?_⟩, (of_decide_eq_true hz).1, fun h => q3D (bad (bnT h)), fun h => ?_⟩, fun hz => ⟨fun h => q3D (bad (bnT h)), fun h => ?_⟩⟩
   ·have := (of_decide_eq_true hz).1
    exact Int.ofNat_lt.2 this
   ·rcases q5S s.nodes o.path o.data o.version with ⟨g, _⟩ | ⟨g1, g2⟩
    ·exact absurd g (bnF h)
    ·exact q3D (qUY hr en g1 g2)
   ·rcases q5S s.nodes o.path o.data o.version with ⟨g, _⟩ | ⟨g1, g2⟩
    ·exact absurd g (bnF h)
    ·have hz2 : isZ (q2H s.nodes o.path o.data o.version).nodes o.path = false := hz
     rw [g2] at hz2
     rw [qMn] at hz2
     exact absurd ((q3e hr o.path).2 hz2) g1
  ·have er : doF s c o = (s, q3G s.nodes o) := by rw [dL, if_neg n2, if_neg n3, if_neg n4, if_neg n5]
   have pp := hp (by have := eq_of_beq k7; omega)
   by_cases ax : atN s.nodes o.path < 0
   ·simp only [if_pos ax]
    have e : doF s c o = (s, ⟨4, 0, q1Q⟩) := by rw [er]; unfold q3G; rw [if_pos ax]
    exact ⟨⟨VLe.refl _, ht, pp⟩, fun _ => q3D e, fun h => absurd h (by decide)⟩
   ·simp only [if_neg ax]
    have e : doF s c o = (s, ⟨0, (q1F s.nodes o.path).length, q1Q⟩) := by rw [er]; unfold q3G; rw [if_neg ax, if_neg (by have := eq_of_beq k7; omega), if_pos (eq_of_beq k7)]
    exact ⟨⟨VLe.refl _, ht, pp⟩, fun h => absurd h (by decide), fun _ => q3D e⟩
  ·have er : doF s c o = (s, q3G s.nodes o) := by rw [dL, if_neg n2, if_neg n3, if_neg n4, if_neg n5]
   have n1 : ¬ o.kind = 1 := by simpa using k1
   have pp := hp (by omega)
   by_cases ax : atN s.nodes o.path < 0
   ·simp only [if_pos ax]
    have e : doF s c o = (s, ⟨4, 0, q1Q⟩) := by rw [er]; unfold q3G; rw [if_pos ax]
    exact ⟨⟨VLe.refl _, ht, pp⟩, fun _ => ⟨fun _ => q3D e, fun h => absurd h (by decide)⟩, fun h => absurd h (by decide)⟩
   ·simp only [if_neg ax, List.getD_cons_zero]
    refine ⟨⟨VLe.refl _, ht, pp⟩, fun h => absurd h (by decide), fun _ => ⟨fun k6 => ⟨⟨by decide, by show (0 : Int) < 1; decide⟩, fun h => absurd h (by decide), fun _ => ?_⟩, fun k6 => ⟨⟨by decide, by show (0 : Int) < 1; decide⟩, ⟨VLe.refl _, trivial⟩, fun h => ⟨fun _ => ?_, fun h => absurd h (by decide)⟩, fun h => ⟨⟨by decide, by show (0 : Int) < 1; decide⟩, fun h => absurd h (by decide), fun _ => ?_⟩⟩⟩⟩
    ·have e : doF s c o = (s, ⟨0, (atZ s.nodes (atN s.nodes o.path).toNat).data, q1Q⟩) := by rw [er]; unfold q3G; rw [if_neg ax, if_pos (eq_of_beq k6)]
     exact q3D e
    ·have e : doF s c o = (s, ⟨7, 0, q1Q⟩) := by
      rw [er]; unfold q3G; rw [if_neg ax, if_neg (by simpa using k6), if_neg n7, if_pos (by simpa using h)]
     exact q3D e
    ·have e : doF s c o = (s, ⟨0, (atZ s.nodes (atN s.nodes o.path).toNat).version, q1Q⟩) := by
      have h2 := qJg h
      rw [er]; unfold q3G; rw [if_neg ax, if_neg (by simpa using k6), if_neg n7, if_neg (fun g => h2.elim g.1 g.2)]
     exact q3D e
  ·have e : doF s c o = (⟨q28 s.nodes [c], q1z s.sessions c, s.now, s.marks⟩, ⟨0, 0, q1Q⟩) := by rw [dL, if_pos (eq_of_beq k2)]
   rw [← qHr] at e
   exact q3D e
  ·refine ⟨⟨VLe.refl _, ht, hp (by have := eq_of_beq k3; omega)⟩, fun h => ?_, fun h => ?_⟩
   ·have e : doF s c o = (s, ⟨(q2I s.nodes o.path o.data 0 o.seq).code, 0, q1Q⟩) := by rw [dL, if_neg n2, if_pos (eq_of_beq k3), q5W (r := (q2I s.nodes o.path o.data 0 o.seq)) (bnT h)]
    exact q3D e
   ·have e : doF s c o = (⟨(q2I s.nodes o.path o.data 0 o.seq).nodes, s.sessions, s.now, s.marks⟩, ⟨0, 0, (q2I s.nodes o.path o.data 0 o.seq).path⟩) := by rw [dL, if_neg n2, if_pos (eq_of_beq k3), q9x (r := (q2I s.nodes o.path o.data 0 o.seq)) (bnF h)]
    exact q3D e
  ·refine ⟨⟨VLe.refl _, ht, hp (by have := eq_of_beq k4; omega)⟩, fun h => ?_, fun h => ?_⟩
   ·have e : doF s c o = (s, ⟨(q34 s.nodes o.path o.version).code, 0, q1Q⟩) := by rw [dL, if_neg n2, if_neg n3, if_pos (eq_of_beq k4), q5W (r := (q34 s.nodes o.path o.version)) (bnT h)]
    exact q3D e
   ·have e : doF s c o = (⟨(q34 s.nodes o.path o.version).nodes, s.sessions, s.now, s.marks⟩, ⟨0, 0, (q34 s.nodes o.path o.version).path⟩) := by rw [dL, if_neg n2, if_neg n3, if_pos (eq_of_beq k4), q9x (r := (q34 s.nodes o.path o.version)) (bnF h)]
    rw [qEr] at e
    exact q3D e
  ·have hset := qGH hr o.path o.data o.version
   have en : doF s c o = q5H s (q2H s.nodes o.path o.data o.version) (qPP s.nodes o.path) := by rw [dL, if_neg n2, if_neg n3, if_neg n4, if_pos (eq_of_beq k5)]
   have bad : (q2H s.nodes o.path o.data o.version).code ≠ 0 → doF s c o = (s, ⟨(q2H s.nodes o.path o.data o.version).code, 0, q1Q⟩) := fun h => by rw [en, q5W h]
   refine ⟨⟨VLe.refl _, ht, hp (by have := eq_of_beq k5; omega)⟩, ⟨VLe.refl _, hset.1, by show (q2H s.nodes o.path o.data o.version).nodes.length ≤ 1000; have := hset.2; omega⟩, fun hz => ⟨⟨by omega, ?_⟩, (of_decide_eq_true hz).1, fun h => q3D (bad (bnT h)), fun h => ?_⟩, fun hz => ⟨fun h => q3D (bad (bnT h)), fun h => ?_⟩⟩
   ·have := (of_decide_eq_true hz).1
    exact Int.ofNat_lt.2 this
   ·rcases q5S s.nodes o.path o.data o.version with ⟨g, _⟩ | ⟨g1, g2⟩
    ·exact absurd g (bnF h)
    ·exact q3D (qUY hr en g1 g2)
   ·rcases q5S s.nodes o.path o.data o.version with ⟨g, _⟩ | ⟨g1, g2⟩
    ·exact absurd g (bnF h)
    ·have hz2 : isZ (q2H s.nodes o.path o.data o.version).nodes o.path = false := hz
     rw [g2] at hz2
     rw [qMn] at hz2
     exact absurd ((q3e hr o.path).2 hz2) g1
  ·have er : doF s c o = (s, q3G s.nodes o) := by rw [dL, if_neg n2, if_neg n3, if_neg n4, if_neg n5]
   have pp := hp (by have := eq_of_beq k7; omega)
   by_cases ax : atN s.nodes o.path < 0
   ·simp only [if_pos ax]
    have e : doF s c o = (s, ⟨4, 0, q1Q⟩) := by rw [er]; unfold q3G; rw [if_pos ax]
    exact ⟨⟨VLe.refl _, ht, pp⟩, fun _ => q3D e, fun h => absurd h (by decide)⟩
   ·simp only [if_neg ax]
    have e : doF s c o = (s, ⟨0, (q1F s.nodes o.path).length, q1Q⟩) := by rw [er]; unfold q3G; rw [if_neg ax, if_neg (by have := eq_of_beq k7; omega), if_pos (eq_of_beq k7)]
    exact ⟨⟨VLe.refl _, ht, pp⟩, fun h => absurd h (by decide), fun _ => q3D e⟩
  ·have er : doF s c o = (s, q3G s.nodes o) := by rw [dL, if_neg n2, if_neg n3, if_neg n4, if_neg n5]
   have n1 : ¬ o.kind = 1 := by simpa using k1
   have pp := hp (by omega)
   by_cases ax : atN s.nodes o.path < 0
   ·simp only [if_pos ax]
    have e : doF s c o = (s, ⟨4, 0, q1Q⟩) := by rw [er]; unfold q3G; rw [if_pos ax]
    exact ⟨⟨VLe.refl _, ht, pp⟩, fun _ => ⟨fun _ => q3D e, fun h => absurd h (by decide)⟩, fun h => absurd h (by decide)⟩
   ·simp only [if_neg ax, List.getD_cons_zero]
    refine ⟨⟨VLe.refl _, ht, pp⟩, fun h => absurd h (by decide), fun _ => ⟨fun k6 => ⟨⟨by decide, by show (0 : Int) < 1; decide⟩, fun h => absurd h (by decide), fun _ => ?_⟩, fun k6 => ⟨⟨by decide, by show (0 : Int) < 1; decide⟩, ⟨VLe.refl _, trivial⟩, fun h => ⟨fun _ => ?_, fun h => absurd h (by decide)⟩, fun h => ⟨⟨by decide, by show (0 : Int) < 1; decide⟩, fun h => absurd h (by decide), fun _ => ?_⟩⟩⟩⟩
    ·have e : doF s c o = (s, ⟨0, (atZ s.nodes (atN s.nodes o.path).toNat).data, q1Q⟩) := by rw [er]; unfold q3G; rw [if_neg ax, if_pos (eq_of_beq k6)]
     exact q3D e
    ·have e : doF s c o = (s, ⟨7, 0, q1Q⟩) := by
      rw [er]; unfold q3G; rw [if_neg ax, if_neg (by simpa using k6), if_neg n7, if_pos (by simpa using h)]
     exact q3D e
    ·have e : doF s c o = (s, ⟨0, (atZ s.nodes (atN s.nodes o.path).toNat).version, q1Q⟩) := by
      have h2 := qJg h
      rw [er]; unfold q3G; rw [if_neg ax, if_neg (by simpa using k6), if_neg n7, if_neg (fun g => h2.elim g.1 g.2)]
     exact q3D e
 exact Eq.mp (by kernel_rfl) key
theorem qZm : q0T Tryz.prog 109 qSW := by
 refine q09 q1C (pol := 0) Tryz.func109 rfl (by kernel_rfl) fun args bin ob r bout hDe hob => ?_
 unfold qSW at hDe
 split at hDe
 ·rename_i a0 a1 a2
  cases hDe
  exact okB (x3c (q0B a0) a1 (q17 a2) (hob.2.2)) x0Z (args_of_vles ⟨hob.1, VLe.refl _, hob.2.1, trivial⟩)
 ·cases hDe
def qOJ (l : List q06) (id : Int) : Prop := l.length ≤ maxLen
noncomputable def qTq (l : List q06) (id : Int) : V := .int .i64 (sAt l id)
noncomputable def qPE : q0G := fun args bin => match args, bin with
 | [a0, .int .i64 a1], [] => some (VLe a0 (q0H (q02 1) 1 (((q0M q08) a0))) ∧ qOJ ((q0M q08) a0) a1, qTq ((q0M q08) a0) a1, [])
 | _, _ => none
noncomputable def qTP (l : List q06) (id : Int) : q0O :=
 ⟨Nat, fun i => ⟨[(0, q0H (q02 1) 1 l), (1, .int .i64 id), (5, .int .i64 i)], []⟩,
  fun i => i ≤ l.length ∧ ∀ j, j < i → isS id (l.getD j default) = false, fun i => l.length - i⟩
noncomputable def x3P (l : List q06) (id : Int) : Nat → Option q0O := fun rg_ => match rg_ with
 | 2 => some (qTP l id)
 | _ => none
noncomputable def x7p : Nat → Option (Fl × q0G) := lk []
theorem qZr : q0D Tryz.prog x7p := q07
noncomputable def x5l (l : List q06) (id : Int) : Cx := ⟨tt, x7p, Tryz.f248.ntmps, [0, 1, 4, 5, 9, 18], [(2, ⟨[(0, none), (1, none), (5, none)], []⟩)], [], x3P l id, [], noM, []⟩
theorem x1Y (l : List q06) (id : Int) (hpre : qOJ l id) : q0f (x5l l id) Tryz.f248 0 [q0H (q02 1) 1 (l), .int .i64 (id)] (fun rr => VLe rr (qTq l id)) := by
 have key : ((∃ x : Nat, ((SLe (AS.mk [(0, q0H (q02 1) 1 l), (1, vi id), (5, vi 0)] []) (AS.mk [(0, q0H (q02 1) 1 l), (1, vi id), (5, vi (↑x : Int))] [])) ∧ ((x ≤ List.length l) ∧ (∀ j : Nat, ((j < x) → (isS id (List.getD l j default) = false)))))) ∧ (∀ x : Nat, (((x ≤ List.length l) ∧ (∀ j : Nat, ((j < x) → (isS id (List.getD l j default) = false)))) → (((decide ((↑x : Int) < (↑(List.length l) : Int)) = true) → ((((0 : Int) ≤ (↑x : Int)) ∧ ((↑x : Int) < (↑(List.length l) : Int))) ∧ ((((q06.id (List.getD l (Int.toNat (↑x : Int)) default) == id) = true) → (VLe (vi (↑x : Int)) (vi (sAt l id)))) ∧ (((q06.id (List.getD l (Int.toNat (↑x : Int)) default) == id) = false) → ((inK IntKind.i64 ((↑x : Int) + (1 : Int))) ∧ (∃ y : Nat, ((SLe (AS.mk [(0, q0H (q02 1) 1 l), (1, vi id), (5, vi ((↑x : Int) + (1 : Int)))] []) (AS.mk [(0, q0H (q02 1) 1 l), (1, vi id), (5, vi (↑y : Int))] [])) ∧ (((y ≤ List.length l) ∧ (∀ j : Nat, ((j < y) → (isS id (List.getD l j default) = false)))) ∧ (List.length l - y < List.length l - x))))))))) ∧ ((decide ((↑x : Int) < (↑(List.length l) : Int)) = false) → (VLe (vi (-1)) (vi (sAt l id)))))))) := by
  delta vi
  have hl : l.length ≤ maxLen := hpre
  unfold maxLen at hl
  refine ⟨⟨0, SLe.refl _, by omega, fun j hj => absurd hj (Nat.not_lt_zero j)⟩, ?_⟩
  rintro i ⟨hi, hj⟩
  refine ⟨fun h => ?_, fun h => ?_⟩
  ·have hlt : i < l.length := by have := of_decide_eq_true h; omega
   simp only [Int.toNat_natCast]
   refine ⟨⟨by omega, by omega⟩, fun h2 => q0J ?_, fun h2 => ⟨q0U (by omega), i + 1, SLe.refl _, ⟨by omega, fun j h4 => ?_⟩, by omega⟩⟩
   ·exact (q33 hlt hj (decide_eq_true (eq_of_beq h2))).symm
   ·by_cases e : j = i
    ·subst e
     exact decide_eq_false (by simpa using h2)
    ·exact hj j (by omega)
  ·have hge : i = l.length := by have := of_decide_eq_false h; omega
   subst hge
   exact q0J (q3h hj).symm
 exact Eq.mp (by kernel_rfl) key
theorem qUr : q0T Tryz.prog 248 qPE := by
 refine q09 q1C (pol := 0) Tryz.func248 rfl (by kernel_rfl) fun args bin ob r bout hDe hob => ?_
 unfold qPE at hDe
 split at hDe
 ·rename_i a0 a1
  cases hDe
  exact okB (x1Y ((q0M q08) a0) a1 (hob.2)) qZr (args_of_vles ⟨hob.1, VLe.refl _, trivial⟩)
 ·cases hDe
def qRM (l : List q06) (id : Int) (now : Int) : Prop := l.length ≤ maxLen
noncomputable def qUw (l : List q06) (id : Int) (now : Int) : V := .bool (q8I l id now)
noncomputable def qT9 : q0G := fun args bin => match args, bin with
 | [a0, .int .i64 a1, .int .i64 a2], [] => some (VLe a0 (q0H (q02 1) 1 (((q0M q08) a0))) ∧ qRM ((q0M q08) a0) a1 a2, qUw ((q0M q08) a0) a1 a2, [])
 | _, _ => none
noncomputable def x67 : Nat → Option (Fl × q0G) := lk [(248, (.ro, qPE))]
theorem x39 : q0D Tryz.prog x67 := q01 qUr (q07)
noncomputable def x2Z (l : List q06) (id : Int) (now : Int) : Cx := ⟨tt, x67, Tryz.f194.ntmps, [0, 1, 2, 6, 7], [], [], fun _ => none, [], noM, []⟩
noncomputable def q6L (l : List q06) : List q06 := (q0M q08 (q0H (q02 1) 1 l))
noncomputable def qAE (l : List q06) (id : Int) : Bool := (decide (sAt (q6L l) id ≥ (0 : Int)))
theorem x54 (l : List q06) (id : Int) (now : Int) (hpre : qRM l id now) : q0f (x2Z l id now) Tryz.f194 0 [q0H (q02 1) 1 (l), .int .i64 (id), .int .i64 (now)] (fun rr => VLe rr (qUw l id now)) := by
 have key : (((VLe (q0H (q02 1) 1 l) (q0H (q02 1) 1 (q6L l))) ∧ (qOJ (q6L l) id)) ∧ ((tq (qAE l id)) ∧ ((tq (qAE l id)) ∧ (((decide (sAt (q6L l) id ≥ (0 : Int)) = true) → (((0 : Int) ≤ sAt (q6L l) id) ∧ (sAt (q6L l) id < (↑(List.length l) : Int)))) ∧ ((tq (qAE l id)) ∧ ((tq (qAE l id)) ∧ ((tq (qAE l id)) ∧ ((tq (qAE l id)) ∧ (((true = true) → ((decide (sAt (q6L l) id ≥ (0 : Int)) = true) → (decide (sAt (q6L l) id ≥ (0 : Int)) = true))) ∧ (∀ b : Bool, ((b = bif decide (sAt (q6L l) id ≥ (0 : Int)) then decide (q06.upto (List.getD l (Int.toNat (sAt (q6L l) id)) default) ≥ now) else false) → (VLe (V.bool b) (V.bool (q8I l id now)))))))))))))) := by
  delta qAE; delta q6L
  have hl : l.length ≤ maxLen := hpre
  have hb : sAt l id < l.length ∨ sAt l id = -1 := qDF _ _
  simp only [q19]
  refine ⟨⟨VLe.refl _, hl⟩, tqI _, tqI _, fun h => ?_, tqI _, tqI _, tqI _, tqI _, fun _ h => h, fun b hb2 => q0e ?_⟩
  ·have := of_decide_eq_true h
   exact ⟨this, by omega⟩
  ·rw [hb2]
   unfold q8I
   by_cases a : sAt l id ≥ 0
   ·have a2 : 0 ≤ sAt l id := a
    simp [a2]
   ·have a2 : ¬ 0 ≤ sAt l id := a
    simp [a2]
 exact Eq.mp (by kernel_rfl) key
theorem x2v : q0T Tryz.prog 194 qT9 := by
 refine q09 q1C (pol := 0) Tryz.func194 rfl (by kernel_rfl) fun args bin ob r bout hDe hob => ?_
 unfold qT9 at hDe
 split at hDe
 ·rename_i a0 a1 a2
  cases hDe
  exact okB (x54 ((q0M q08) a0) a1 a2 (hob.2)) x39 (args_of_vles ⟨hob.1, VLe.refl _, VLe.refl _, trivial⟩)
 ·cases hDe
def qTS (s : q05) : Prop := s.nodes.length ≤ 1000 ∧ s.sessions.length ≤ 1000 ∧ s.marks.length ≤ 1000
noncomputable def qWE (s : q05) : V := q0C 2 (s)
noncomputable def qT8 : q0G := fun args bin => match args, bin with
 | [a0], [] => some (VLe a0 (q0C 1 ((q0B a0))) ∧ qTS (q0B a0), qWE (q0B a0), [])
 | _, _ => none
noncomputable def x69 : Nat → Option (Fl × q0G) := lk [(202, (.ro, qKL))]
theorem qZE : q0D Tryz.prog x69 := q01 qTO (q07)
noncomputable def qZP (s : q05) : Cx := ⟨tt, x69, Tryz.f113.ntmps, [0, 1, 2], [], [], fun _ => none, [], noM, []⟩
noncomputable def qF4 (s : q05) : V := (q0H (q00 1) 1 (q05.nodes s))
theorem x3O (s : q05) (hpre : qTS s) : q0f (qZP s) Tryz.f113 1 [q0C 1 (s)] (fun rr => VLe rr (qWE s)) := by
 have key : (((VLe (qF4 s) (q0H (q00 1) 1 (q0M q04 (qF4 s)))) ∧ (qKf (q0M q04 (qF4 s)))) ∧ ((0 = 0) ∧ ((0 + List.length (q05.sessions s) ≤ 1073741824) ∧ ((q0r 2 (List.length (q05.sessions s)) (gL (q02 1) (q05.sessions s))) ∧ ((∀ i : Nat, ((i < List.length (q05.sessions s)) → (q69 (q02 1 (List.getD (q05.sessions s) i default)) = true))) ∧ ((0 = 0) ∧ ((0 + List.length (q05.marks s) ≤ 1073741824) ∧ ((q0r 5 (List.length (q05.marks s)) (gL (q0A 1) (q05.marks s))) ∧ ((∀ i : Nat, ((i < List.length (q05.marks s)) → (q69 (q0A 1 (List.getD (q05.marks s) i default)) = true))) ∧ (VLe (V.agg [q0H (q00 1) 2 (q2U (q0M q04 (qF4 s))), V.sl (0 + List.length (q05.sessions s)) (q2n 0 (q2o []) (gL (q02 1) (q05.sessions s))) 2, vi (q05.now s), V.sl (0 + List.length (q05.marks s)) (q2n 0 (q2o []) (gL (q0A 1) (q05.marks s))) 2]) (q0C 2 s))))))))))) := by
  delta qF4; delta vi
  obtain ⟨h1, h2, h3⟩ := hpre
  simp only [q0s]
  refine ⟨⟨VLe.refl _, h1⟩, trivial, by omega, fun i hi => ⟨rfl, rfl⟩, fun i hi => rfl, trivial, by omega, fun i hi => ⟨rfl, rfl⟩, fun i hi => rfl, q4u ⟨VLe.refl _, ?_, VLe.refl _, ?_, trivial⟩⟩
  ·rw [Nat.zero_add, qMc]
   exact VLe.refl _
  ·rw [Nat.zero_add, qMc]
   exact VLe.refl _
 exact Eq.mp (by kernel_rfl) key
theorem qYc : q0T Tryz.prog 113 qT8 := by
 refine q09 q1C (pol := 1) Tryz.func113 rfl (by kernel_rfl) fun args bin ob r bout hDe hob => ?_
 unfold qT8 at hDe
 split at hDe
 ·rename_i a0
  cases hDe
  exact okB (x3O (q0B a0) (hob.2)) qZE (args_of_vles ⟨hob.1, trivial⟩)
 ·cases hDe
@[irreducible] noncomputable def q5X (s : q05) (r : q0F) (v : Int) : q05 := (q5H s r v).1
@[irreducible] noncomputable def q5Q (s : q05) (r : q0F) (v : Int) : q0W := (q5H s r v).2
theorem qP1 {l : List q06} {z : q06} {x : Nat} (hx : x ≤ l.length) :
  BLe (.arr 2 (x + 1 + (l.length - x)) (q2n (x + 1) (q2n x (q2n 0 (q2o []) (gL (q02 1) l)) (q2o [q02 1 z])) (q29 (gL (q02 1) l) x)) q0i)
   (.arr 2 (x + 1 + (l.length - x)) (gL (q02 1) (l.take x ++ z :: l.drop x)) q0i) := by
 refine q1B (fun i hi => ?_) (Or.inl rfl)
 have e : q2n (x + 1) (q2n x (q2n 0 (q2o []) (gL (q02 1) l)) (q2o [q02 1 z])) (q29 (gL (q02 1) l) x) i = gL (q02 1) (l.take x ++ z :: l.drop x) i := by
  unfold q2n gL q29
  rw [qIb hx]
  by_cases h1 : i < x
  ·rw [if_pos (by omega), if_pos h1, if_pos h1, if_neg (Nat.not_lt_zero i), Nat.sub_zero]
  ·by_cases h2 : i = x
   ·subst h2
    rw [if_pos (by omega), if_neg h1, if_neg h1, if_pos rfl, Nat.sub_self]
    rfl
   ·rw [if_neg (by omega), if_neg h1, if_neg h2]
    have : x + (i - (x + 1)) = i - 1 := by omega
    rw [this]
 rw [e]
 exact ELe.refl _
def qRU (l : List q06) (id : Int) (now : Int) : Prop := l.length ≤ 1000 ∧ qOl l ∧ inR now 0 9000
noncomputable def q7J (l : List q06) (id : Int) (now : Int) : q0R := q37 l id now
noncomputable def qUG (l : List q06) (id : Int) (now : Int) : List Blk := [(.arr 2 ((q7J l id now).sessions).length (gL (q02 1) ((q7J l id now).sessions)) q0i)]
noncomputable def qUA (l : List q06) (id : Int) (now : Int) : V := .agg [.int .i64 ((q7J l id now).code), .osl 0 ((q7J l id now).sessions).length]
noncomputable def qRG : q0G := fun args bin => match args, bin with
 | [a0, .int .i64 a1, .int .i64 a2], [] => some (VLe a0 (q0H (q02 1) 1 (((q0M q08) a0))) ∧ qRU ((q0M q08) a0) a1 a2, qUA ((q0M q08) a0) a1 a2, qUG ((q0M q08) a0) a1 a2)
 | _, _ => none
noncomputable def qQX (l : List q06) (id : Int) (now : Int) : q0O :=
 ⟨Nat, fun i => ⟨[(0, q0H (q02 1) 1 l), (1, .int .i64 id), (2, .int .i64 now), (6, .oref 448 0 0), (7, .int .i64 i)], [(448, .box [.int .i64 0, .nil])]⟩,
  fun i => i ≤ l.length ∧ ∀ k, k < i → (l.getD k default).id < id, fun i => l.length - i⟩
noncomputable def x3t (l : List q06) (id : Int) (now : Int) : Nat → Option q0O := fun rg_ => match rg_ with
 | 6 => some (qQX l id now)
 | _ => none
noncomputable def x6s : Nat → Option (Fl × q0G) := lk [(248, (.ro, qPE))]
theorem x5t : q0D Tryz.prog x6s := q01 qUr (q07)
noncomputable def qZM (l : List q06) (id : Int) (now : Int) : Cx := ⟨tt, x6s, Tryz.f193.ntmps, [0, 1, 2, 6, 7, 8, 12, 16, 30], [(6, ⟨[(0, none), (1, none), (2, none), (6, none), (7, none)], [(448, [])]⟩)], [], x3t l id now, [], noM, []⟩
noncomputable def q1o (l : List q06) : Int := (↑(List.length l) : Int)
noncomputable def qHs (l : List q06) (id : Int) (now : Int) : Blk := (Blk.arr 2 (List.length (q0R.sessions (q7J l id now))) (gL (q02 1) (q0R.sessions (q7J l id now))) 100)
noncomputable def qHp (l : List q06) (id : Int) (now : Int) : V := (V.agg [vi (q0R.code (q7J l id now)), V.osl 0 (List.length (q0R.sessions (q7J l id now)))])
noncomputable def qAN (l : List q06) (x : Nat) : Bool := (decide ((↑x : Int) < (q1o l)))
noncomputable def qFB (l : List q06) : List q06 := (q0M q08 (q0H (q02 1) 1 l))
theorem x0i (l : List q06) (id : Int) (now : Int) (hpre : qRU l id now) : q3H (qZM l id now) Tryz.f193 [(1, 2)] [q0H (q02 1) 1 (l), .int .i64 (id), .int .i64 (now)] [] (fun rr bs => VLe rr (qUA l id now) ∧ q1d bs (qUG l id now)) := by
 have key : (((VLe (q0H (q02 1) 1 l) (q0H (q02 1) 1 (qFB l))) ∧ (qOJ (qFB l) id)) ∧ (((decide (sAt (qFB l) id ≥ (0 : Int)) = true) → ((VLe (V.agg [vi 6, V.osl 0 0]) (qHp l id now)) ∧ ((BLe (Blk.arr 2 0 (fun (x : Nat) ↦ V.undef) 100) (qHs l id now)) ∧ (True)))) ∧ ((decide (sAt (qFB l) id ≥ (0 : Int)) = false) → (((decide ((q1o l) ≥ (6 : Int)) = true) → ((VLe (V.agg [vi 2, V.osl 0 0]) (qHp l id now)) ∧ ((BLe (Blk.arr 2 0 (fun (x : Nat) ↦ V.undef) 100) (qHs l id now)) ∧ (True)))) ∧ ((decide ((q1o l) ≥ (6 : Int)) = false) → ((∃ x : Nat, ((SLe (AS.mk [(0, q0H (q02 1) 1 l), (1, vi id), (2, vi now), (6, V.oref 448 0 0), (7, vi 0)] [(448, Blk.box [vi 0, V.nil])]) (AS.mk [(0, q0H (q02 1) 1 l), (1, vi id), (2, vi now), (6, V.oref 448 0 0), (7, vi (↑x : Int))] [(448, Blk.box [vi 0, V.nil])])) ∧ ((x ≤ List.length l) ∧ (∀ k : Nat, ((k < x) → (q06.id (List.getD l k default) < id)))))) ∧ (∀ x : Nat, (((x ≤ List.length l) ∧ (∀ k : Nat, ((k < x) → (q06.id (List.getD l k default) < id)))) → ((tq (qAN l x)) ∧ ((tq (qAN l x)) ∧ (((decide ((↑x : Int) < (q1o l)) = true) → (((0 : Int) ≤ (↑x : Int)) ∧ ((↑x : Int) < (q1o l)))) ∧ ((tq (qAN l x)) ∧ ((tq (qAN l x)) ∧ ((tq (qAN l x)) ∧ ((tq (qAN l x)) ∧ (((true = true) → ((decide ((↑x : Int) < (q1o l)) = true) → (decide ((↑x : Int) < (q1o l)) = true))) ∧ (∀ b : Bool, ((b = bif decide ((↑x : Int) < (q1o l)) then decide (q06.id (List.getD l (Int.toNat (↑x : Int)) default) < id) else false) → (((b = true) → ((inK IntKind.i64 ((↑x : Int) + (1 : Int))) ∧ (∃ y : Nat, ((SLe (AS.mk [(0, q0H (q02 1) 1 l), (1, vi id), (2, vi now), (6, V.oref 448 0 0), (7, vi ((↑x : Int) + (1 : Int)))] [(448, Blk.box [vi 0, V.nil])]) (AS.mk [(0, q0H (q02 1) 1 l), (1, vi id), (2, vi now), (6, V.oref 448 0 0), (7, vi (↑y : Int))] [(448, Blk.box [vi 0, V.nil])])) ∧ (((y ≤ List.length l) ∧ (∀ k : Nat, ((k < y) → (q06.id (List.getD l k default) < id)))) ∧ (List.length l - y < List.length l - x)))))) ∧ ((b = false) → ((((0 : Int) ≤ Option.getD none (0 : Int)) ∧ ((Option.getD none (0 : Int) ≤ Option.getD (some (↑x : Int)) (q1o l)) ∧ (Option.getD (some (↑x : Int)) (q1o l) ≤ (q1o l)))) ∧ ((q0r 2 (List.length l) (gL (q02 1) l)) ∧ ((0 = 0) ∧ ((0 + (Int.toNat (Option.getD (some (↑x : Int)) (q1o l)) - 0) ≤ 1073741824) ∧ ((q0r 2 (Int.toNat (Option.getD (some (↑x : Int)) (q1o l)) - 0) (match (motive := Option Int → Nat → V) none with | none => gL (q02 1) l | some val => q29 (gL (q02 1) l) 0)) ∧ ((∀ i : Nat, ((i < Int.toNat (Option.getD (some (↑x : Int)) (q1o l)) - 0) → (q69 (q02 1 (List.getD l i default)) = true))) ∧ ((inK IntKind.i64 (now + (10 : Int))) ∧ ((0 + (Int.toNat (Option.getD (some (↑x : Int)) (q1o l)) - 0) = 0 + (Int.toNat (Option.getD (some (↑x : Int)) (q1o l)) - 0)) ∧ ((0 + (Int.toNat (Option.getD (some (↑x : Int)) (q1o l)) - 0) + 1 ≤ 1073741824) ∧ ((q0r 2 1 (q2o [V.agg [vi id, vi (now + (10 : Int))]])) ∧ ((((0 : Int) ≤ Option.getD (some (↑x : Int)) (0 : Int)) ∧ ((Option.getD (some (↑x : Int)) (0 : Int) ≤ Option.getD none (q1o l)) ∧ (Option.getD none (q1o l) ≤ (q1o l)))) ∧ ((q0r 2 (List.length l) (gL (q02 1) l)) ∧ ((0 + (Int.toNat (Option.getD (some (↑x : Int)) (q1o l)) - 0) + 1 = 0 + (Int.toNat (Option.getD (some (↑x : Int)) (q1o l)) - 0) + 1) ∧ ((0 + (Int.toNat (Option.getD (some (↑x : Int)) (q1o l)) - 0) + 1 + (Int.toNat (Option.getD none (q1o l)) - Int.toNat (Option.getD (some (↑x : Int)) (0 : Int))) ≤ 1073741824) ∧ ((q0r 2 (Int.toNat (Option.getD none (q1o l)) - Int.toNat (Option.getD (some (↑x : Int)) (0 : Int))) (match (motive := Option Int → Nat → V) some (↑x : Int) with | none => gL (q02 1) l | some val => q29 (gL (q02 1) l) (Int.toNat (Option.getD (some (↑x : Int)) (0 : Int))))) ∧ ((∀ i : Nat, ((i < Int.toNat (Option.getD none (q1o l)) - Int.toNat (Option.getD (some (↑x : Int)) (0 : Int))) → (q69 (q02 1 (List.getD l (Int.toNat (Option.getD (some (↑x : Int)) (0 : Int)) + i) default)) = true))) ∧ ((VLe (V.agg [vi 0, V.osl 0 (0 + (Int.toNat (Option.getD (some (↑x : Int)) (q1o l)) - 0) + 1 + (Int.toNat (Option.getD none (q1o l)) - Int.toNat (Option.getD (some (↑x : Int)) (0 : Int))))]) (qHp l id now)) ∧ ((BLe (Blk.arr 2 (0 + (Int.toNat (Option.getD (some (↑x : Int)) (q1o l)) - 0) + 1 + (Int.toNat (Option.getD none (q1o l)) - Int.toNat (Option.getD (some (↑x : Int)) (0 : Int)))) (q2n (0 + (Int.toNat (Option.getD (some (↑x : Int)) (q1o l)) - 0) + 1) (q2n (0 + (Int.toNat (Option.getD (some (↑x : Int)) (q1o l)) - 0)) (q2n 0 (q2o []) (match (motive := Option Int → Nat → V) none with | none => gL (q02 1) l | some val => q29 (gL (q02 1) l) 0)) (q2o [V.agg [vi id, vi (now + (10 : Int))]])) (match (motive := Option Int → Nat → V) some (↑x : Int) with | none => gL (q02 1) l | some val => q29 (gL (q02 1) l) (Int.toNat (Option.getD (some (↑x : Int)) (0 : Int))))) 100) (qHs l id now)) ∧ (True))))))))))))))))))))))))))))))))))))))) := by
  delta qFB; delta qAN; delta qHp; delta qHs; delta q1o; delta vi
  obtain ⟨hl, hr, hnow⟩ := hpre
  unfold inR at hnow
  simp only [q19]
  refine ⟨⟨VLe.refl _, by show l.length ≤ maxLen; unfold maxLen; omega⟩, fun h => ?_, fun h => ⟨fun h2 => ?_, fun h2 => ?_⟩⟩
  ·have e : q7J l id now = (⟨6, []⟩ : q0R) := by
    show q37 l id now = _
    unfold q37
    rw [if_pos (of_decide_eq_true h)]
   rw [e]
   exact ⟨VLe.refl _, q2h _, trivial⟩
  ·have e : q7J l id now = (⟨2, []⟩ : q0R) := by
    show q37 l id now = _
    unfold q37
    rw [if_neg (of_decide_eq_false h), if_pos (by have := of_decide_eq_true h2; omega)]
   rw [e]
   exact ⟨VLe.refl _, q2h _, trivial⟩
  refine ⟨⟨0, SLe.refl _, by omega, fun k hk => absurd hk (Nat.not_lt_zero k)⟩, ?_⟩
  rintro i ⟨hi, hk⟩
  refine ⟨tqI _, tqI _, fun h => ⟨by omega, by simpa using h⟩, tqI _, tqI _, tqI _, tqI _, fun _ h => h, fun b hb => ⟨fun h3 => ?_, fun h3 => ?_⟩⟩
  ·rw [h3] at hb
   have hlt : i < l.length := by
    by_cases a1 : (i : Int) < l.length
    ·omega
    ·rw [decide_eq_false a1] at hb; cases hb
   have a1 : decide ((i : Int) < l.length) = true := decide_eq_true (by omega)
   rw [a1] at hb
   have h4 : (l.getD i default).id < id := of_decide_eq_true hb.symm
   refine ⟨q0U (by omega), i + 1, SLe.refl _, ⟨by omega, fun k h5 => ?_⟩, by omega⟩
   by_cases e : k = i
   ·subst e; exact h4
   ·exact hk k (by omega)
  ·rw [h3] at hb
   have hp : q8N l id = i := qHO hi hk fun hlt g => by
    have a1 : decide ((i : Int) < l.length) = true := decide_eq_true (by omega)
    rw [a1] at hb
    exact of_decide_eq_false (p := (l.getD i default).id < id) hb.symm g
   have e : q7J l id now = (⟨0, l.take i ++ ⟨id, now + 10⟩ :: l.drop i⟩ : q0R) := by
    show q37 l id now = _
    unfold q37
    rw [if_neg (of_decide_eq_false h), if_neg (by have := of_decide_eq_false h2; omega), hp]
   have en : (l.take i ++ ⟨id, now + 10⟩ :: l.drop i : List q06).length = i + 1 + (l.length - i) := by
    rw [List.length_append, List.length_cons, List.length_take, List.length_drop]
    omega
   rw [e]
   simp only [en, Option.getD_some, Option.getD_none, Int.toNat_natCast, Nat.sub_zero, Nat.zero_add]
   exact ⟨⟨by omega, by omega, by omega⟩, fun k hk => ⟨rfl, rfl⟩, trivial, by omega, fun k hk => ⟨rfl, rfl⟩, fun k hk => rfl, q0U (by omega), trivial, by omega, q9o rfl rfl, ⟨by omega, by omega, by omega⟩, fun k hk => ⟨rfl, rfl⟩, trivial, by omega, fun k hk => ⟨rfl, rfl⟩, fun k hk => rfl, VLe.refl _, qP1 (z := ⟨id, now + 10⟩) hi, trivial⟩
 exact Eq.mp (by kernel_rfl) key
theorem x5S : q0T Tryz.prog 193 qRG := by
 refine q0V q1C (tpl := [(1, 2)]) Tryz.func193 rfl (by kernel_rfl) fun args bin ob r bout hDe hob => ?_
 unfold qRG at hDe
 split at hDe
 ·rename_i a0 a1 a2
  cases hDe
  exact okQ (x0i ((q0M q08) a0) a1 a2 (hob.2)) x5t (args_of_vles ⟨hob.1, VLe.refl _, VLe.refl _, trivial⟩) trivial
 ·cases hDe
def qGW (s : q05) (r : q0F) (v : Int) : Prop := True
noncomputable def qXS (s : q05) (r : q0F) (v : Int) : V := .tup [q0C 0 (q5X s r v), q0S 0 (q5Q s r v)]
noncomputable def qSw : q0G := fun args bin => match args, bin with
 | [a0, a1, .int .i64 a2], [] => some (VLe a0 (q0C 1 ((q0B a0))) ∧ VLe a1 (q1b 1 ((q0o a1))) ∧ qGW (q0B a0) (q0o a1) a2, qXS (q0B a0) (q0o a1) a2, [])
 | _, _ => none
noncomputable def x6l : Nat → Option (Fl × q0G) := lk []
theorem x3K : q0D Tryz.prog x6l := q07
noncomputable def x4f (s : q05) (r : q0F) (v : Int) : Cx := ⟨tt, x6l, Tryz.f196.ntmps, [0, 1, 2, 3, 4, 6, 7, 10], [], [], fun _ => none, [], noM, []⟩
theorem x4l (s : q05) (r : q0F) (v : Int) (hpre : qGW s r v) : q0f (x4f s r v) Tryz.f196 0 [q0C 1 (s), q1b 1 (r), .int .i64 (v)] (fun rr => VLe rr (qXS s r v)) := by
 have key : ((((q0F.code r != 0) = true) → (VLe (V.tup [q0C 0 s, V.agg [vi (q0F.code r), vi 0, V.str (ByteArray.mk #[])]]) (V.tup [q0C 0 (q5X s r v), q0S 0 (q5Q s r v)]))) ∧ (((q0F.code r != 0) = false) → (VLe (V.tup [V.agg [q0H (q00 1) 0 (q0F.nodes r), q0H (q02 1) 0 (q05.sessions s), vi (q05.now s), q0H (q0A 1) 0 (q05.marks s)], V.agg [vi 0, vi v, V.str (q0F.path r)]]) (V.tup [q0C 0 (q5X s r v), q0S 0 (q5Q s r v)])))) := by
  delta vi
  refine ⟨fun h => VLe.of_eq ?_, fun h => VLe.of_eq ?_⟩
  ·have h1 : r.code ≠ 0 := by simpa using h
   unfold q5X q5Q q5H
   rw [if_pos h1]
   rfl
  ·have h1 : ¬ r.code ≠ 0 := by simpa using h
   unfold q5X q5Q q5H
   rw [if_neg h1]
   rfl
 exact Eq.mp (by kernel_rfl) key
theorem x4Z : q0T Tryz.prog 196 qSw := by
 refine q09 q1C (pol := 0) Tryz.func196 rfl (by kernel_rfl) fun args bin ob r bout hDe hob => ?_
 unfold qSw at hDe
 split at hDe
 ·rename_i a0 a1 a2
  cases hDe
  exact okB (x4l (q0B a0) (q0o a1) a2 (hob.2.2)) x3K (args_of_vles ⟨hob.1, hob.2.1, VLe.refl _, trivial⟩)
 ·cases hDe
def qRq (s : q05) (o : TOp) : Prop := s.nodes.length ≤ 1000 ∧ qJK s.nodes ∧ 6 ≤ o.kind
noncomputable def qTx (s : q05) (o : TOp) : V := q0S 2 (q3G s.nodes o)
noncomputable def qQr : q0G := fun args bin => match args, bin with
 | [a0, a1], [] => some (VLe a0 (q0d 1 ((q0w a0))) ∧ VLe a1 (q1U 1 ((q1V a1))) ∧ qRq (q0w a0) (q1V a1), qTx (q0w a0) (q1V a1), [])
 | _, _ => none
noncomputable def x7g : Nat → Option (Fl × q0G) := lk [(199, (.ro, qFE)), (255, (.ro, qPV))]
theorem qYb : q0D Tryz.prog x7g := q01 qJ1 (q01 qVt (q07))
noncomputable def qZC (s : q05) (o : TOp) : Cx := ⟨tt, x7g, Tryz.f201.ntmps, [0, 1, 4, 5, 6, 17, 28, 29, 36, 64], [], [], fun _ => none, [], noM, []⟩
noncomputable def q5Z (s : q05) : List q03 := (q0M q04 (q0H (q00 1) 1 (q05.nodes s)))
noncomputable def q6K (o : TOp) : Bool := (TOp.version o != (-1))
noncomputable def qCL (s : q05) (o : TOp) : V := (q0S 1 (q3G (q05.nodes s) o))
theorem qYE (s : q05) (o : TOp) (hpre : qRq s o) : q0f (qZC s o) Tryz.f201 1 [q0d 1 (s), q1U 1 (o)] (fun rr => VLe rr (qTx s o)) := by
 have key : (((VLe (q0H (q00 1) 1 (q05.nodes s)) (q0H (q00 1) 1 (q5Z s))) ∧ (q7w (q5Z s) (TOp.path o))) ∧ (((decide (atN (q5Z s) (TOp.path o) < (0 : Int)) = true) → (VLe (V.agg [vi 4, vi 0, V.str (ByteArray.mk #[])]) (qCL s o))) ∧ ((decide (atN (q5Z s) (TOp.path o) < (0 : Int)) = false) → ((((0 : Int) ≤ atN (q5Z s) (TOp.path o)) ∧ (atN (q5Z s) (TOp.path o) < (↑(List.length (q05.nodes s)) : Int))) ∧ ((((TOp.kind o == 6) = true) → (VLe (V.agg [vi 0, vi (q03.data (List.getD (q05.nodes s) (Int.toNat (atN (q5Z s) (TOp.path o))) default)), V.str (ByteArray.mk #[])]) (qCL s o))) ∧ (((TOp.kind o == 6) = false) → ((((TOp.kind o == 7) = true) → (((VLe (q0H (q00 1) 1 (q05.nodes s)) (q0H (q00 1) 1 (q5Z s))) ∧ (qOd (q5Z s) (TOp.path o))) ∧ (VLe (V.agg [vi 0, vi (↑(List.length (q1F (q5Z s) (TOp.path o))) : Int), V.str (ByteArray.mk #[])]) (qCL s o)))) ∧ (((TOp.kind o == 7) = false) → ((tq (q6K o)) ∧ ((tq (q6K o)) ∧ ((tq (q6K o)) ∧ ((tq (q6K o)) ∧ ((tq (q6K o)) ∧ ((tq (q6K o)) ∧ ((tq (q6K o)) ∧ ((tq (q6K o)) ∧ (((true = true) → (((q6K o) = true) → ((q6K o) = true))) ∧ (∀ b : Bool, ((b = bif TOp.version o != (-1) then TOp.version o != q03.version (List.getD (q05.nodes s) (Int.toNat (atN (q5Z s) (TOp.path o))) default) else false) → (((b = true) → (VLe (V.agg [vi 7, vi 0, V.str (ByteArray.mk #[])]) (qCL s o))) ∧ ((b = false) → (VLe (V.agg [vi 0, vi (q03.version (List.getD (q05.nodes s) (Int.toNat (atN (q5Z s) (TOp.path o))) default)), V.str (ByteArray.mk #[])]) (qCL s o))))))))))))))))))))))) := by
  delta qCL; delta q6K; delta q5Z; delta vi
  obtain ⟨hl, hb, hk⟩ := hpre
  simp only [q0s]
  have hat := q9W (l := s.nodes) (p := o.path)
  refine ⟨⟨VLe.refl _, by show s.nodes.length ≤ maxLen; unfold maxLen; omega⟩, fun h => ?_, fun h => ⟨hat h, fun h2 => ?_, fun h2 => ⟨fun h3 => ⟨⟨VLe.refl _, hl, hb⟩, ?_⟩, fun h3 => ?_⟩⟩⟩
  ·have e : q3G s.nodes o = ⟨4, 0, q1Q⟩ := if_pos (of_decide_eq_true h)
   rw [e]
   exact VLe.refl _
  all_goals have c1 := of_decide_eq_false h
  ·have e : q3G s.nodes o = ⟨0, (atZ s.nodes (atN s.nodes o.path).toNat).data, q1Q⟩ := by
    unfold q3G
    rw [if_neg c1, if_pos (eq_of_beq h2)]
   rw [e]
   exact VLe.refl _
  all_goals have c2 : ¬ o.kind = 6 := by simpa using h2
  ·have e : q3G s.nodes o = ⟨0, (q1F s.nodes o.path).length, q1Q⟩ := by
    unfold q3G
    rw [if_neg c1, if_neg c2, if_pos (eq_of_beq h3)]
   rw [e]
   exact VLe.refl _
  have c3 : ¬ o.kind = 7 := by simpa using h3
  repeat (first | refine And.intro (tqI _) ?_ | refine And.intro (fun _ h => h) ?_)
  rw [x2L]
  intro b hb2
  refine ⟨fun h4 => ?_, fun h4 => ?_⟩
  ·rw [h4] at hb2
   have e : q3G s.nodes o = ⟨7, 0, q1Q⟩ := by
    unfold q3G
    rw [if_neg c1, if_neg c2, if_neg c3, if_pos (of_decide_eq_true hb2.symm)]
   rw [e]
   exact VLe.refl _
  ·rw [h4] at hb2
   have e : q3G s.nodes o = ⟨0, (atZ s.nodes (atN s.nodes o.path).toNat).version, q1Q⟩ := by
    unfold q3G
    rw [if_neg c1, if_neg c2, if_neg c3, if_neg (of_decide_eq_false hb2.symm)]
   rw [e]
   exact VLe.refl _
 exact Eq.mp (by kernel_rfl) key
theorem qZ1 : q0T Tryz.prog 201 qQr := by
 refine q09 q1C (pol := 1) Tryz.func201 rfl (by kernel_rfl) fun args bin ob r bout hDe hob => ?_
 unfold qQr at hDe
 split at hDe
 ·rename_i a0 a1
  cases hDe
  exact okB (qYE (q0w a0) (q1V a1) (hob.2.2)) qYb (args_of_vles ⟨hob.1, hob.2.1, trivial⟩)
 ·cases hDe
theorem qO4 {l : List q03} {ids : List Int} {i : Nat} (h : i < l.length) (h2 : q0t ids (l.getD i default) = false) : q28 (l.take (i + 1)) ids = q28 (l.take i) ids ++ [l.getD i default] := by
 unfold q28
 rw [q3V h, List.filter_append, qM8.2 h2]
theorem qQv {l : List q03} {ids : List Int} {i : Nat} (h : i < l.length) (h2 : q0t ids (l.getD i default) = true) : q28 (l.take (i + 1)) ids = q28 (l.take i) ids := by
 unfold q28
 rw [q3V h, List.filter_append, qM8.1 h2, List.append_nil]
theorem qMT {l : List q06} {c : Int} {i : Nat} (h : i < l.length) (h2 : (l.getD i default).id ≠ c) : q1z (l.take (i + 1)) c = q1z (l.take i) c ++ [l.getD i default] := by
 unfold q1z
 rw [q3V h, List.filter_append]
 congr 1
 rw [List.filter_cons_of_pos (p := fun s : q06 => decide (s.id ≠ c)) (decide_eq_true h2)]
 rfl
theorem qOS {l : List q06} {c : Int} {i : Nat} (h : i < l.length) (h2 : ¬ (l.getD i default).id ≠ c) : q1z (l.take (i + 1)) c = q1z (l.take i) c := by
 unfold q1z
 rw [q3V h, List.filter_append, List.filter_cons_of_neg (p := fun s : q06 => decide (s.id ≠ c)) (fun g => h2 (of_decide_eq_true g))]
 exact List.append_nil _
theorem qNW (l : List q06) (c : Int) (i : Nat) : (q1z (l.take i) c).length ≤ i := by
 have h : (q1z (l.take i) c).length ≤ (l.take i).length := List.length_filter_le _ _
 rw [List.length_take] at h
 omega
theorem qNs (l : List q03) (ids : List Int) (i : Nat) : (q28 (l.take i) ids).length ≤ i := by
 have h : (q28 (l.take i) ids).length ≤ (l.take i).length := List.length_filter_le _ _
 rw [List.length_take] at h
 omega
theorem qOy {ids : List Int} {k : Nat} (z : q03) (h : k < ids.length) : (bif q0t (ids.take k) z then true else bif z.owner != 0 then z.owner == ids.getD k default else false) = q0t (ids.take (k + 1)) z := by
 unfold q0t
 rw [q3V h]
 by_cases a : z.owner = 0
 ·simp [a]
 have a2 : (z.owner != 0) = true := by simpa using a
 by_cases b : z.owner ∈ ids.take k
 ·rw [decide_eq_true (⟨a, b⟩ : z.owner ≠ 0 ∧ z.owner ∈ ids.take k), decide_eq_true (⟨a, List.mem_append_left _ b⟩ : z.owner ≠ 0 ∧ z.owner ∈ ids.take k ++ [ids.getD k default])]
  rfl
 have b2 : decide (z.owner ≠ 0 ∧ z.owner ∈ ids.take k) = false := decide_eq_false fun g => b g.2
 rw [b2, a2]
 by_cases c : z.owner = ids.getD k default
 ·rw [decide_eq_true (⟨a, List.mem_append_right _ (List.mem_singleton.2 c)⟩ : z.owner ≠ 0 ∧ z.owner ∈ ids.take k ++ [ids.getD k default]), beq_iff_eq.2 c]
  rfl
 ·rw [decide_eq_false (p := z.owner ≠ 0 ∧ z.owner ∈ ids.take k ++ [ids.getD k default]) fun g => (List.mem_append.1 g.2).elim b fun g => c (List.mem_singleton.1 g), beq_eq_false_iff_ne.2 c]
  rfl
def qRy (l : List q03) (ids : List Int) : Prop := l.length ≤ 1000 ∧ ids.length ≤ 1000
noncomputable def qGe (l : List q03) (ids : List Int) : List q03 := q28 l ids
noncomputable def qU2 (l : List q03) (ids : List Int) : List Blk := [(.arr 5 (qGe l ids).length (gL (q00 1) (qGe l ids)) q0i)]
noncomputable def qVW (l : List q03) (ids : List Int) : V := .osl 0 (qGe l ids).length
noncomputable def qTD : q0G := fun args bin => match args, bin with
 | [a0, a1], [] => some (VLe a0 (q0H (q00 1) 1 (((q0M q04) a0))) ∧ VLe a1 (q0H q2l 1 (((q0M q24) a1))) ∧ qRy ((q0M q04) a0) ((q0M q24) a1), qVW ((q0M q04) a0) ((q0M q24) a1), qU2 ((q0M q04) a0) ((q0M q24) a1))
 | _, _ => none
noncomputable def qT4 (l : List q03) (ids : List Int) : q0O :=
 ⟨Nat, fun i => ⟨[(0, q0H (q00 1) 1 l), (1, q0H q2l 1 ids), (5, .osl (q1l 5) (q28 (l.take i) ids).length), (6, .int .i64 i)], [(q1l 5, .arr 5 (q28 (l.take i) ids).length (gL (q00 1) (q28 (l.take i) ids)) q0i)]⟩,
  fun i => i ≤ l.length, fun i => l.length - i⟩
noncomputable def qQW (l : List q03) (ids : List Int) : q0O :=
 ⟨Nat × Nat, fun p => ⟨[(0, q0H (q00 1) 1 l), (1, q0H q2l 1 ids), (5, .osl (q1l 5) (q28 (l.take p.1) ids).length), (6, .int .i64 p.1), (7, .bool (q0t (ids.take p.2) (l.getD p.1 default))), (8, .int .i64 p.2)], [(q1l 5, .arr 5 (q28 (l.take p.1) ids).length (gL (q00 1) (q28 (l.take p.1) ids)) q0i)]⟩,
  fun p => p.1 < l.length ∧ p.2 ≤ ids.length, fun p => ids.length - p.2⟩
noncomputable def x0k (l : List q03) (ids : List Int) : Nat → Option q0O := fun rg_ => match rg_ with
 | 3 => some (qT4 l ids)
 | 7 => some (qQW l ids)
 | _ => none
noncomputable def x7j : Nat → Option (Fl × q0G) := lk []
theorem x0b : q0D Tryz.prog x7j := q07
noncomputable def qZf (l : List q03) (ids : List Int) : Cx := ⟨tt, x7j, Tryz.f217.ntmps, [0, 1, 4, 5, 6, 7, 8, 13, 19, 44], [(3, ⟨[(0, none), (1, none), (5, some 5), (6, none)], []⟩), (7, ⟨[(0, none), (1, none), (5, some 5), (6, none), (7, none), (8, none)], []⟩)], [], x0k l ids, [], noM, [7]⟩
noncomputable def q4G (x_1 : Nat × Nat) : Nat := (Int.toNat (↑x_1.1 : Int))
noncomputable def q78 (l : List q03) : Nat × V := (0, q0H (q00 1) 1 l)
noncomputable def qL2 (l : List q03) (ids : List Int) (y : Nat) : AS := (AS.mk [(q78 l), (1, q0H q2l 1 ids), (5, V.osl 32000384 (List.length (q28 (List.take y l) ids))), (6, vi (↑y : Int))] [(32000384, Blk.arr 5 (List.length (q28 (List.take y l) ids)) (gL (q00 1) (q28 (List.take y l) ids)) 100)])
def qII (l : List q03) (ids : List Int) (x_1 : Nat × Nat) : Prop := ((!q0t (List.take x_1.2 ids) (List.getD l x_1.1 default) && q03.owner (List.getD l (q4G x_1) default) != 0) = true)
noncomputable def qIY (l : List q03) (ids : List Int) (x_1 : Nat × Nat) : Nat × Blk := (32000384, Blk.arr 5 (List.length (q28 (List.take x_1.1 l) ids)) (gL (q00 1) (q28 (List.take x_1.1 l) ids)) 100)
def qBq (l : List q03) (ids : List Int) (x_1 : Nat × Nat) : Prop := ((!q0t (List.take x_1.2 ids) (List.getD l x_1.1 default)) = true)
def qHt (l : List q03) (x_1 : Nat × Nat) : Prop := (((0 : Int) ≤ (↑x_1.1 : Int)) ∧ ((↑x_1.1 : Int) < (↑(List.length l) : Int)))
noncomputable def qBY (l : List q03) (ids : List Int) (x : Nat) : Nat := (List.length (q28 (List.take x l) ids))
theorem x1X (l : List q03) (ids : List Int) (hpre : qRy l ids) : q3H (qZf l ids) Tryz.f217 [(0, 5)] [q0H (q00 1) 1 (l), q0H q2l 1 (ids)] [] (fun rr bs => VLe rr (qVW l ids) ∧ q1d bs (qU2 l ids)) := by
 have key : ((∃ x : Nat, ((SLe (AS.mk [(q78 l), (1, q0H q2l 1 ids), (5, V.osl 32000384 0), (6, vi 0)] [(32000384, Blk.arr 5 0 (q2o []) 100)]) (AS.mk [(q78 l), (1, q0H q2l 1 ids), (5, V.osl 32000384 (qBY l ids x)), (6, vi (↑x : Int))] [(32000384, Blk.arr 5 (qBY l ids x) (gL (q00 1) (q28 (List.take x l) ids)) 100)])) ∧ (x ≤ List.length l))) ∧ (∀ x : Nat, ((x ≤ List.length l) → (((decide ((↑x : Int) < (↑(List.length l) : Int)) = true) → (∃ R : Nat × Nat → Prop, ((∃ x_1 : Nat × Nat, ((SLe (AS.mk [(q78 l), (1, q0H q2l 1 ids), (5, V.osl 32000384 (qBY l ids x)), (6, vi (↑x : Int)), (7, V.bool false), (8, vi 0)] [(32000384, Blk.arr 5 (qBY l ids x) (gL (q00 1) (q28 (List.take x l) ids)) 100)]) (AS.mk [(q78 l), (1, q0H q2l 1 ids), (5, V.osl 32000384 (List.length (q28 (List.take x_1.1 l) ids))), (6, vi (↑x_1.1 : Int)), (7, V.bool (q0t (List.take x_1.2 ids) (List.getD l x_1.1 default))), (8, vi (↑x_1.2 : Int))] [(qIY l ids x_1)])) ∧ (((Prod.fst x_1 < List.length l) ∧ (Prod.snd x_1 ≤ List.length ids)) ∧ (R x_1)))) ∧ (∀ x_1 : Nat × Nat, (((Prod.fst x_1 < List.length l) ∧ (Prod.snd x_1 ≤ List.length ids)) → ((R x_1) → (((decide ((↑x_1.2 : Int) < (↑(List.length ids) : Int)) = true) → ((tq (!q0t (List.take x_1.2 ids) (List.getD l x_1.1 default))) ∧ ((tq (!q0t (List.take x_1.2 ids) (List.getD l x_1.1 default))) ∧ (((qBq l ids x_1) → (qHt l x_1)) ∧ ((tq (!q0t (List.take x_1.2 ids) (List.getD l x_1.1 default))) ∧ ((tq (!q0t (List.take x_1.2 ids) (List.getD l x_1.1 default))) ∧ ((tq (!q0t (List.take x_1.2 ids) (List.getD l x_1.1 default))) ∧ ((tq (!q0t (List.take x_1.2 ids) (List.getD l x_1.1 default))) ∧ ((tq (!q0t (List.take x_1.2 ids) (List.getD l x_1.1 default) && q03.owner (List.getD l (q4G x_1) default) != 0)) ∧ ((tq (!q0t (List.take x_1.2 ids) (List.getD l x_1.1 default) && q03.owner (List.getD l (q4G x_1) default) != 0)) ∧ (((qII l ids x_1) → (qHt l x_1)) ∧ ((tq (!q0t (List.take x_1.2 ids) (List.getD l x_1.1 default) && q03.owner (List.getD l (q4G x_1) default) != 0)) ∧ ((tq (!q0t (List.take x_1.2 ids) (List.getD l x_1.1 default) && q03.owner (List.getD l (q4G x_1) default) != 0)) ∧ ((tq (!q0t (List.take x_1.2 ids) (List.getD l x_1.1 default) && q03.owner (List.getD l (q4G x_1) default) != 0)) ∧ ((tq (!q0t (List.take x_1.2 ids) (List.getD l x_1.1 default) && q03.owner (List.getD l (q4G x_1) default) != 0)) ∧ (((qII l ids x_1) → (((0 : Int) ≤ (↑x_1.2 : Int)) ∧ ((↑x_1.2 : Int) < (↑(List.length ids) : Int)))) ∧ ((tq (!q0t (List.take x_1.2 ids) (List.getD l x_1.1 default) && q03.owner (List.getD l (q4G x_1) default) != 0)) ∧ ((tq (!q0t (List.take x_1.2 ids) (List.getD l x_1.1 default) && q03.owner (List.getD l (q4G x_1) default) != 0)) ∧ ((tq (!q0t (List.take x_1.2 ids) (List.getD l x_1.1 default) && q03.owner (List.getD l (q4G x_1) default) != 0)) ∧ ((tq (!q0t (List.take x_1.2 ids) (List.getD l x_1.1 default))) ∧ (((qBq l ids x_1) → ((qBq l ids x_1) → (((q03.owner (List.getD l (q4G x_1) default) != 0) = true) → (qII l ids x_1)))) ∧ (∀ b : Bool, ((b = bif q03.owner (List.getD l (q4G x_1) default) != 0 then q03.owner (List.getD l (q4G x_1) default) == List.getD ids (Int.toNat (↑x_1.2 : Int)) default else false) → (((true = true) → ((q0t (List.take x_1.2 ids) (List.getD l x_1.1 default) = false) → (qBq l ids x_1))) ∧ (∀ b_1 : Bool, ((b_1 = bif q0t (List.take x_1.2 ids) (List.getD l x_1.1 default) then true else b) → ((inK IntKind.i64 ((↑x_1.2 : Int) + (1 : Int))) ∧ (∃ y : Nat × Nat, ((SLe (AS.mk [(q78 l), (1, q0H q2l 1 ids), (5, V.osl 32000384 (List.length (q28 (List.take x_1.1 l) ids))), (6, vi (↑x_1.1 : Int)), (7, V.bool b_1), (8, vi ((↑x_1.2 : Int) + (1 : Int)))] [(qIY l ids x_1)]) (AS.mk [(q78 l), (1, q0H q2l 1 ids), (5, V.osl 32000384 (List.length (q28 (List.take y.1 l) ids))), (6, vi (↑y.1 : Int)), (7, V.bool (q0t (List.take y.2 ids) (List.getD l y.1 default))), (8, vi (↑y.2 : Int))] [(32000384, Blk.arr 5 (List.length (q28 (List.take y.1 l) ids)) (gL (q00 1) (q28 (List.take y.1 l) ids)) 100)])) ∧ (((Prod.fst y < List.length l) ∧ (Prod.snd y ≤ List.length ids)) ∧ ((R y) ∧ (List.length ids - Prod.snd y < List.length ids - Prod.snd x_1)))))))))))))))))))))))))))))))) ∧ ((decide ((↑x_1.2 : Int) < (↑(List.length ids) : Int)) = false) → (((qBq l ids x_1) → ((qHt l x_1) ∧ ((List.length (q28 (List.take x_1.1 l) ids) = List.length (q28 (List.take x_1.1 l) ids)) ∧ ((List.length (q28 (List.take x_1.1 l) ids) + 1 ≤ 1073741824) ∧ ((q0r 5 1 (q2o [q00 1 (List.getD l (q4G x_1) default)])) ∧ ((inK IntKind.i64 ((↑x_1.1 : Int) + (1 : Int))) ∧ (∃ y : Nat, ((SLe (AS.mk [(q78 l), (1, q0H q2l 1 ids), (5, V.osl 32000384 (List.length (q28 (List.take x_1.1 l) ids) + 1)), (6, vi ((↑x_1.1 : Int) + (1 : Int)))] [(32000384, Blk.arr 5 (List.length (q28 (List.take x_1.1 l) ids) + 1) (q2n (List.length (q28 (List.take x_1.1 l) ids)) (gL (q00 1) (q28 (List.take x_1.1 l) ids)) (q2o [q00 1 (List.getD l (q4G x_1) default)])) 100)]) (qL2 l ids y)) ∧ ((y ≤ List.length l) ∧ (List.length l - y < List.length l - x)))))))))) ∧ (((!q0t (List.take x_1.2 ids) (List.getD l x_1.1 default)) = false) → ((inK IntKind.i64 ((↑x_1.1 : Int) + (1 : Int))) ∧ (∃ y : Nat, ((SLe (AS.mk [(q78 l), (1, q0H q2l 1 ids), (5, V.osl 32000384 (List.length (q28 (List.take x_1.1 l) ids))), (6, vi ((↑x_1.1 : Int) + (1 : Int)))] [(qIY l ids x_1)]) (qL2 l ids y)) ∧ ((y ≤ List.length l) ∧ (List.length l - y < List.length l - x))))))))))))))) ∧ ((decide ((↑x : Int) < (↑(List.length l) : Int)) = false) → ((VLe (V.osl 0 (qBY l ids x)) (V.osl 0 (List.length (qGe l ids)))) ∧ ((BLe (Blk.arr 5 (qBY l ids x) (gL (q00 1) (q28 (List.take x l) ids)) 100) (Blk.arr 5 (List.length (qGe l ids)) (gL (q00 1) (qGe l ids)) 100)) ∧ (True)))))))) := by
  delta qBY; delta qHt; delta qBq; delta qIY; delta qII; delta qL2; delta q78; delta q4G; delta vi
  obtain ⟨hl, hi⟩ := hpre
  refine ⟨⟨0, q1X ⟨rfl, VLe.refl _, rfl, VLe.refl _, rfl, VLe.refl _, rfl, VLe.refl _, trivial⟩ ⟨rfl, q2h _, trivial⟩, by omega⟩, fun x hx => ⟨fun h => ?_, fun h => ?_⟩⟩
  ·have hlt : x < l.length := by simpa using h
   have hn := qNs l ids x
   refine ⟨fun p => p.1 = x, ⟨(x, 0), q1X ⟨rfl, VLe.refl _, rfl, VLe.refl _, rfl, VLe.refl _, rfl, VLe.refl _, rfl, q0e (by simp [q0t]), rfl, VLe.refl _, trivial⟩ ⟨rfl, BLe.refl _, trivial⟩, ⟨hlt, Nat.zero_le _⟩, rfl⟩, ?_⟩
   rintro ⟨x', k⟩ ⟨_, hk⟩ hR
   simp only at hR
   subst hR
   simp only at hk ⊢
   simp only [Int.toNat_natCast]
   refine ⟨fun h2 => ?_, fun h2 => ?_⟩
   ·have hlk : k < ids.length := by simpa using h2
    repeat (first | refine And.intro (tqI _) ?_ | refine And.intro (fun _ => ⟨by omega, by omega⟩) ?_ | refine And.intro (fun h _ g => by rw [h, g]; rfl) ?_ | refine And.intro (fun _ h => by rw [h]; rfl) ?_ | intro b hb)
    subst_vars
    have v1 : (k : Int) + 1 = ((k + 1 : Nat) : Int) := by omega
    refine ⟨q0U (by omega), (x', k + 1), q1X ⟨rfl, VLe.refl _, rfl, VLe.refl _, rfl, VLe.refl _, rfl, VLe.refl _, rfl, q0e (qOy _ hlk), rfl, q0J v1, trivial⟩ ⟨rfl, BLe.refl _, trivial⟩, ⟨hlt, by simp only; omega⟩, rfl, by simp only; omega⟩
   ·have hk2 : k = ids.length := by simp at h2; omega
    subst hk2
    simp only [List.take_length]
    refine ⟨fun h3 => ⟨⟨by omega, by omega⟩, trivial, by omega, q9o rfl rfl, q0U (by omega), x' + 1, ?_, by omega, by omega⟩, fun h3 => ⟨q0U (by omega), x' + 1, ?_, by omega, by omega⟩⟩
    ·rw [qO4 hlt (by simpa using h3), List.length_append, List.length_singleton]
     exact q1X ⟨rfl, VLe.refl _, rfl, VLe.refl _, rfl, VLe.refl _, rfl, q0J (by omega), trivial⟩ ⟨rfl, q8M rfl rfl, trivial⟩
    ·rw [qQv hlt (by simpa using h3)]
     exact q1X ⟨rfl, VLe.refl _, rfl, VLe.refl _, rfl, VLe.refl _, rfl, q0J (by omega), trivial⟩ ⟨rfl, BLe.refl _, trivial⟩
  ·have hge : x = l.length := by simp at h; omega
   subst hge
   rw [List.take_length]
   exact ⟨VLe.refl _, BLe.refl _, trivial⟩
 exact Eq.mp (by kernel_rfl) key
theorem x2u : q0T Tryz.prog 217 qTD := by
 refine q0V q1C (tpl := [(0, 5)]) Tryz.func217 rfl (by kernel_rfl) fun args bin ob r bout hDe hob => ?_
 unfold qTD at hDe
 split at hDe
 ·rename_i a0 a1
  cases hDe
  exact okQ (x1X ((q0M q04) a0) ((q0M q24) a1) (hob.2.2)) x0b (args_of_vles ⟨hob.1, hob.2.1, trivial⟩) trivial
 ·cases hDe
@[irreducible] noncomputable def qBv (s : q05) (c : Int) : q05 := ⟨q28 s.nodes [c], q1z s.sessions c, s.now, s.marks⟩
def qSf (s : q05) (c : Int) : Prop := s.nodes.length ≤ 1000 ∧ s.sessions.length ≤ 1000
noncomputable def qW5 (s : q05) (c : Int) : V := q0C 0 (qBv s c)
noncomputable def qRD : q0G := fun args bin => match args, bin with
 | [a0, .int .i64 a1], [] => some (VLe a0 (q0C 1 ((q0B a0))) ∧ qSf (q0B a0) a1, qW5 (q0B a0) a1, [])
 | _, _ => none
noncomputable def qR1 (s : q05) (c : Int) : q0O :=
 ⟨Nat, fun i => ⟨[(1, .int .i64 c), (2, .oref 192 0 0), (4, .oref 320 0 0), (5, .osl (q1l 5) (q1z (s.sessions.take i) c).length), (6, .int .i64 i)], [(q1l 5, .arr 2 (q1z (s.sessions.take i) c).length (gL (q02 1) (q1z (s.sessions.take i) c)) q0i), (192, .box (q0C 1 s).cells), (320, .box [.nil, .nil, .int .i64 0, .nil])]⟩,
  fun i => i ≤ s.sessions.length, fun i => s.sessions.length - i⟩
noncomputable def qZV (s : q05) (c : Int) : Nat → Option q0O := fun rg_ => match rg_ with
 | 3 => some (qR1 s c)
 | _ => none
noncomputable def x5z : Nat → Option (Fl × q0G) := lk [(217, (.ro, qTD))]
theorem x3D : q0D Tryz.prog x5z := q01 x2u (q07)
noncomputable def x0I (s : q05) (c : Int) : Cx := ⟨tt, x5z, Tryz.f195.ntmps, [0, 1, 2, 4, 5, 6, 12, 22], [(3, ⟨[(1, none), (2, none), (4, none), (5, some 2), (6, none)], [(192, []), (320, [])]⟩)], [], qZV s c, [], noM, []⟩
noncomputable def qFV (s : q05) : Nat × Blk := (192, Blk.box [q0H (q00 1) 1 (q05.nodes s), q0H (q02 1) 1 (q05.sessions s), vi (q05.now s), q0H (q0A 1) 1 (q05.marks s)])
noncomputable def qEc : Nat × Blk := (320, Blk.box [V.nil, V.nil, vi 0, V.nil])
noncomputable def qKn (s : q05) (c : Int) (y : Nat) : AS := (AS.mk [(1, vi c), (2, V.oref 192 0 0), (4, V.oref 320 0 0), (5, V.osl 32000384 (List.length (q1z (List.take y (q05.sessions s)) c))), (6, vi (↑y : Int))] [(32000384, Blk.arr 2 (List.length (q1z (List.take y (q05.sessions s)) c)) (gL (q02 1) (q1z (List.take y (q05.sessions s)) c)) 100), (qFV s), qEc])
noncomputable def qFw (s : q05) (c : Int) (x : Nat) : Nat := (List.length (q1z (List.take x (q05.sessions s)) c))
noncomputable def qME (s : q05) (c : Int) (x : Nat) : List (Nat × Blk) := [(32000384, Blk.arr 2 (qFw s c x) (gL (q02 1) (q1z (List.take x (q05.sessions s)) c)) 100), (qFV s), qEc]
noncomputable def qFe (s : q05) : V := (q0H (q00 1) 1 (q05.nodes s))
def qKe (s : q05) (x : Nat) (y : Nat) : Prop := ((y ≤ List.length (q05.sessions s)) ∧ (List.length (q05.sessions s) - y < List.length (q05.sessions s) - x))
theorem x5e (s : q05) (c : Int) (hpre : qSf s c) : q0f (x0I s c) Tryz.f195 0 [q0C 1 (s), .int .i64 (c)] (fun rr => VLe rr (qW5 s c)) := by
 have key : ((∃ x : Nat, ((SLe (AS.mk [(1, vi c), (2, V.oref 192 0 0), (4, V.oref 320 0 0), (5, V.osl 32000384 0), (6, vi 0)] [(32000384, Blk.arr 2 0 (q2o []) 100), (qFV s), qEc]) (AS.mk [(1, vi c), (2, V.oref 192 0 0), (4, V.oref 320 0 0), (5, V.osl 32000384 (qFw s c x)), (6, vi (↑x : Int))] (qME s c x))) ∧ (x ≤ List.length (q05.sessions s)))) ∧ (∀ x : Nat, ((x ≤ List.length (q05.sessions s)) → (((decide ((↑x : Int) < (↑(List.length (q05.sessions s)) : Int)) = true) → ((((0 : Int) ≤ (↑x : Int)) ∧ ((↑x : Int) < (↑(List.length (q05.sessions s)) : Int))) ∧ ((((q06.id (List.getD (q05.sessions s) (Int.toNat (↑x : Int)) default) != c) = true) → ((((0 : Int) ≤ (↑x : Int)) ∧ ((↑x : Int) < (↑(List.length (q05.sessions s)) : Int))) ∧ ((List.length (q1z (List.take x (q05.sessions s)) c) = List.length (q1z (List.take x (q05.sessions s)) c)) ∧ ((List.length (q1z (List.take x (q05.sessions s)) c) + 1 ≤ 1073741824) ∧ ((q0r 2 1 (q2o [q02 1 (List.getD (q05.sessions s) (Int.toNat (↑x : Int)) default)])) ∧ ((inK IntKind.i64 ((↑x : Int) + (1 : Int))) ∧ (∃ y : Nat, ((SLe (AS.mk [(1, vi c), (2, V.oref 192 0 0), (4, V.oref 320 0 0), (5, V.osl 32000384 (List.length (q1z (List.take x (q05.sessions s)) c) + 1)), (6, vi ((↑x : Int) + (1 : Int)))] [(32000384, Blk.arr 2 (List.length (q1z (List.take x (q05.sessions s)) c) + 1) (q2n (qFw s c x) (gL (q02 1) (q1z (List.take x (q05.sessions s)) c)) (q2o [q02 1 (List.getD (q05.sessions s) (Int.toNat (↑x : Int)) default)])) 100), (qFV s), qEc]) (qKn s c y)) ∧ (qKe s x y))))))))) ∧ (((q06.id (List.getD (q05.sessions s) (Int.toNat (↑x : Int)) default) != c) = false) → ((inK IntKind.i64 ((↑x : Int) + (1 : Int))) ∧ (∃ y : Nat, ((SLe (AS.mk [(1, vi c), (2, V.oref 192 0 0), (4, V.oref 320 0 0), (5, V.osl 32000384 (qFw s c x)), (6, vi ((↑x : Int) + (1 : Int)))] (qME s c x)) (qKn s c y)) ∧ (qKe s x y)))))))) ∧ ((decide ((↑x : Int) < (↑(List.length (q05.sessions s)) : Int)) = false) → (((VLe (qFe s) (q0H (q00 1) 1 (q0M q04 (qFe s)))) ∧ ((VLe (V.sl 1 (q2o [vi c]) 1) (q0H q2l 1 (q0M q24 (V.sl 1 (q2o [vi c]) 1)))) ∧ (qRy (q0M q04 (qFe s)) (q0M q24 (V.sl 1 (q2o [vi c]) 1))))) ∧ (VLe (V.agg [q0H (q00 1) 0 (qGe (q0M q04 (qFe s)) (q0M q24 (V.sl 1 (q2o [vi c]) 1))), q0H (q02 1) 0 (q1z (List.take x (q05.sessions s)) c), vi (q05.now s), q0H (q0A 1) 0 (q05.marks s)]) (q0C 0 (qBv s c))))))))) := by
  delta qKe; delta qFe; delta qME; delta qFw; delta qKn; delta qEc; delta qFV; delta vi
  obtain ⟨hn, hs⟩ := hpre
  have ew : q0M q24 (.sl 1 (q2o [.int .i64 c]) 1) = [c] := rfl
  simp only [q0s, ew]
  refine ⟨⟨0, q1X ⟨rfl, VLe.refl _, rfl, VLe.refl _, rfl, VLe.refl _, rfl, VLe.refl _, rfl, VLe.refl _, trivial⟩ ⟨rfl, q2h _, rfl, BLe.refl _, rfl, BLe.refl _, trivial⟩, by omega⟩, fun i hi => ⟨fun h => ?_, fun h => ?_⟩⟩
  ·have hlt : i < s.sessions.length := by simpa using h
   have n1 := qNW s.sessions c i
   simp only [Int.toNat_natCast]
   refine ⟨⟨by omega, by omega⟩, fun h2 => ⟨⟨by omega, by omega⟩, trivial, by omega, q9o rfl rfl, q0U (by omega), i + 1, ?_, by omega, by omega⟩, fun h2 => ⟨q0U (by omega), i + 1, ?_, by omega, by omega⟩⟩
   ·rw [qMT hlt (by simpa using h2), List.length_append, List.length_singleton]
    exact q1X ⟨rfl, VLe.refl _, rfl, VLe.refl _, rfl, VLe.refl _, rfl, VLe.refl _, rfl, q0J (by omega), trivial⟩ ⟨rfl, q8M rfl rfl, rfl, BLe.refl _, rfl, BLe.refl _, trivial⟩
   ·rw [qOS hlt (by simpa using h2)]
    exact q1X ⟨rfl, VLe.refl _, rfl, VLe.refl _, rfl, VLe.refl _, rfl, VLe.refl _, rfl, q0J (by omega), trivial⟩ ⟨rfl, BLe.refl _, rfl, BLe.refl _, rfl, BLe.refl _, trivial⟩
  ·have hge : i = s.sessions.length := by simp at h; omega
   subst hge
   rw [List.take_length]
   refine ⟨⟨VLe.refl _, qGB (fun i hi => ?_) (.inl rfl), hn, by show 1 ≤ 1000; omega⟩, ?_⟩
   ·have : i = 0 := by omega
    subst this
    exact ELe.refl _
   ·unfold qBv
    exact VLe.refl _
 exact Eq.mp (by kernel_rfl) key
theorem qZa : q0T Tryz.prog 195 qRD := by
 refine q09 q1C (pol := 0) Tryz.func195 rfl (by kernel_rfl) fun args bin ob r bout hDe hob => ?_
 unfold qRD at hDe
 split at hDe
 ·rename_i a0 a1
  cases hDe
  exact okB (x5e (q0B a0) a1 (hob.2)) x3D (args_of_vles ⟨hob.1, VLe.refl _, trivial⟩)
 ·cases hDe
theorem qJU {s : q05} {c : Int} {o : TOp} {s' : q05} {r : q0W} (h : doF s c o = (s', r)) : VLe (.tup [q0C 0 s', q0S 0 r]) (.tup [q0C 0 (doS s c o), q0S 0 (doR s c o)]) := by
 obtain ⟨h1, h2⟩ := qQ6 h
 rw [h1, h2]
 exact VLe.refl _
theorem qN8 {s : q05} {c : Int} {o : TOp} {r : q0F} {v : Int} (h : doF s c o = q5H s r v) : VLe (.tup [q0C 0 (q5X s r v), q0S 1 (q5Q s r v)]) (.tup [q0C 0 (doS s c o), q0S 0 (doR s c o)]) := by
 have h2 : q5H s r v = (q5X s r v, q5Q s r v) := by unfold q5X q5Q; rfl
 exact qJU (h.trans h2)
def qTT (s : q05) (c : Int) (o : TOp) : Prop := q0p s.nodes = 0 ∧ q1x s.sessions = 0 ∧ inR s.now 0 9000 ∧ inR c 1 9 ∧ opF o = 0
noncomputable def qWH (s : q05) (c : Int) (o : TOp) : V := .tup [q0C 0 (doS s c o), q0S 0 (doR s c o)]
noncomputable def qSo : q0G := fun args bin => match args, bin with
 | [a0, .int .i64 a1, a2], [] => some (VLe a0 (q0C 1 ((q0B a0))) ∧ VLe a2 (q1U 1 ((q1V a2))) ∧ qTT (q0B a0) a1 (q1V a2), qWH (q0B a0) a1 (q1V a2), [])
 | _, _ => none
noncomputable def x70 : Nat → Option (Fl × q0G) := lk [(193, (.ro, qRG)), (194, (.ro, qT9)), (195, (.ro, qRD)), (196, (.ro, qSw)), (197, (.ro, qR5)), (198, (.ro, qSC)), (200, (.ro, qSv)), (199, (.ro, qFE)), (201, (.ro, qQr))]
theorem x49 : q0D Tryz.prog x70 := q01 x5S (q01 x2v (q01 qZa (q01 x4Z (q01 x4y (q01 x2C (q01 qZH (q01 qJ1 (q01 qZ1 (q07)))))))))
noncomputable def x4F (s : q05) (c : Int) (o : TOp) : Cx := ⟨tt, x70, Tryz.f112.ntmps, [0, 1, 2, 3, 6, 7, 8, 9, 10, 11, 16, 25, 41, 47, 48, 54, 59, 81, 98, 108], [], [], fun _ => none, [], noM, []⟩
noncomputable def q3I (s : q05) : List q03 := (q0M q04 (q0H (q00 1) 1 (q05.nodes s)))
noncomputable def q6I (s : q05) (o : TOp) : V := (q1b 1 (q8s (q3I s) (TOp.path o) (TOp.data o) (TOp.version o)))
noncomputable def q6P (s : q05) : List q06 := (q0M q08 (q0H (q02 1) 1 (q05.sessions s)))
noncomputable def q6b (s : q05) (c : Int) (o : TOp) : V := (V.tup [q0C 0 (doS s c o), q0S 0 (doR s c o)])
def qA1 (s : q05) : Prop := (VLe (q0H (q00 1) 1 (q05.nodes s)) (q0H (q00 1) 1 (q3I s)))
noncomputable def qCB (s : q05) (o : TOp) : V := (q1b 1 (q7o (q3I s) (TOp.path o) (TOp.data o) (0 : Int) (TOp.seq o)))
def qBR (s : q05) : Prop := (VLe (q0C 1 s) (q0C 1 (q0B (q0C 1 s))))
noncomputable def qCJ (s : q05) (c : Int) (o : TOp) : V := (q1b 1 (q7o (q3I s) (TOp.path o) (TOp.data o) c (TOp.seq o)))
noncomputable def qCI (s : q05) (o : TOp) : V := (q1b 1 (q8V (q3I s) (TOp.path o) (TOp.version o)))
theorem x2P (s : q05) (c : Int) (o : TOp) (hpre : qTT s c o) : q0f (x4F s c o) Tryz.f112 0 [q0C 1 (s), .int .i64 (c), q1U 1 (o)] (fun rr => VLe rr (qWH s c o)) := by
 have key : ((((TOp.kind o == 1) = true) → (((VLe (q0H (q02 1) 1 (q05.sessions s)) (q0H (q02 1) 1 (q6P s))) ∧ (qRU (q6P s) c (q05.now s))) ∧ ((((q0R.code (q7J (q6P s) c (q05.now s)) != 0) = true) → (VLe (V.tup [q0C 0 s, V.agg [vi (q0R.code (q7J (q6P s) c (q05.now s))), vi 0, V.str (ByteArray.mk #[])]]) (q6b s c o))) ∧ (((q0R.code (q7J (q6P s) c (q05.now s)) != 0) = false) → (VLe (V.tup [V.agg [q0H (q00 1) 0 (q05.nodes s), q0H (q02 1) 0 (q0R.sessions (q7J (q6P s) c (q05.now s))), vi (q05.now s), q0H (q0A 1) 0 (q05.marks s)], V.agg [vi 0, vi 0, V.str (ByteArray.mk #[])]]) (q6b s c o)))))) ∧ (((TOp.kind o == 1) = false) → (((VLe (q0H (q02 1) 1 (q05.sessions s)) (q0H (q02 1) 1 (q6P s))) ∧ (qRM (q6P s) c (q05.now s))) ∧ ((((!q8I (q6P s) c (q05.now s)) = true) → (VLe (V.tup [q0C 0 s, V.agg [vi 9, vi 0, V.str (ByteArray.mk #[])]]) (q6b s c o))) ∧ (((!q8I (q6P s) c (q05.now s)) = false) → ((((TOp.kind o == 2) = true) → (((qBR s) ∧ (qSf (q0B (q0C 1 s)) c)) ∧ (VLe (V.tup [q0C 0 (qBv (q0B (q0C 1 s)) c), V.agg [vi 0, vi 0, V.str (ByteArray.mk #[])]]) (q6b s c o)))) ∧ (((TOp.kind o == 2) = false) → ((((TOp.kind o == 3) = true) → (((TOp.own o = true) → (((qA1 s) ∧ (qPY (q3I s) (TOp.path o) (TOp.data o) c (TOp.seq o))) ∧ (((qBR s) ∧ ((VLe (qCJ s c o) (q1b 1 (q0o (qCJ s c o)))) ∧ (qGW (q0B (q0C 1 s)) (q0o (qCJ s c o)) (0 : Int)))) ∧ (VLe (V.tup [q0C 0 (q5X (q0B (q0C 1 s)) (q0o (qCJ s c o)) (0 : Int)), q0S 1 (q5Q (q0B (q0C 1 s)) (q0o (qCJ s c o)) (0 : Int))]) (q6b s c o))))) ∧ ((TOp.own o = false) → (((qA1 s) ∧ (qPY (q3I s) (TOp.path o) (TOp.data o) (0 : Int) (TOp.seq o))) ∧ (((qBR s) ∧ ((VLe (qCB s o) (q1b 1 (q0o (qCB s o)))) ∧ (qGW (q0B (q0C 1 s)) (q0o (qCB s o)) (0 : Int)))) ∧ (VLe (V.tup [q0C 0 (q5X (q0B (q0C 1 s)) (q0o (qCB s o)) (0 : Int)), q0S 1 (q5Q (q0B (q0C 1 s)) (q0o (qCB s o)) (0 : Int))]) (q6b s c o))))))) ∧ (((TOp.kind o == 3) = false) → ((((TOp.kind o == 4) = true) → (((qA1 s) ∧ (qSs (q3I s) (TOp.path o) (TOp.version o))) ∧ (((qBR s) ∧ ((VLe (qCI s o) (q1b 1 (q0o (qCI s o)))) ∧ (qGW (q0B (q0C 1 s)) (q0o (qCI s o)) (0 : Int)))) ∧ (VLe (V.tup [q0C 0 (q5X (q0B (q0C 1 s)) (q0o (qCI s o)) (0 : Int)), q0S 1 (q5Q (q0B (q0C 1 s)) (q0o (qCI s o)) (0 : Int))]) (q6b s c o))))) ∧ (((TOp.kind o == 4) = false) → ((((TOp.kind o == 5) = true) → (((qA1 s) ∧ (q7w (q3I s) (TOp.path o))) ∧ (((decide (atN (q3I s) (TOp.path o) ≥ (0 : Int)) = true) → ((((0 : Int) ≤ atN (q3I s) (TOp.path o)) ∧ (atN (q3I s) (TOp.path o) < (↑(List.length (q05.nodes s)) : Int))) ∧ ((inK IntKind.i64 (q03.version (List.getD (q05.nodes s) (Int.toNat (atN (q3I s) (TOp.path o))) default) + (1 : Int))) ∧ (((qA1 s) ∧ (qPD (q3I s) (TOp.path o) (TOp.data o) (TOp.version o))) ∧ (((qBR s) ∧ ((VLe (q6I s o) (q1b 1 (q0o (q6I s o)))) ∧ (qGW (q0B (q0C 1 s)) (q0o (q6I s o)) (q03.version (List.getD (q05.nodes s) (Int.toNat (atN (q3I s) (TOp.path o))) default) + (1 : Int))))) ∧ (VLe (V.tup [q0C 0 (q5X (q0B (q0C 1 s)) (q0o (q6I s o)) (q03.version (List.getD (q05.nodes s) (Int.toNat (atN (q3I s) (TOp.path o))) default) + (1 : Int))), q0S 1 (q5Q (q0B (q0C 1 s)) (q0o (q6I s o)) (q03.version (List.getD (q05.nodes s) (Int.toNat (atN (q3I s) (TOp.path o))) default) + (1 : Int)))]) (q6b s c o))))))) ∧ ((decide (atN (q3I s) (TOp.path o) ≥ (0 : Int)) = false) → (((qA1 s) ∧ (qPD (q3I s) (TOp.path o) (TOp.data o) (TOp.version o))) ∧ (((qBR s) ∧ ((VLe (q6I s o) (q1b 1 (q0o (q6I s o)))) ∧ (qGW (q0B (q0C 1 s)) (q0o (q6I s o)) (0 : Int)))) ∧ (VLe (V.tup [q0C 0 (q5X (q0B (q0C 1 s)) (q0o (q6I s o)) (0 : Int)), q0S 1 (q5Q (q0B (q0C 1 s)) (q0o (q6I s o)) (0 : Int))]) (q6b s c o)))))))) ∧ (((TOp.kind o == 5) = false) → (((VLe (q0d 1 s) (q0d 1 (q0w (q0d 1 s)))) ∧ ((VLe (q1U 1 o) (q1U 1 (q1V (q1U 1 o)))) ∧ (qRq (q0w (q0d 1 s)) (q1V (q1U 1 o))))) ∧ (VLe (V.tup [q0C 0 s, q0S 1 (q3G (q05.nodes (q0w (q0d 1 s))) (q1V (q1U 1 o)))]) (q6b s c o)))))))))))))))) := by
  delta qCI; delta qCJ; delta qBR; delta qCB; delta qA1; delta q6b; delta q6P; delta q6I; delta q3I; delta vi
  obtain ⟨ht, hs, hnow, hc, ho⟩ := hpre
  obtain ⟨hl, hr, hn⟩ := q2L ht
  have hk := q9H hs
  have hsl := hk.1
  simp only [q19, q0s, q2D, q7A, q40, qAa, Int.toNat_natCast, q7o, q8V, q8s]
  have hnl : s.nodes.length ≤ 1000 := by omega
  have hsl2 : s.sessions.length ≤ 1000 := by omega
  have hnm : s.nodes.length ≤ maxLen := by unfold maxLen; omega
  have hsm : s.sessions.length ≤ maxLen := by unfold maxLen; omega
  have hlt : qJK s.nodes := fun z hz => by
   obtain ⟨a1, a2, a3, a4, a5, a6, a7⟩ := hn z hz
   unfold inR at a5 a7
   exact ⟨(q4b a2).1, by omega, a5.1, a7.1⟩
  have hp : 3 ≤ o.kind → o.kind ≤ 8 → 0 < o.path.size ∧ o.path.size ≤ 900 := fun g g2 => by
   have p0 := qMg ho (by unfold q6x inR; omega)
   have := q6g p0
   exact ⟨(q4b (q3p p0)).1, by omega⟩
  have okk : okK o.kind := by
   unfold opF at ho
   split at ho
   ·cases ho
   ·rename_i g
    exact Classical.byContradiction fun g2 => g (.inl g2)
  unfold okK inR at okk
  refine ⟨fun k1 => ⟨⟨VLe.refl _, hsl2, hk.2.1, hnow⟩, fun h => ?_, fun h => ?_⟩, fun k1 => ⟨⟨VLe.refl _, hsm⟩, fun h => ?_, fun hlv => ?_⟩⟩
  ·have e : doF s c o = (s, ⟨(q37 s.sessions c s.now).code, 0, q1Q⟩) := by rw [do1 k1, if_pos (show (q37 s.sessions c s.now).code ≠ 0 from bnT h)]
   exact qJU e
  ·have e : doF s c o = (⟨s.nodes, (q37 s.sessions c s.now).sessions, s.now, s.marks⟩, ⟨0, 0, q1Q⟩) := by rw [do1 k1, if_neg (show ¬ (q37 s.sessions c s.now).code ≠ 0 from bnF h)]
   exact qJU e
  ·have e : doF s c o = (s, ⟨9, 0, q1Q⟩) := by rw [doL k1, if_pos (by simpa using h)]
   exact qJU e
  have lv : ¬ ¬ q8I s.sessions c s.now = true := by simpa using hlv
  have dL := doL (s := s) (c := c) k1
  rw [if_neg lv] at dL
  refine ⟨fun k2 => ⟨⟨VLe.refl _, hnl, hsl2⟩, ?_⟩, fun k2 => ?_⟩
  ·have e : doF s c o = (qBv s c, ⟨0, 0, q1Q⟩) := by
    unfold qBv
    rw [dL, if_pos (eq_of_beq k2)]
   exact qJU e
  have n2 : ¬ o.kind = 2 := by simpa using k2
  rw [if_neg n2] at dL
  refine ⟨fun k3 => ⟨fun ow => ⟨⟨VLe.refl _, hnl, hlt, hp (by have := eq_of_beq k3; omega) okk.2⟩, ⟨VLe.refl _, VLe.refl _, trivial⟩, qN8 ?_⟩, fun ow => ⟨⟨VLe.refl _, hnl, hlt, hp (by have := eq_of_beq k3; omega) okk.2⟩, ⟨VLe.refl _, VLe.refl _, trivial⟩, qN8 ?_⟩⟩, fun k3 => ?_⟩
  ·rw [dL, if_pos (eq_of_beq k3), if_pos ow]
  ·rw [dL, if_pos (eq_of_beq k3), if_neg (by rw [ow]; decide)]
  have n3 : ¬ o.kind = 3 := by simpa using k3
  rw [if_neg n3] at dL
  refine ⟨fun k4 => ⟨⟨VLe.refl _, hnl, hlt⟩, ⟨VLe.refl _, VLe.refl _, trivial⟩, qN8 ?_⟩, fun k4 => ?_⟩
  ·rw [dL, if_pos (eq_of_beq k4)]
  have n4 : ¬ o.kind = 4 := by simpa using k4
  rw [if_neg n4] at dL
  refine ⟨fun k5 => ⟨⟨VLe.refl _, hnm⟩, fun ha => ?_, fun ha => ⟨⟨VLe.refl _, hnl, hlt⟩, ⟨VLe.refl _, VLe.refl _, trivial⟩, qN8 ?_⟩⟩, fun k5 => ⟨⟨VLe.refl _, VLe.refl _, hnl, hlt, ?_⟩, ?_⟩⟩
  ·have a0 : 0 ≤ atN s.nodes o.path := of_decide_eq_true ha
   have a1 : atN s.nodes o.path < s.nodes.length ∨ atN s.nodes o.path = -1 := qDF _ _
   have hm : (s.nodes.getD (atN s.nodes o.path).toNat default) ∈ s.nodes := q4A (by omega)
   have hv := (hn _ hm).2.2.2.2.1
   unfold inR at hv
   refine ⟨⟨a0, by omega⟩, q0U (by omega), ⟨VLe.refl _, hnl, hlt⟩, ⟨VLe.refl _, VLe.refl _, trivial⟩, qN8 ?_⟩
   rw [dL, if_pos (eq_of_beq k5)]
   unfold qPP
   rw [if_pos a0]
  ·have a0 : ¬ 0 ≤ atN s.nodes o.path := of_decide_eq_false ha
   rw [dL, if_pos (eq_of_beq k5)]
   unfold qPP
   rw [if_neg a0]
  all_goals have n5 : ¬ o.kind = 5 := by simpa using k5
  all_goals have n1 : ¬ o.kind = 1 := by simpa using k1
  ·show 6 ≤ o.kind
   omega
  ·have e : doF s c o = (s, q3G s.nodes o) := by rw [dL, if_neg n5]
   exact qJU e
 exact Eq.mp (by kernel_rfl) key
theorem x1i : q0T Tryz.prog 112 qSo := by
 refine q09 q1C (pol := 0) Tryz.func112 rfl (by kernel_rfl) fun args bin ob r bout hDe hob => ?_
 unfold qSo at hDe
 split at hDe
 ·rename_i a0 a1 a2
  cases hDe
  exact okB (x2P (q0B a0) a1 (q1V a2) (hob.2.2)) x49 (args_of_vles ⟨hob.1, VLe.refl _, hob.2.1, trivial⟩)
 ·cases hDe
theorem q7e {s : q05} (h : q1M s = 0) : q0p s.nodes = 0 ∧ q1x s.sessions = 0 ∧ inR s.now 0 9000 ∧ s.marks.length ≤ 40 := by
 unfold q1M at h
 split at h
 ·exact absurd h (by assumption)
 split at h
 ·exact absurd h (by assumption)
 split at h
 ·cases h
 split at h
 ·cases h
 ·rename_i a1 a2 a3 a4
  exact ⟨Classical.not_not.1 a1, Classical.not_not.1 a2, Classical.not_not.1 a3, by omega⟩
theorem qP7 (l : List q06) (c now : Int) : (q37 l c now).sessions.length ≤ l.length + 1 := by
 unfold q37
 split
 ·exact Nat.zero_le _
 split
 ·exact Nat.zero_le _
 ·show (l.take (q8N l c) ++ _ :: l.drop (q8N l c)).length ≤ _
  rw [List.length_append, List.length_cons, List.length_take, List.length_drop]
  omega
theorem qO2 (l : List q03) (p : ByteArray) (v : Int) : (q34 l p v).nodes.length ≤ l.length := by
 unfold q34
 repeat' split
 all_goals first | exact Nat.zero_le _ | skip
 show (l.take _ ++ l.drop _).length ≤ _
 rw [List.length_append, List.length_take, List.length_drop]
 omega
theorem qOA (l : List q03) (p : ByteArray) (d v : Int) : (q2H l p d v).nodes.length ≤ l.length := by
 rcases q5S l p d v with ⟨_, g⟩ | ⟨_, g⟩
 ·rw [g]; exact Nat.zero_le _
 ·rw [g]
  show (q48 _ _ _).length ≤ _
  rw [q9u]
  exact Nat.le_refl _
theorem qA6 {s : q05} {r : q0F} {v : Int} (h : r.nodes.length ≤ s.nodes.length + 1) : (q5H s r v).1.nodes.length ≤ s.nodes.length + 1 ∧ (q5H s r v).1.sessions.length ≤ s.sessions.length + 1 ∧ (q5H s r v).1.marks = s.marks := by
 unfold q5H
 split
 ·exact ⟨Nat.le_succ _, Nat.le_succ _, rfl⟩
 ·exact ⟨h, Nat.le_succ _, rfl⟩
theorem qLe (s : q05) (c : Int) (o : TOp) : (doS s c o).nodes.length ≤ s.nodes.length + 1 ∧ (doS s c o).sessions.length ≤ s.sessions.length + 1 ∧ (doS s c o).marks = s.marks := by
 unfold doS doF
 split
 ·split
  ·exact ⟨Nat.le_succ _, Nat.le_succ _, rfl⟩
  ·exact ⟨Nat.le_succ _, qP7 _ _ _, rfl⟩
 split
 ·exact ⟨Nat.le_succ _, Nat.le_succ _, rfl⟩
 split
 ·refine ⟨?_, ?_, rfl⟩
  ·have : (q28 s.nodes [c]).length ≤ s.nodes.length := List.length_filter_le _ _
   show (q28 s.nodes [c]).length ≤ _
   omega
  ·have : (q1z s.sessions c).length ≤ s.sessions.length := List.length_filter_le _ _
   show (q1z s.sessions c).length ≤ _
   omega
 split
 ·exact qA6 (qKM _ _ _ _ _)
 split
 ·exact qA6 (by have := qO2 s.nodes o.path o.version; omega)
 split
 ·exact qA6 (by have := qOA s.nodes o.path o.data o.version; omega)
 ·exact ⟨Nat.le_succ _, Nat.le_succ _, rfl⟩
def noR : q0W := ⟨0, 0, q1Q⟩
def noS : q05 := ⟨[], [], 0, []⟩
@[irreducible] noncomputable def q3P (s : q05) (c : Int) (o : TOp) : q0N :=
 if q1M s ≠ 0 then ⟨q1M s, noR, noS⟩ else if ¬ inR c 1 9 then ⟨3, noR, noS⟩ else if opF o ≠ 0 then ⟨opF o, noR, noS⟩ else ⟨0, doR s c o, doS s c o⟩
theorem agU {x y : q0N} (h : y = x) : VLe (q0b 0 x) (q0b 0 y) := by rw [h]; exact VLe.refl _
theorem x4e {k : Int} {y : q0N} (h : y = ⟨k, ⟨0, 0, q1Q⟩, ⟨[], [], 0, []⟩⟩) : VLe (.agg [.int .i64 k, .int .i64 0, .int .i64 0, .str ⟨#[]⟩, .nil, .nil, .int .i64 0, .nil]) (q0b 0 y) := by
 rw [h]
 exact q4u ⟨VLe.refl _, VLe.refl _, VLe.refl _, VLe.refl _, q7k _ _, q7k _ _, VLe.refl _, q7k _ _, trivial⟩
theorem ap1 {s : q05} {c : Int} {o : TOp} (h : q1M s ≠ 0) : q3P s c o = ⟨q1M s, ⟨0, 0, q1Q⟩, ⟨[], [], 0, []⟩⟩ := by
 unfold q3P
 rw [if_pos h]
 rfl
theorem ap2 {s : q05} {c : Int} {o : TOp} (h : q1M s = 0) (h2 : ¬ inR c 1 9) : q3P s c o = ⟨3, ⟨0, 0, q1Q⟩, ⟨[], [], 0, []⟩⟩ := by
 unfold q3P
 rw [if_neg (not_not_intro h), if_pos h2]
 rfl
theorem ap3 {s : q05} {c : Int} {o : TOp} (h : q1M s = 0) (h2 : inR c 1 9) (h3 : opF o ≠ 0) : q3P s c o = ⟨opF o, ⟨0, 0, q1Q⟩, ⟨[], [], 0, []⟩⟩ := by
 unfold q3P
 rw [if_neg (not_not_intro h), if_neg (not_not_intro h2), if_pos h3]
 rfl
theorem ap4 {s : q05} {c : Int} {o : TOp} (h : q1M s = 0) (h2 : inR c 1 9) (h3 : opF o = 0) : q3P s c o = ⟨0, doR s c o, doS s c o⟩ := by
 unfold q3P
 rw [if_neg (not_not_intro h), if_neg (not_not_intro h2), if_neg (not_not_intro h3)]
theorem ezT {c : Int} (h : (c != 0) = false) : c = 0 := by simpa using h
theorem dnT {p : Prop} [Decidable p] (h : (!decide p) = true) : ¬ p := by simpa using h
theorem dyT {p : Prop} [Decidable p] (h : (!decide p) = false) : p := by simpa using h
def qY6 (s : q05) (c : Int) (o : TOp) : Prop := s.bd
noncomputable def x6G (s : q05) (c : Int) (o : TOp) : V := q0b 0 (q3P s c o)
noncomputable def x2e : q0G := fun args bin => match args, bin with
 | [a0, .int .i64 a1, a2], [] => some (VLe a0 (q0C 1 ((q0B a0))) ∧ VLe a2 (q1E 1 ((q17 a2))) ∧ qY6 (q0B a0) a1 (q17 a2), x6G (q0B a0) a1 (q17 a2), [])
 | _, _ => none
noncomputable def D44 : Nat → Option (Fl × q0G) := lk [(87, (.ro, qYC)), (110, (.ro, qNU)), (111, (.ro, qRe)), (113, (.ro, qT8)), (112, (.ro, qSo))]
theorem x8O : q0D Tryz.prog D44 := q01 x8s (q01 qRi (q01 x1T (q01 qYc (q01 x1i (q07)))))
noncomputable def x9R (s : q05) (c : Int) (o : TOp) : Cx := ⟨tt, D44, Tryz.f44.ntmps, [0, 1, 2, 3, 5, 6, 7, 8, 9, 10, 13, 18, 22], [], [], fun _ => none, [], noM, []⟩
noncomputable def q9f (s : q05) : V := (q0C 1 (q0B (q0C 1 s)))
theorem x8Q (s : q05) (c : Int) (o : TOp) (hpre : qY6 s c o) : q0f (x9R s c o) Tryz.f44 0 [q0C 1 (s), .int .i64 (c), q1E 1 (o)] (fun rr => VLe rr (x6G s c o)) := by
 have key : (((VLe (q0d 1 s) (q0d 1 (q0w (q0d 1 s)))) ∧ (x4R (q0w (q0d 1 s)))) ∧ ((((q1M (q0w (q0d 1 s)) != 0) = true) → (VLe (V.agg [vi (q1M (q0w (q0d 1 s))), vi 0, vi 0, V.str (ByteArray.mk #[]), V.nil, V.nil, vi 0, V.nil]) (q0b 0 (q3P s c o)))) ∧ (((q1M (q0w (q0d 1 s)) != 0) = false) → ((qEb c) ∧ ((((!decide (inR c 1 9)) = true) → (VLe (V.agg [vi 3, vi 0, vi 0, V.str (ByteArray.mk #[]), V.nil, V.nil, vi 0, V.nil]) (q0b 0 (q3P s c o)))) ∧ (((!decide (inR c 1 9)) = false) → (((VLe (q1U 1 o) (q1U 1 (q1V (q1U 1 o)))) ∧ (qRl (q1V (q1U 1 o)))) ∧ ((((opF (q1V (q1U 1 o)) != 0) = true) → (VLe (V.agg [vi (opF (q1V (q1U 1 o))), vi 0, vi 0, V.str (ByteArray.mk #[]), V.nil, V.nil, vi 0, V.nil]) (q0b 0 (q3P s c o)))) ∧ (((opF (q1V (q1U 1 o)) != 0) = false) → (((VLe (q0C 1 s) (q9f s)) ∧ (qTS (q0B (q0C 1 s)))) ∧ (((VLe (q9f s) (q0C 1 (q0B (q9f s)))) ∧ ((VLe (q1U 1 o) (q1U 1 (q1V (q1U 1 o)))) ∧ (qTT (q0B (q9f s)) c (q1V (q1U 1 o))))) ∧ (VLe (V.agg [vi 0, vi (q0W.code (doR (q0B (q9f s)) c (q1V (q1U 1 o)))), vi (q0W.value (doR (q0B (q9f s)) c (q1V (q1U 1 o)))), V.str (q0W.path (doR (q0B (q9f s)) c (q1V (q1U 1 o)))), q0H (q00 1) 0 (q05.nodes (doS (q0B (q9f s)) c (q1V (q1U 1 o)))), q0H (q02 1) 0 (q05.sessions (doS (q0B (q9f s)) c (q1V (q1U 1 o)))), vi (q05.now (doS (q0B (q9f s)) c (q1V (q1U 1 o)))), q0H (q0A 1) 0 (q05.marks (doS (q0B (q9f s)) c (q1V (q1U 1 o))))]) (q0b 0 (q3P s c o)))))))))))))) := by
  delta q9f; delta vi
  have hbd : s.bd := hpre
  simp only [q2D, q5K, q40, qAa]
  refine ⟨⟨VLe.refl _, hbd⟩, fun h => x4e (ap1 (bnT h)), fun h => ⟨trivial, fun h2 => x4e (ap2 (ezT h) (dnT h2)), fun h2 => ⟨⟨VLe.refl _, trivial⟩, fun h3 => x4e (ap3 (ezT h) (dyT h2) (bnT h3)), fun h3 => ?_⟩⟩⟩
  obtain ⟨f1, f2, f3, f4⟩ := q7e (ezT h)
  have g1 := (q2L f1).1
  have g2 := (q9H f2).1
  exact ⟨⟨VLe.refl _, by omega, by omega, by omega⟩, ⟨VLe.refl _, VLe.refl _, f1, f2, f3, dyT h2, ezT h3⟩, agU (x := ⟨0, doR s c o, doS s c o⟩) (ap4 (ezT h) (dyT h2) (ezT h3))⟩
 exact Eq.mp (by kernel_rfl) key
theorem x9U : q0T Tryz.prog 44 x2e := by
 refine q09 q1C (pol := 0) Tryz.func44 rfl (by kernel_rfl) fun args bin ob r bout hDe hob => ?_
 unfold x2e at hDe
 split at hDe
 ·rename_i a0 a1 a2
  cases hDe
  exact okB (x8Q (q0B a0) a1 (q17 a2) (hob.2.2)) x8O (args_of_vles ⟨hob.1, VLe.refl _, hob.2.1, trivial⟩)
 ·cases hDe
def qNp (s : q05) : Prop := s.nodes.length ≤ 1000 ∧ s.sessions.length ≤ 1000 ∧ s.marks.length ≤ 1000
noncomputable def q4i (s : q05) : q05 := s
noncomputable def qVY (s : q05) : List Blk := [(.arr 5 ((q4i s).nodes).length (gL (q00 1) ((q4i s).nodes)) q0i), (.arr 2 ((q4i s).sessions).length (gL (q02 1) ((q4i s).sessions)) q0i), (.arr 5 ((q4i s).marks).length (gL (q0A 1) ((q4i s).marks)) q0i)]
noncomputable def qWO (s : q05) : V := .agg [.osl 0 ((q4i s).nodes).length, .osl 1 ((q4i s).sessions).length, .int .i64 ((q4i s).now), .osl 2 ((q4i s).marks).length]
noncomputable def qTL : q0G := fun args bin => match args, bin with
 | [a0], [] => some (VLe a0 (q0C 1 ((q0B a0))) ∧ qNp (q0B a0), qWO (q0B a0), qVY (q0B a0))
 | _, _ => none
noncomputable def x6a : Nat → Option (Fl × q0G) := lk [(162, (.ro, qBD)), (163, (.ro, qEe)), (161, (.ro, qLq))]
theorem x5a : q0D Tryz.prog x6a := q01 qG2 (q01 qN4 (q01 qXk (q07)))
noncomputable def qZR (s : q05) : Cx := ⟨tt, x6a, Tryz.f95.ntmps, [0, 1, 2], [], [], fun _ => none, [], noM, []⟩
noncomputable def qCE (s : q05) : List q06 := (q0M q08 (q0H (q02 1) 1 (q05.sessions s)))
noncomputable def qCj (s : q05) : List q03 := (q0M q04 (q0H (q00 1) 1 (q05.nodes s)))
noncomputable def qCU (s : q05) : List q0L := (q0M q0K (q0H (q0A 1) 1 (q05.marks s)))
theorem x3G (s : q05) (hpre : qNp s) : q3H (qZR s) Tryz.f95 [(0, 5), (1, 2), (3, 5)] [q0C 1 (s)] [] (fun rr bs => VLe rr (qWO s) ∧ q1d bs (qVY s)) := by
 have key : (((VLe (q0H (q00 1) 1 (q05.nodes s)) (q0H (q00 1) 1 (qCj s))) ∧ (qAX (qCj s))) ∧ (((VLe (q0H (q02 1) 1 (q05.sessions s)) (q0H (q02 1) 1 (qCE s))) ∧ (qFf (qCE s))) ∧ (((VLe (q0H (q0A 1) 1 (q05.marks s)) (q0H (q0A 1) 1 (qCU s))) ∧ (qKl (qCU s))) ∧ ((VLe (V.agg [V.osl 0 (List.length (q0g (qCj s))), V.osl 1 (List.length (q2i (qCE s))), vi (q05.now s), V.osl 2 (List.length (q5M (qCU s)))]) (V.agg [V.osl 0 (List.length (q05.nodes (q4i s))), V.osl 1 (List.length (q05.sessions (q4i s))), vi (q05.now (q4i s)), V.osl 2 (List.length (q05.marks (q4i s)))])) ∧ ((BLe (Blk.arr 5 (List.length (q0g (qCj s))) (gL (q00 1) (q0g (qCj s))) 100) (Blk.arr 5 (List.length (q05.nodes (q4i s))) (gL (q00 1) (q05.nodes (q4i s))) 100)) ∧ ((BLe (Blk.arr 2 (List.length (q2i (qCE s))) (gL (q02 1) (q2i (qCE s))) 100) (Blk.arr 2 (List.length (q05.sessions (q4i s))) (gL (q02 1) (q05.sessions (q4i s))) 100)) ∧ ((BLe (Blk.arr 5 (List.length (q5M (qCU s))) (gL (q0A 1) (q5M (qCU s))) 100) (Blk.arr 5 (List.length (q05.marks (q4i s))) (gL (q0A 1) (q05.marks (q4i s))) 100)) ∧ (True)))))))) := by
  delta qCU; delta qCj; delta qCE; delta vi
  obtain ⟨h1, h2, h3⟩ := hpre
  simp only [q0s, q19, q4d]
  exact ⟨⟨VLe.refl _, h1⟩, ⟨VLe.refl _, h2⟩, ⟨VLe.refl _, h3⟩, VLe.refl _, BLe.refl _, BLe.refl _, BLe.refl _, trivial⟩
 exact Eq.mp (by kernel_rfl) key
theorem x4T : q0T Tryz.prog 95 qTL := by
 refine q0V q1C (tpl := [(0, 5), (1, 2), (3, 5)]) Tryz.func95 rfl (by kernel_rfl) fun args bin ob r bout hDe hob => ?_
 unfold qTL at hDe
 split at hDe
 ·rename_i a0
  cases hDe
  exact okQ (x3G (q0B a0) (hob.2)) x5a (args_of_vles ⟨hob.1, trivial⟩) trivial
 ·cases hDe
theorem qGq {k : Int} {x : q0N} (h : x = ⟨k, ⟨0, 0, q1Q⟩, ⟨[], [], 0, []⟩⟩) :
  VLe (.agg [.int .i64 k, .int .i64 0, .int .i64 0, .str ⟨#[]⟩, .osl 0 0, .osl 1 0, .int .i64 0, .osl 2 0]) (.agg [.int .i64 x.code, .int .i64 x.reply.code, .int .i64 x.reply.value, .str x.reply.path, .osl 0 x.state.nodes.length, .osl 1 x.state.sessions.length, .int .i64 x.state.now, .osl 2 x.state.marks.length]) ∧
  BLe (.arr 5 0 (fun _ => .undef) 100) (.arr 5 x.state.nodes.length (gL (q00 1) x.state.nodes) 100) ∧ BLe (.arr 2 0 (fun _ => .undef) 100) (.arr 2 x.state.sessions.length (gL (q02 1) x.state.sessions) 100) ∧
  BLe (.arr 5 0 (fun _ => .undef) 100) (.arr 5 x.state.marks.length (gL (q0A 1) x.state.marks) 100) ∧ True := by
 subst h
 exact ⟨VLe.refl _, q2h _, q2h _, q2h _, trivial⟩
theorem qXR {x y : q0N} (h : y = x) :
  VLe (.agg [.int .i64 x.code, .int .i64 x.reply.code, .int .i64 x.reply.value, .str x.reply.path, .osl 0 x.state.nodes.length, .osl 1 x.state.sessions.length, .int .i64 x.state.now, .osl 2 x.state.marks.length]) (.agg [.int .i64 y.code, .int .i64 y.reply.code, .int .i64 y.reply.value, .str y.reply.path, .osl 0 y.state.nodes.length, .osl 1 y.state.sessions.length, .int .i64 y.state.now, .osl 2 y.state.marks.length]) ∧
  BLe (.arr 5 x.state.nodes.length (gL (q00 1) x.state.nodes) 100) (.arr 5 y.state.nodes.length (gL (q00 1) y.state.nodes) 100) ∧ BLe (.arr 2 x.state.sessions.length (gL (q02 1) x.state.sessions) 100) (.arr 2 y.state.sessions.length (gL (q02 1) y.state.sessions) 100) ∧
  BLe (.arr 5 x.state.marks.length (gL (q0A 1) x.state.marks) 100) (.arr 5 y.state.marks.length (gL (q0A 1) y.state.marks) 100) ∧ True := by
 subst h
 exact ⟨VLe.refl _, BLe.refl _, BLe.refl _, BLe.refl _, trivial⟩
def qOh (s : q05) (c : Int) (o : TOp) : Prop := s.bd
noncomputable def q4v (s : q05) (c : Int) (o : TOp) : q0N := q3P s c o
noncomputable def qXO (s : q05) (c : Int) (o : TOp) : List Blk := [(.arr 5 (((q4v s c o).state).nodes).length (gL (q00 1) (((q4v s c o).state).nodes)) q0i), (.arr 2 (((q4v s c o).state).sessions).length (gL (q02 1) (((q4v s c o).state).sessions)) q0i), (.arr 5 (((q4v s c o).state).marks).length (gL (q0A 1) (((q4v s c o).state).marks)) q0i)]
noncomputable def qVL (s : q05) (c : Int) (o : TOp) : V := .agg [.int .i64 ((q4v s c o).code), .int .i64 (((q4v s c o).reply).code), .int .i64 (((q4v s c o).reply).value), .str (((q4v s c o).reply).path), .osl 0 (((q4v s c o).state).nodes).length, .osl 1 (((q4v s c o).state).sessions).length, .int .i64 (((q4v s c o).state).now), .osl 2 (((q4v s c o).state).marks).length]
noncomputable def qR9 : q0G := fun args bin => match args, bin with
 | [a0, .int .i64 a1, a2], [] => some (VLe a0 (q0C 1 ((q0B a0))) ∧ VLe a2 (q1E 1 ((q17 a2))) ∧ qOh (q0B a0) a1 (q17 a2), qVL (q0B a0) a1 (q17 a2), qXO (q0B a0) a1 (q17 a2))
 | _, _ => none
noncomputable def x6H : Nat → Option (Fl × q0G) := lk [(46, (.ro, x2y)), (107, (.ro, qJV)), (108, (.ro, qT6)), (95, (.ro, qTL)), (109, (.ro, qSW))]
theorem qYW : q0D Tryz.prog x6H := q01 x8f (q01 qOM (q01 qYY (q01 x4T (q01 qZm (q07)))))
noncomputable def x4h (s : q05) (c : Int) (o : TOp) : Cx := ⟨tt, x6H, Tryz.f43.ntmps, [0, 1, 2, 3, 5, 6, 7, 8, 9, 10, 14, 19, 24], [], [], fun _ => none, [], noM, []⟩
noncomputable def q43 (s : q05) (c : Int) (o : TOp) : q05 := (q0N.state (q4v s c o))
noncomputable def qES (s : q05) (c : Int) (o : TOp) : V := (V.agg [vi (q0N.code (q4v s c o)), vi (q0W.code (q0N.reply (q4v s c o))), vi (q0W.value (q0N.reply (q4v s c o))), V.str (q0W.path (q0N.reply (q4v s c o))), V.osl 0 (List.length (q05.nodes (q43 s c o))), V.osl 1 (List.length (q05.sessions (q43 s c o))), vi (q05.now (q43 s c o)), V.osl 2 (List.length (q05.marks (q43 s c o)))])
def qIZ (s : q05) (c : Int) (o : TOp) : Prop := ((BLe (Blk.arr 5 0 (fun (x : Nat) ↦ V.undef) 100) (Blk.arr 5 (List.length (q05.nodes (q43 s c o))) (gL (q00 1) (q05.nodes (q43 s c o))) 100)) ∧ ((BLe (Blk.arr 2 0 (fun (x : Nat) ↦ V.undef) 100) (Blk.arr 2 (List.length (q05.sessions (q43 s c o))) (gL (q02 1) (q05.sessions (q43 s c o))) 100)) ∧ ((BLe (Blk.arr 5 0 (fun (x : Nat) ↦ V.undef) 100) (Blk.arr 5 (List.length (q05.marks (q43 s c o))) (gL (q0A 1) (q05.marks (q43 s c o))) 100)) ∧ (True))))
noncomputable def q9M (s : q05) : V := (q0C 1 (q4i (q0B (q0C 1 s))))
noncomputable def qEw (s : q05) (c : Int) (o : TOp) : V := (q0C 1 (doS (q0B (q9M s)) c (q17 (q1E 1 o))))
noncomputable def q6U (s : q05) (c : Int) (o : TOp) : q05 := (q4i (q0B (qEw s c o)))
theorem x2q (s : q05) (c : Int) (o : TOp) (hpre : qOh s c o) : q3H (x4h s c o) Tryz.f43 [(4, 5), (5, 2), (7, 5)] [q0C 1 (s), .int .i64 (c), q1E 1 (o)] [] (fun rr bs => VLe rr (qVL s c o) ∧ q1d bs (qXO s c o)) := by
 have key : (((VLe (q0C 1 s) (q0C 1 (q0B (q0C 1 s)))) ∧ (x0e (q0B (q0C 1 s)))) ∧ ((((q1M (q0B (q0C 1 s)) != 0) = true) → ((VLe (V.agg [vi (q1M (q0B (q0C 1 s))), vi 0, vi 0, V.str (ByteArray.mk #[]), V.osl 0 0, V.osl 1 0, vi 0, V.osl 2 0]) (qES s c o)) ∧ (qIZ s c o))) ∧ (((q1M (q0B (q0C 1 s)) != 0) = false) → ((qDl c) ∧ ((((!decide (inR c 1 9)) = true) → ((VLe (V.agg [vi 3, vi 0, vi 0, V.str (ByteArray.mk #[]), V.osl 0 0, V.osl 1 0, vi 0, V.osl 2 0]) (qES s c o)) ∧ (qIZ s c o))) ∧ (((!decide (inR c 1 9)) = false) → (((VLe (q1E 1 o) (q1E 1 (q17 (q1E 1 o)))) ∧ (qTX (q17 (q1E 1 o)))) ∧ ((((opF (q17 (q1E 1 o)) != 0) = true) → ((VLe (V.agg [vi (opF (q17 (q1E 1 o))), vi 0, vi 0, V.str (ByteArray.mk #[]), V.osl 0 0, V.osl 1 0, vi 0, V.osl 2 0]) (qES s c o)) ∧ (qIZ s c o))) ∧ (((opF (q17 (q1E 1 o)) != 0) = false) → (((VLe (q0C 1 s) (q0C 1 (q0B (q0C 1 s)))) ∧ (qNp (q0B (q0C 1 s)))) ∧ (((VLe (q9M s) (q0C 1 (q0B (q9M s)))) ∧ ((VLe (q1E 1 o) (q1E 1 (q17 (q1E 1 o)))) ∧ (qTV (q0B (q9M s)) c (q17 (q1E 1 o))))) ∧ (((VLe (qEw s c o) (q0C 1 (q0B (qEw s c o)))) ∧ (qNp (q0B (qEw s c o)))) ∧ ((VLe (V.agg [vi 0, vi (q0W.code (doR (q0B (q9M s)) c (q17 (q1E 1 o)))), vi (q0W.value (doR (q0B (q9M s)) c (q17 (q1E 1 o)))), V.str (q0W.path (doR (q0B (q9M s)) c (q17 (q1E 1 o)))), V.osl 0 (List.length (q05.nodes (q6U s c o))), V.osl 1 (List.length (q05.sessions (q6U s c o))), vi (q05.now (q6U s c o)), V.osl 2 (List.length (q05.marks (q6U s c o)))]) (qES s c o)) ∧ ((BLe (Blk.arr 5 (List.length (q05.nodes (q6U s c o))) (gL (q00 1) (q05.nodes (q6U s c o))) 100) (Blk.arr 5 (List.length (q05.nodes (q43 s c o))) (gL (q00 1) (q05.nodes (q43 s c o))) 100)) ∧ ((BLe (Blk.arr 2 (List.length (q05.sessions (q6U s c o))) (gL (q02 1) (q05.sessions (q6U s c o))) 100) (Blk.arr 2 (List.length (q05.sessions (q43 s c o))) (gL (q02 1) (q05.sessions (q43 s c o))) 100)) ∧ ((BLe (Blk.arr 5 (List.length (q05.marks (q6U s c o))) (gL (q0A 1) (q05.marks (q6U s c o))) 100) (Blk.arr 5 (List.length (q05.marks (q43 s c o))) (gL (q0A 1) (q05.marks (q43 s c o))) 100)) ∧ (True))))))))))))))))) := by
  delta q6U; delta qEw; delta q9M; delta qIZ; delta qES; delta q43; delta vi
  have hbd : s.bd := hpre
  simp only [q2D, q5K, q4v, q4i]
  refine ⟨⟨VLe.refl _, hbd⟩, fun h => qGq (ap1 (bnT h)), fun h => ⟨trivial, fun h2 => qGq (ap2 (ezT h) (dnT h2)), fun h2 => ⟨⟨VLe.refl _, trivial⟩, fun h3 => qGq (ap3 (ezT h) (dyT h2) (bnT h3)), fun h3 => ?_⟩⟩⟩
  obtain ⟨f1, f2, f3, f4⟩ := q7e (ezT h)
  have g1 := (q2L f1).1
  have g2 := (q9H f2).1
  have g3 := qLe s c o
  exact ⟨⟨VLe.refl _, by omega, by omega, by omega⟩, ⟨VLe.refl _, VLe.refl _, f1, f2, f3, dyT h2, ezT h3⟩, ⟨VLe.refl _, by omega, by omega, by rw [g3.2.2]; omega⟩, qXR (x := ⟨0, doR s c o, doS s c o⟩) (ap4 (ezT h) (dyT h2) (ezT h3))⟩
 exact Eq.mp (by kernel_rfl) key
theorem qZX : q0T Tryz.prog 43 qR9 := by
 refine q0V q1C (tpl := [(4, 5), (5, 2), (7, 5)]) Tryz.func43 rfl (by kernel_rfl) fun args bin ob r bout hDe hob => ?_
 unfold qR9 at hDe
 split at hDe
 ·rename_i a0 a1 a2
  cases hDe
  exact okQ (x2q (q0B a0) a1 (q17 a2) (hob.2.2)) qYW (args_of_vles ⟨hob.1, VLe.refl _, hob.2.1, trivial⟩) trivial
 ·cases hDe
theorem x0j {n : Int} (h : 0 ≤ n ∧ n ≤ 255) : inK .u8 n := Go.IntWalk.u8_in _ h
def qXy (n : Int) : ByteArray := q4g 1 (q2o [.int .u8 (48 + n)])
theorem qNJ (n : Int) : (qXy n).size = 1 := rfl
def mtA (k : Nat) (out : ByteArray) : ByteArray := if h : 0 < k then mtA (k / 10) (qXy ((k : Int).tmod 10) ++ out) else out
termination_by k
decreasing_by omega
noncomputable def mtF (k : Int) : ByteArray := (⟨#[109]⟩ : ByteArray) ++ mtA k.toNat ⟨#[]⟩
theorem SLe.refl' {s s' : AS} (h : s = s') : SLe s s' := h ▸ SLe.refl s
theorem q8b {α : Type} [Inhabited α] {xs ys : List α} (hl : xs.length = ys.length) (h : ∀ j, j < xs.length → xs.getD j default = ys.getD j default) : xs = ys := by
 refine List.ext_getElem hl fun k h1 h2 => ?_
 have := h k h1
 simpa [h1, h2] using this
theorem qV6 (n : Nat) : ((n : Int)).tdiv 10 = ((n / 10 : Nat) : Int) := rfl
theorem qU0 (n : Nat) : ((n : Int)).tmod 10 = ((n % 10 : Nat) : Int) := rfl
theorem qPa {k : Nat} {out : ByteArray} (h : 0 < k) : mtA k out = mtA (k / 10) (qXy ((k : Int).tmod 10) ++ out) := by
 rw [mtA, dif_pos h]
theorem qOE {out : ByteArray} : mtA 0 out = out := by rw [mtA]; simp
theorem q7I {α : Type} [Inhabited α] {xs : List α} {i j : Nat} {x : α} {f : Nat → α} (hi : i < xs.length) (hj : ∀ j, j < i → xs.getD j default = f j) (hx : x = f i) (h : j < i + 1) : (xs.set i x).getD j default = f j := by
 by_cases e : j = i
 ·subst e; rw [q2S _ _ _ _ hi, hx]
 ·rw [q2X _ _ _ _ e]; exact hj j (by omega)
def qTb (k : Int) : Prop := 0 < k ∧ k < 4611686018427387904
noncomputable def x7m (k : Int) : V := .str (mtF k)
noncomputable def qTk : q0G := fun args bin => match args, bin with
 | [.int .i64 a0], [] => some (qTb a0, x7m a0, [])
 | _, _ => none
noncomputable def qWq (k : Int) : q0O :=
 ⟨Nat × ByteArray, fun p => ⟨[(0, .int .i64 p.1), (3, .str p.2)], []⟩, fun p => mtA k.toNat ⟨#[]⟩ = mtA p.1 p.2 ∧ p.2.size + p.1 ≤ k.toNat, fun p => p.1⟩
noncomputable def x9W (k : Int) : Nat → Option q0O := fun rg_ => match rg_ with
 | 4 => some (qWq k)
 | _ => none
noncomputable def D79 : Nat → Option (Fl × q0G) := lk []
theorem x9A : q0D Tryz.prog D79 := q07
noncomputable def x98 (k : Int) : Cx := ⟨tt, D79, Tryz.f79.ntmps, [0, 2, 3, 5, 7], [(4, ⟨[(0, none), (3, none)], []⟩)], [], x9W k, [], noM, []⟩
theorem x9Q (k : Int) (hpre : qTb k) : q0f (x98 k) Tryz.f79 0 [.int .i64 (k)] (fun rr => VLe rr (x7m k)) := by
 have key : (((decide (k ≤ (0 : Int)) = true) → (VLe (V.str (ByteArray.mk #[(109 : UInt8), (48 : UInt8)])) (V.str (mtF k)))) ∧ ((decide (k ≤ (0 : Int)) = false) → ((∃ x : Nat × ByteArray, ((SLe (AS.mk [(0, vi k), (3, V.str (ByteArray.mk #[]))] []) (AS.mk [(0, vi (↑x.1 : Int)), (3, V.str x.2)] [])) ∧ ((mtA (Int.toNat k) (ByteArray.mk #[]) = mtA x.1 x.2) ∧ (ByteArray.size x.2 + Prod.fst x ≤ Int.toNat k)))) ∧ (∀ x : Nat × ByteArray, (((mtA (Int.toNat k) (ByteArray.mk #[]) = mtA x.1 x.2) ∧ (ByteArray.size x.2 + Prod.fst x ≤ Int.toNat k)) → (((decide ((↑x.1 : Int) > (0 : Int)) = true) → (((10 : Int) ≠ (0 : Int)) ∧ ((inK IntKind.i64 ((48 : Int) + Int.tmod (↑x.1 : Int) (10 : Int))) ∧ ((inK IntKind.u8 ((48 : Int) + Int.tmod (↑x.1 : Int) (10 : Int))) ∧ ((∀ i : Nat, ((i < 1) → (qNa (V.int IntKind.u8 (List.getD [(48 : Int) + Int.tmod (↑x.1 : Int) (10 : Int)] i (0 : Int))) = true))) ∧ ((1 + ByteArray.size x.2 ≤ 4611686018427387904) ∧ (((10 : Int) ≠ (0 : Int)) ∧ ((inK IntKind.i64 (Int.tdiv (↑x.1 : Int) (10 : Int))) ∧ (∃ y : Nat × ByteArray, ((SLe (AS.mk [(0, vi (Int.tdiv (↑x.1 : Int) (10 : Int))), (3, V.str (q4g 1 (q2o [V.int IntKind.u8 ((48 : Int) + Int.tmod (↑x.1 : Int) (10 : Int))]) ++ Prod.snd x))] []) (AS.mk [(0, vi (↑y.1 : Int)), (3, V.str y.2)] [])) ∧ (((mtA (Int.toNat k) (ByteArray.mk #[]) = mtA y.1 y.2) ∧ (ByteArray.size y.2 + Prod.fst y ≤ Int.toNat k)) ∧ (Prod.fst y < Prod.fst x)))))))))))) ∧ ((decide ((↑x.1 : Int) > (0 : Int)) = false) → ((ByteArray.size (ByteArray.mk #[(109 : UInt8)]) + ByteArray.size x.2 ≤ 2 ^ 62) ∧ (VLe (V.str (ByteArray.mk #[(109 : UInt8)] ++ Prod.snd x)) (V.str (mtF k))))))))))) := by
  delta vi
  obtain ⟨h0, h1⟩ := hpre
  refine ⟨fun h => by have := of_decide_eq_true h; omega, fun _ => ⟨⟨(k.toNat, ⟨#[]⟩), SLe.refl' (by simp; omega), rfl, ?_⟩, ?_⟩⟩
  ·show 0 + k.toNat ≤ k.toNat
   omega
  rintro ⟨n, out⟩ ⟨h2, h3⟩
  simp only at h2 h3 ⊢
  refine ⟨fun h => ?_, fun h => ?_⟩
  ·have hn : 0 < n := by have := of_decide_eq_true h; omega
   have e2 := qU0 n
   have e1 := qV6 n
   refine ⟨by omega, q0U (by omega), x0j (by omega), fun i hi => by
    have : i = 0 := by omega
    subst this
    rfl, by omega, by omega, q0U (by omega), (n / 10, qXy ((n : Int).tmod 10) ++ out), SLe.refl' (by rw [e1]; rfl), ⟨by rw [h2, qPa hn], ?_⟩, by simp only; omega⟩
   simp only [ByteArray.size_append, qNJ]
   omega
  ·have hn : n = 0 := by have := of_decide_eq_false h; omega
   subst hn
   refine ⟨?_, q5r ?_⟩
   ·show 1 + out.size ≤ 2 ^ 62
    omega
   ·unfold mtF
    rw [h2, qOE]
 exact Eq.mp (by kernel_rfl) key
theorem qXw : q0T Tryz.prog 79 qTk := by
 refine q09 q1C (pol := 0) Tryz.func79 rfl (by kernel_rfl) fun args bin ob r bout hDe hob => ?_
 unfold qTk at hDe
 split at hDe
 ·rename_i a0
  cases hDe
  exact okB (x9Q a0 (hob)) x9A (args_of_vles ⟨VLe.refl _, trivial⟩)
 ·cases hDe
end Go.Av
