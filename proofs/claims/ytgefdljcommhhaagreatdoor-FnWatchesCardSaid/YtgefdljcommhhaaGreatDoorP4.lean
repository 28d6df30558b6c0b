/- What a source draws of paths, trees and watches: plainly. -/
import Derived.Test.YtgefdljcommhhaaGreatDoorP3
import Derived.Test.YtgefdljcommhhaaGreatDoorP29
namespace Go.Av
set_option linter.unusedVariables false
set_option linter.unusedSimpArgs false

def abcF (k : Int) : ByteArray := ([⟨#[97]⟩, ⟨#[98]⟩, ⟨#[99]⟩] : List ByteArray).getD k.toNat default
def pathD (xs : List Int) : Nat → Int → ByteArray → ByteArray × Int
  | 0, a, p => (p, a)
  | f + 1, a, p => pathD xs f (a + 1) (joinF p (abcF (nextF xs a 3)))
def drawP (xs : List Int) (a : Int) : ByteArray × Int := pathD xs (nextF xs a 4).toNat (a + 1) top
def oddP (k : Int) : ByteArray := ([⟨#[]⟩, ⟨#[97]⟩, ⟨#[47, 47]⟩, ⟨#[47, 65]⟩, ⟨#[47, 97, 47, 98, 47, 99, 47, 100, 47, 101]⟩, ⟨#[47, 97, 98, 99, 100, 101, 102, 103, 104, 105]⟩,
  ⟨#[47, 97, 97, 97, 97, 97, 97, 97, 97, 47, 97, 97, 97, 97, 97, 97, 97, 97, 47, 97, 97, 97, 97, 97, 97]⟩] : List ByteArray).getD k.toNat default
noncomputable def bentP (xs : List Int) (a : Int) : ByteArray × Int :=
  if nextF xs (drawP xs a).2 10 = 0 then ((drawP xs a).1 ++ top, (drawP xs a).2 + 1)
  else if nextF xs (drawP xs a).2 10 = 1 then (oddP (nextF xs ((drawP xs a).2 + 1) 7), (drawP xs a).2 + 2)
  else ((drawP xs a).1, (drawP xs a).2 + 1)
theorem getD_bd {l : List ByteArray} {n k : Nat} (h : ∀ x ∈ l, x.size ≤ n) : (l.getD k default).size ≤ n := by
  rcases Nat.lt_or_ge k l.length with hk | hk
  · have : l.getD k default ∈ l := by simp [hk]
    exact h _ this
  · have : l.getD k default = default := by simp [hk]
    rw [this]
    exact Nat.zero_le _
theorem abcF_size (k : Int) : (abcF k).size ≤ 1 := getD_bd (by decide)
theorem oddP_size (k : Int) : (oddP k).size ≤ 25 := getD_bd (by decide)
theorem joinF_size (p s : ByteArray) : (joinF p s).size ≤ p.size + 1 + s.size := by
  unfold joinF
  split
  · rw [ByteArray.size_append]; show 1 + _ ≤ _; omega
  · rw [ByteArray.size_append, ByteArray.size_append]; show _ + 1 + _ ≤ _; omega
theorem pathD_bd (xs : List Int) : ∀ (f : Nat) (a : Int) (p : ByteArray), (pathD xs f a p).1.size ≤ p.size + 2 * f ∧ (pathD xs f a p).2 = a + f
  | 0, a, p => ⟨Nat.le_refl _, by simp [pathD]⟩
  | f + 1, a, p => by
    have h := pathD_bd xs f (a + 1) (joinF p (abcF (nextF xs a 3)))
    have h1 := joinF_size p (abcF (nextF xs a 3))
    have h2 := abcF_size (nextF xs a 3)
    unfold pathD
    omega
theorem drawP_bd {xs : List Int} {a : Int} (h : okX xs a) : (drawP xs a).1.size ≤ 7 ∧ a + 1 ≤ (drawP xs a).2 ∧ (drawP xs a).2 ≤ a + 4 := by
  have b := nextF_bd h 4
  have h1 := pathD_bd xs (nextF xs a 4).toNat (a + 1) top
  have h2 : top.size = 1 := rfl
  unfold drawP
  omega
theorem bentP_bd {xs : List Int} {a : Int} (h : okX xs a) : (bentP xs a).1.size ≤ 25 ∧ a + 1 ≤ (bentP xs a).2 ∧ (bentP xs a).2 ≤ a + 6 := by
  have h1 := drawP_bd h
  have h2 := oddP_size (nextF xs ((drawP xs a).2 + 1) 7)
  have h3 : top.size = 1 := rfl
  unfold bentP
  split
  · rw [ByteArray.size_append]
    simp only
    omega
  split
  · simp only
    omega
  · simp only
    omega

/-! ### Watches -/
noncomputable def watchD (xs : List Int) : Nat → Int → List Watch → List Watch × Int
  | 0, a, l => (l, a)
  | f + 1, a, l => watchD xs f (drawP xs (a + 1)).2 (if (⟨1 + nextF xs a 3, (drawP xs (a + 1)).1⟩ : Watch) ∈ l then l else l ++ [⟨1 + nextF xs a 3, (drawP xs (a + 1)).1⟩])
noncomputable def rightW (xs : List Int) (a : Int) : List Watch × Int := watchD xs (nextF xs a 7).toNat (a + 1) []
noncomputable def bentW (xs : List Int) (a : Int) : List Watch × Int :=
  if nextF xs (rightW xs a).2 12 = 0 then ((rightW xs a).1 ++ [⟨pickF xs ((rightW xs a).2 + 1) [0, 1, 10], (bentP xs ((rightW xs a).2 + 2)).1⟩], (bentP xs ((rightW xs a).2 + 2)).2)
  else if nextF xs (rightW xs a).2 12 = 1 then (List.replicate 21 ⟨0, nilB⟩, (rightW xs a).2 + 1)
  else ((rightW xs a).1, (rightW xs a).2 + 1)
theorem watchD_bd {xs : List Int} : ∀ (f : Nat) (a : Int) (l : List Watch), okX xs a → a + 5 * f ≤ 1000000 → (∀ w ∈ l, w.path.size ≤ 25) →
    (watchD xs f a l).1.length ≤ l.length + f ∧ (∀ w ∈ (watchD xs f a l).1, w.path.size ≤ 25) ∧ a ≤ (watchD xs f a l).2 ∧ (watchD xs f a l).2 ≤ a + 5 * f
  | 0, a, l, h0, ha, hl => ⟨Nat.le_refl _, hl, Int.le_refl _, by simp [watchD]⟩
  | f + 1, a, l, h0, ha, hl => by
    have h3 := h0.2.2.1
    have hk : okX xs (a + 1) := h0.to (by omega) (by omega)
    have hd := drawP_bd hk
    unfold watchD
    have h := @watchD_bd xs f (drawP xs (a + 1)).2 (if (⟨1 + nextF xs a 3, (drawP xs (a + 1)).1⟩ : Watch) ∈ l then l else l ++ [⟨1 + nextF xs a 3, (drawP xs (a + 1)).1⟩]) (h0.to (by omega) (by omega)) (by omega) (by
      split
      · exact hl
      · intro w hw
        rcases List.mem_append.1 hw with hw | hw
        · exact hl w hw
        · rw [List.mem_singleton.1 hw]
          simp only
          omega)
    refine ⟨?_, h.2.1, by omega, by omega⟩
    refine Nat.le_trans h.1 ?_
    split
    · omega
    · rw [List.length_append, List.length_singleton]
      omega
theorem rightW_bd {xs : List Int} {a : Int} (h : okX xs a) (ha : a ≤ 900000) : (rightW xs a).1.length ≤ 6 ∧ (∀ w ∈ (rightW xs a).1, w.path.size ≤ 25) ∧ a + 1 ≤ (rightW xs a).2 ∧ (rightW xs a).2 ≤ a + 31 := by
  have b := nextF_bd h 7
  have h3 := h.2.2.1
  have := @watchD_bd xs (nextF xs a 7).toNat (a + 1) [] (h.to (by omega) (by omega)) (by omega) (fun w hw => by simp at hw)
  rw [List.length_nil] at this
  unfold rightW
  exact ⟨by omega, this.2.1, by omega, by omega⟩
theorem bentW_bd {xs : List Int} {a : Int} (h : okX xs a) (ha : a ≤ 800000) : (bentW xs a).1.length ≤ 21 ∧ (∀ w ∈ (bentW xs a).1, w.path.size ≤ 25) ∧ a + 1 ≤ (bentW xs a).2 ∧ (bentW xs a).2 ≤ a + 39 := by
  have h3 := h.2.2.1
  have h1 := rightW_bd h (by omega)
  have h2 := bentP_bd (h.to (b := (rightW xs a).2 + 2) (by omega) (by omega))
  unfold bentW
  split
  · refine ⟨?_, ?_, by simp only; omega, by simp only; omega⟩
    · rw [List.length_append, List.length_singleton]; omega
    · intro w hw
      rcases List.mem_append.1 hw with hw | hw
      · exact h1.2.1 w hw
      · rw [List.mem_singleton.1 hw]; exact h2.1
  split
  · refine ⟨?_, ?_, by simp only; omega, by simp only; omega⟩
    · rw [List.length_replicate]
      omega
    · intro w hw
      rw [(List.mem_replicate.1 hw).2]
      exact Nat.zero_le _
  · exact ⟨by simp only; omega, h1.2.1, by simp only; omega, by simp only; omega⟩

/-! ### Trees -/
noncomputable def reqT (xs : List Int) (a : Int) (l : List Znode) (p : ByteArray) : ZResult × Int :=
  if nextF xs (a + 3) 6 = 0 then (setZF l p (nextF xs (a + 4) 99) (-1), a + 5)
  else if nextF xs (a + 3) 6 = 1 then (delZF l p (-1), a + 4)
  else (newZF l p (nextF xs a 99) (pickF xs (a + 1) [0, 0, 1, 2]) (decide (nextF xs (a + 2) 5 = 0)), a + 4)
noncomputable def treeD (xs : List Int) : Nat → Int → List Znode → List Znode × Int
  | 0, a, l => (l, a)
  | f + 1, a, l => treeD xs f (reqT xs (drawP xs a).2 l (drawP xs a).1).2 (if (reqT xs (drawP xs a).2 l (drawP xs a).1).1.code = 0 then (reqT xs (drawP xs a).2 l (drawP xs a).1).1.nodes else l)
noncomputable def rightT (xs : List Int) (a : Int) : List Znode × Int := treeD xs (nextF xs (a + 1) 12).toNat (a + 2) [⟨top, nextF xs a 9, 0, 0, 0⟩]
noncomputable def bentT (xs : List Int) (a : Int) : List Znode × Int :=
  let l := (rightT xs a).1
  let b := (rightT xs a).2
  let i := (nextF xs b l.length).toNat
  let z := atZ l i
  let j := nextF xs (b + 1) 14
  if j = 0 then (l.set i ⟨(bentP xs (b + 2)).1, z.data, z.version, z.owner, z.next⟩, (bentP xs (b + 2)).2)
  else if j = 1 then (l.set i ⟨z.path, pickF xs (b + 2) [-1, 10000], z.version, z.owner, z.next⟩, b + 3)
  else if j = 2 then (l.set i ⟨z.path, z.data, pickF xs (b + 2) [-1, 999, 1000], z.owner, z.next⟩, b + 3)
  else if j = 3 then (l.set i ⟨z.path, z.data, z.version, pickF xs (b + 2) [3, 10], z.next⟩, b + 3)
  else if j = 4 then (l.set i ⟨z.path, z.data, z.version, z.owner, pickF xs (b + 2) [100, 101]⟩, b + 3)
  else if j = 5 then (List.replicate 21 ⟨nilB, 0, 0, 0, 0⟩, b + 2)
  else (l, b + 2)
/-- A tree that is drawn. -/
def okT (l : List Znode) : Prop := l.length ≤ 20 ∧ (∀ z ∈ l, z.path.size ≤ 25) ∧ ∃ z ∈ l, z.path = top
theorem mem_set' {α : Type} {l : List α} {i : Nat} {x y : α} (h : y ∈ l.set i x) : y ∈ l ∨ y = x := List.mem_or_eq_of_mem_set h

end Go.Av
