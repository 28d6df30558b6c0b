/- What the law's opening tells of an argument, as an abstract value: the flat cells of a value of a type. -/
import Derived.Test.YtnfelcpanphhlaaA9
import Derived.DataReads
namespace Go.Av

def aggT (P : Program) (t : Nat) : Bool := match P.underlying t with
  | some d => isAggD d
  | none => false

/-- The cells of a value of type t that reads d; all slices and pointers under the tag 1. -/
def cellsD {H : Type} (P : Program) : Nat → Nat → DataW H → List V
  | 0, _, _ => []
  | fuel + 1, t, d => match P.underlying t, d with
    | some (.int k), .lit (.int _ n) => [.int k n]
    | some .bool, .lit (.bool b) => [.bool b]
    | some .string, .lit (.string bs) => [.str ⟨bs.toArray⟩]
    | some (.slice _), .nil => [.nil]
    | some (.slice e), .slice elems _ => [.sl elems.length (fun i => elemV (aggT P e) (cellsD P fuel e (elems.getD i .nil))) 1]
    | some (.struct fs), .agg parts => (fs.toList.zip parts).flatMap fun p => cellsD P fuel p.1.type p.2
    | _, _ => [.undef]

/-- The types that this reading covers: numbers, bools, texts, slices of such, structs whose fields lie one behind the other. -/
def contig (P : Program) : List Field → Nat → Nat → Bool
  | [], off, n => Nat.beq off n
  | f :: r, off, n => Nat.beq f.offset off && contig P r (off + P.cellsOf f.type) n

def plainT (P : Program) : Nat → Nat → Bool
  | 0, _ => false
  | fuel + 1, t => match P.underlying t with
    | some (.int _) => Nat.beq (P.cellsOf t) 1
    | some .bool => Nat.beq (P.cellsOf t) 1
    | some .string => Nat.beq (P.cellsOf t) 1
    | some (.slice e) => Nat.beq (P.cellsOf t) 1 && Nat.ble 1 (P.cellsOf e) && plainT P fuel e
    | some (.struct fs) => contig P fs.toList 0 (P.cellsOf t) && fs.toList.all fun f => plainT P fuel f.type
    | _ => false

/-- The cells are what they read. -/
def Reads (w : World) (vs : List V) (cs : List Value) : Prop :=
  vs.length = cs.length ∧ ∀ j, j < cs.length → PRep w (fun b => b < w.heap.size) (vs.getD j .undef) (cs.getD j Go.undef)

theorem Reads.one {w : World} {v : V} {x : Value} (h : PRep w (fun b => b < w.heap.size) v x) : Reads w [v] [x] :=
  ⟨rfl, fun j hj => by
    have : j = 0 := by simpa using hj
    subst this
    simpa using h⟩

theorem Reads.append {w : World} {vs vs' : List V} {cs cs' : List Value} (h : Reads w vs cs) (h' : Reads w vs' cs') : Reads w (vs ++ vs') (cs ++ cs') := by
  refine ⟨by simp [h.1, h'.1], fun j hj => ?_⟩
  rcases Nat.lt_or_ge j cs.length with hlt | hge
  · have e1 : (vs ++ vs').getD j .undef = vs.getD j .undef := by simp [List.getD, List.getElem?_append_left (by rw [h.1]; exact hlt)]
    have e2 : (cs ++ cs').getD j Go.undef = cs.getD j Go.undef := by simp [List.getD, List.getElem?_append_left hlt]
    rw [e1, e2]; exact h.2 j hlt
  · have e1 : (vs ++ vs').getD j .undef = vs'.getD (j - cs.length) .undef := by simp [List.getD, List.getElem?_append_right (by rw [h.1]; exact hge), h.1]
    have e2 : (cs ++ cs').getD j Go.undef = cs'.getD (j - cs.length) Go.undef := by simp [List.getD, List.getElem?_append_right hge]
    rw [e1, e2]
    exact h'.2 _ (by simp at hj; omega)

theorem Reads.nil {w : World} : Reads w [] [] := ⟨rfl, fun j hj => by simp at hj⟩

theorem elemV_cells {agg : Bool} {cs : List V} (h : agg = false → ∃ c, cs = [c] ∧ ∀ l, c ≠ .agg l) : (elemV agg cs).cells = cs := by
  cases agg with
  | true => rfl
  | false =>
    obtain ⟨c, rfl, hc⟩ := h rfl
    unfold elemV
    simp only [List.headD_cons]
    cases c <;> first | rfl | exact absurd rfl (hc _)

theorem mapM_at {α β : Type} {f : α → Option β} : ∀ {l : List α} {r : List β}, l.mapM f = some r → r.length = l.length ∧ ∀ (j : Nat) (x : α), l[j]? = some x → ∃ y, r[j]? = some y ∧ f x = some y
  | [], r, h => by
    simp at h
    subst h
    exact ⟨rfl, fun j x hx => by simp at hx⟩
  | a :: l, r, h => by
    rw [List.mapM_cons] at h
    cases ha : f a with
    | none => rw [ha] at h; simp at h
    | some b =>
      cases hl : l.mapM f with
      | none => rw [ha, hl] at h; simp at h
      | some bs =>
        rw [ha, hl] at h
        simp at h
        subst h
        obtain ⟨h1, h2⟩ := mapM_at hl
        refine ⟨by simp [h1], fun j x hx => ?_⟩
        cases j with
        | zero => simp at hx; subst hx; exact ⟨b, by simp, ha⟩
        | succ j => simpa using h2 j x (by simpa using hx)

end Go.Av
