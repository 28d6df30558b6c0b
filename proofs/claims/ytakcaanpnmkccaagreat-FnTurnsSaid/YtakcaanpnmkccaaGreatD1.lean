/- slices.Sort and slices.Compact over a row of whole numbers of one's own, from the kit's contracts. -/
import Derived.Test.YtakcaanpnmkccaaGreatC1
import Derived.Sort.OwnSortedInts
import Derived.Shelf.Slices.CompactI
namespace Go.Av
set_option linter.unusedVariables false
set_option linter.unusedSimpArgs false
open Go.Sort

theorem row_own {w : World} {Fr : Nat → Nat → Prop} {ι : Iota} {b n q : Nat} {cells : Array Value} {e : TypeId} {os : Array Obj} {d : List Int} (hh : w.heap[b]? = some (.cells cells e (0, 0))) (hn : d.length = n) (hsz : n ≤ cells.size) :
    OwnB (grow (putRow (Value.int .i64) (Sort.ahead w q) b 0 d.toArray) os) Fr ι b 1 n (.arr 1 n (gL encI d) tagS) := by
  refine ⟨rfl, rfl, _, e, heap_sortedI d.toArray hh, by simp [putCells]; omega, fun i hi => rfl, fun i j hi hj => ?_⟩
  have hj0 : j = 0 := by omega
  subst hj0
  have h1 := take_putCellsI cells d (by omega)
  have h2 : ((putCells (Value.int .i64) 0 d.toArray cells).toList.take d.length)[i]? = (d.map (Value.int .i64))[i]? := by rw [h1]
  have hi' : i < d.length := by omega
  rw [List.getElem?_take_of_lt hi'] at h2
  have h3 : (putCells (Value.int .i64) 0 d.toArray cells).getD (i * 1 + 0) Go.undef = Value.int .i64 d[i] := by
    rw [Nat.mul_one, Nat.add_zero, Array.getD_eq_getD_getElem?, ← Array.getElem?_toList, h2]
    simp [hi']
  rw [h3]
  have h4 : (gL encI d i).cells.getD 0 .undef = .int .i64 d[i] := by simp [gL, encI, V.cells, hi']
  rw [h4]
  exact .int _ _

theorem row_ext {w : World} {X0 io : Nat → Prop} {ι : Iota} {b n q : Nat} {cells : Array Value} {e : TypeId} {os : Array Obj} {d : List Int} (hh : w.heap[b]? = some (.cells cells e (0, 0))) (hn : d.length = n) (hsz : n ≤ cells.size)
    (hi : ι 0 = some (b, 1, n)) (hio : io b) :
    Ext w (grow (putRow (Value.int .i64) (Sort.ahead w q) b 0 d.toArray) os) X0 io ι 1 [.arr 1 n (gL encI d) tagS] ι (fun _ _ => False) := by
  have hg := grownBy_sortedI (w := w) (g := b) (n := q) (os := os) d.toArray
  refine
    { own := fun id blk b' sz k hl hk => ?_
      nob := fun id blk hl hk => ?_
      inj := fun id id' blk blk' r r' h1 h2 _ _ _ => ?_
      fr := fun t b hb => hb.elim, frS := fun b hb => hb, fr0 := fun t b hb => hb, fr2 := fun t b _ hb => hb.elim, cl := fun t b _ hb => hb.elim
      same := fun id _ => rfl
      os := hg.os, tape := hg.tape, output := hg.output, hsize := hg.size
      frame := fun k hk hno => hg.block k hk fun e1 => hno (by cases e1; exact hio)
      shape := fun k s hs => ?_ }
  · have h0 : id = 0 := by
      cases id with
      | zero => rfl
      | succ id => simp at hl
    subst h0
    simp at hl
    subst hl
    rw [hi] at hk
    cases hk
    exact ⟨row_own hh hn hsz, .inr ⟨hio, by decide⟩⟩
  · have h0 : id = 0 := by
      cases id with
      | zero => rfl
      | succ id => simp at hl
    subst h0
    rw [hi] at hk
    cases hk
  · have h0 : id = 0 := by
      cases id with
      | zero => rfl
      | succ id => simp at h1
    have h0' : id' = 0 := by
      cases id' with
      | zero => rfl
      | succ id => simp at h2
    rw [h0, h0']
  · by_cases hkb : k = b
    · subst hkb
      unfold World.shape? at hs ⊢
      rw [hh] at hs
      rw [heap_sortedI d.toArray hh]
      simpa [putCells] using hs
    · have hks : k < w.heap.size := by
        unfold World.shape? at hs
        cases hq : w.heap[k]? with
        | none => rw [hq] at hs; simp at hs
        | some o => exact (Array.getElem?_eq_some_iff.1 hq).1
      unfold World.shape? at hs ⊢
      rw [hg.block k hks fun e1 => hkb (by cases e1; rfl)]
      exact hs

theorem ext_same {w : World} {X0 io : Nat → Prop} {ι : Iota} {g : Nat → V} (hi : ι 0 = none) : Ext w w X0 io ι 1 [.arr 1 0 g tagS] ι (fun _ _ => False) where
  own := fun id blk b' sz k hl hk => by
    cases id with
    | zero => rw [hi] at hk; cases hk
    | succ id => simp at hl
  nob := fun id blk hl hk => by
    cases id with
    | zero => simp at hl; subst hl; exact ⟨_, _, _, rfl⟩
    | succ id => simp at hl
  inj := fun id id' blk blk' r r' h1 h2 _ _ _ => by
    cases id with
    | succ id => simp at h1
    | zero => cases id' with
      | succ id => simp at h2
      | zero => rfl
  fr := fun t b hb => hb.elim
  frS := fun b hb => hb
  fr0 := fun t b hb => hb
  fr2 := fun t b _ hb => hb.elim
  cl := fun t b _ hb => hb.elim
  same := fun id _ => rfl
  os := rfl
  tape := rfl
  output := rfl
  hsize := Nat.le_refl _
  frame := fun _ _ _ => rfl
  shape := fun _ _ h => h

/-- The numbers of a row. -/
def rowI (n : Nat) (g : Nat → V) : List Int := (List.range n).map fun i => decI (g i)
theorem rowI_gL (xs : List Int) : rowI xs.length (gL encI xs) = xs := decL_encL decI_encI 1 xs
@[simp] theorem rowI_len (n : Nat) (g : Nat → V) : (rowI n g).length = n := by simp [rowI]

def sortI (xs : List Int) : List Int := xs.mergeSort fun x y => decide (x ≤ y)
@[simp] theorem sortI_len (xs : List Int) : (sortI xs).length = xs.length := by simp [sortI]
def compI (xs : List Int) : List Int := Lib.compact xs ++ List.replicate (xs.length - (Lib.compact xs).length) 0

def ints (n : Nat) (g : Nat → V) : Prop := ∀ i, i < n → g i = .int .i64 (decI (g i))
theorem ints_gL (xs : List Int) (n : Nat) : ints n (gL encI xs) := fun i _ => rfl

def sortSp : FSpec := fun args bin => match args, bin with
  | [.osl 0 n], [.arr 1 n' g _] => some ((n = n' ∧ n < 4611686018427387904 ∧ ints n g), .tup [], [.arr 1 n' (gL encI (sortI (rowI n g))) tagS])
  | _, _ => none

theorem sort_sound {P : Program} {f : Nat} (hen : ∀ vals w, (callFunc f vals).run P w = .ok (.enter f vals) w)
    (hc : ∀ (blk off cap : Nat) (zs : List Int) (w : World), Holds (Value.int .i64) w blk off zs.toArray → blk < w.heap.size → zs.length < 4611686018427387904 →
      Calls P f #[.slice (some ⟨blk, off, none⟩) zs.length cap] w fun e w' => e = .returned (.tuple #[]) ∧ ∃ n os, w' = grow (putRow (Value.int .i64) (Sort.ahead w n) blk off (zs.mergeSort fun x y => decide (x ≤ y)).toArray) os)
    (hn : ∀ (p : Option Addr) (cap : Nat) (w : World), Calls P f #[.slice p 0 cap] w fun e w' => e = .returned (.tuple #[]) ∧ w' = w) : Sound P f sortSp := by
  refine ⟨fun args bin ob r bout hD hob vals w X0 io ι Fr hE hsize hvals => .inl ⟨hen _ _, ?_⟩⟩
  unfold sortSp at hD
  split at hD
  · rename_i n n' g te
    cases hD
    obtain ⟨rfl, hlt, hg⟩ := hob
    have hv0 := hvals 0 (by simp)
    have hsz1 : vals.size = 1 := by simpa using hsize
    obtain ⟨x, rfl⟩ : ∃ x, vals = #[x] := by
      refine ⟨vals[0], ?_⟩
      apply Array.ext
      · simp [hsz1]
      · intro i h1 h2
        have : i = 0 := by omega
        subst this; rfl
    simp at hv0
    cases hv0 with
    | atom hp _ => simp [isP] at hp
    | osl hi hle hcap hsh hcs =>
      rename_i b sz m cap c e
      obtain ⟨⟨rfl, rfl, cells, e', hh, hcsz, hlen, hr⟩, hio⟩ := hE.own 0 _ b sz m rfl hi
      have hb : b < w.heap.size := (Array.getElem?_eq_some_iff.1 hh).1
      have hH : Holds (Value.int .i64) w b 0 (rowI n g).toArray := by
        intro j hj
        have hj' : j < n := by simpa using hj
        have h1 := hr j 0 hj' (by decide)
        rw [hg j hj'] at h1
        simp only [V.cells, List.getD_cons_zero, Nat.mul_one, Nat.add_zero] at h1
        have h2 : cells.getD j Go.undef = Value.int .i64 (decI (g j)) := by
          cases hq : cells.getD j Go.undef with
          | int k z => rw [hq] at h1; cases h1; rfl
          | _ => rw [hq] at h1; cases h1
        refine ⟨?_, by simp [World.frozen?, hh]⟩
        rw [Nat.zero_add, cell_of hh (by omega), h2]
        simp [rowI, hj']
      have := hc b 0 cap (rowI n g) w hH hb (by simpa using hlt)
      rw [rowI_len] at this
      refine this.mono fun e1 w' h => ?_
      obtain ⟨rfl, q, os, rfl⟩ := h
      refine ⟨_, ι, fun _ _ => False, rfl, .tup #[] rfl (fun j hj => by simp at hj), ?_⟩
      exact row_ext (d := sortI (rowI n g)) hh (by simp) (by omega) hi hio
    | osl0 a hi =>
      refine (hn a 0 w).mono fun e1 w' h => ?_
      obtain ⟨rfl, rfl⟩ := h
      exact ⟨_, ι, fun _ _ => False, rfl, .tup #[] rfl (fun j hj => by simp at hj), ext_same hi⟩
  · cases hD

theorem one_of_size {vals : Array Value} (h : vals.size = 1) : ∃ x, vals = #[x] := by
  refine ⟨vals[0], ?_⟩
  apply Array.ext
  · simp [h]
  · intro i h1 h2
    have : i = 0 := by omega
    subst this; rfl

theorem compact_le (xs : List Int) (h : (Lib.compact xs).length ≤ xs.length) : (compI xs).length = xs.length := by
  simp [compI]; omega

def compSp : FSpec := fun args bin => match args, bin with
  | [.osl 0 n], [.arr 1 n' g _] => some ((n = n' ∧ n < 4611686018427387904 ∧ ints n g ∧ (Lib.compact (rowI n g)).length ≤ n), .osl 0 (Lib.compact (rowI n g)).length, [.arr 1 n' (gL encI (compI (rowI n g))) tagS])
  | _, _ => none

theorem comp_sound {P : Program} {f : Nat} (hen : ∀ vals w, (callFunc f vals).run P w = .ok (.enter f vals) w)
    (hc : ∀ (blk off cap : Nat) (zs : List Int) (w : World), Holds (Value.int .i64) w blk off zs.toArray → zs.length ≤ 9223372036854775807 → zs.length ≤ cap →
      Calls P f #[.slice (some ⟨blk, off, none⟩) zs.length cap] w fun e w' => e = .returned (.slice (some ⟨blk, off, none⟩) (Lib.compact zs).length cap) ∧
        ∃ q, w' = putRow (Value.int .i64) (Sort.ahead w q) blk off (Lib.compact zs ++ List.replicate (zs.length - (Lib.compact zs).length) 0).toArray)
    (hn : ∀ (p : Option Addr) (cap : Nat) (w : World), Calls P f #[.slice p 0 cap] w fun e w' => e = .returned (.slice p 0 cap) ∧ w' = w) : Sound P f compSp := by
  refine ⟨fun args bin ob r bout hD hob vals w X0 io ι Fr hE hsize hvals => .inl ⟨hen _ _, ?_⟩⟩
  unfold compSp at hD
  split at hD
  · rename_i n n' g te
    cases hD
    obtain ⟨rfl, hlt, hg, hcl⟩ := hob
    have hv0 := hvals 0 (by simp)
    obtain ⟨x, rfl⟩ := one_of_size (by simpa using hsize)
    simp at hv0
    cases hv0 with
    | atom hp _ => simp [isP] at hp
    | osl hi hle hcap hsh hcs =>
      rename_i b sz m cap c e
      obtain ⟨⟨rfl, rfl, cells, e', hh, hcsz, hlen, hr⟩, hio⟩ := hE.own 0 _ b sz m rfl hi
      have hH : Holds (Value.int .i64) w b 0 (rowI n g).toArray := by
        intro j hj
        have hj' : j < n := by simpa using hj
        have h1 := hr j 0 hj' (by decide)
        rw [hg j hj'] at h1
        simp only [V.cells, List.getD_cons_zero, Nat.mul_one, Nat.add_zero] at h1
        have h2 : cells.getD j Go.undef = Value.int .i64 (decI (g j)) := by
          cases hq : cells.getD j Go.undef with
          | int k z => rw [hq] at h1; cases h1; rfl
          | _ => rw [hq] at h1; cases h1
        refine ⟨?_, by simp [World.frozen?, hh]⟩
        rw [Nat.zero_add, cell_of hh (by omega), h2]
        simp [rowI, hj']
      have := hc b 0 cap (rowI n g) w hH (by simp; omega) (by simpa using hcap)
      rw [rowI_len] at this
      refine this.mono fun e1 w' h => ?_
      obtain ⟨rfl, q, rfl⟩ := h
      have hx : Ext w (grow (putRow (Value.int .i64) (Sort.ahead w q) b 0 (compI (rowI n g)).toArray) #[]) X0 io ι 1 [.arr 1 n (gL encI (compI (rowI n g))) tagS] ι (fun _ _ => False) :=
        row_ext hh (by rw [compact_le _ (by simpa using hcl)]; simp) (by omega) hi hio
      rw [grow_empty] at hx
      have hw : putRow (Value.int .i64) (Sort.ahead w q) b 0 (Lib.compact (rowI n g) ++ List.replicate (n - (Lib.compact (rowI n g)).length) 0).toArray = putRow (Value.int .i64) (Sort.ahead w q) b 0 (compI (rowI n g)).toArray := by
        simp [compI]
      rw [hw]
      exact ⟨_, ι, fun _ _ => False, rfl, .osl hi hcl (by omega) (hx.shape _ _ hsh) hcs, hx⟩
    | osl0 a hi =>
      refine (hn a 0 w).mono fun e1 w' h => ?_
      obtain ⟨rfl, rfl⟩ := h
      have h0 : (Lib.compact (rowI 0 g)).length = 0 := by omega
      rw [h0]
      exact ⟨_, ι, fun _ _ => False, rfl, .osl0 a hi, ext_same hi⟩
  · cases hD

end Go.Av
