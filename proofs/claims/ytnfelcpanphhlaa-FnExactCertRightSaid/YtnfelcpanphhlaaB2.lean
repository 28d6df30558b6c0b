/- An argument that the law's opening reads is what the abstract value tells. -/
import Derived.Test.YtnfelcpanphhlaaB1
import Derived.Deep.Slices
namespace Go.Av

section
variable {H : Type} {enc : TypeId × Value → H} {P : Program} {w : World} {base : Nat} {sp : Nat → Bool} {held : Bool}

theorem cellsD_single {n t : Nat} {fuel : Nat} {cs : List Value} {d : DataW H} {ps : List MemPlace} (hp : plainT P n t = true) (ha : aggT P t = false)
    (h : DataW.trod enc P w base sp held fuel t cs = some (d, ps)) : ∃ c, cellsD P n t d = [c] ∧ ∀ l, c ≠ .agg l := by
  cases n with
  | zero => simp [plainT] at hp
  | succ n =>
    unfold plainT at hp
    unfold aggT at ha
    cases hu : P.underlying t with
    | none => rw [hu] at hp; simp at hp
    | some td =>
      rw [hu] at hp ha
      cases td with
      | struct fs => simp [isAggD] at ha
      | _ =>
        simp only [cellsD, hu]
        first
          | exact ⟨_, rfl, fun l hl => by cases hl⟩
          | (split <;> first
              | exact ⟨_, rfl, fun l hl => by cases hl⟩
              | contradiction
              | (rename_i heq; cases heq))

theorem trod_int {t fuel : Nat} {k : IntKind} {cs : List Value} {x : DataW H × List MemPlace} (hu : P.underlying t = some (.int k)) (h : DataW.trod enc P w base sp held (fuel + 1) t cs = some x) :
    ∃ n, cs = [.int k n] ∧ x.1 = .lit (.int k n) := by
  unfold DataW.trod at h
  rw [hu] at h
  split at h <;> try contradiction
  all_goals simp_all
  rename_i h1
  obtain ⟨⟨e, _⟩, hx⟩ := h
  subst e
  rw [← hx]

theorem trod_bool {t fuel : Nat} {cs : List Value} {x : DataW H × List MemPlace} (hu : P.underlying t = some .bool) (h : DataW.trod enc P w base sp held (fuel + 1) t cs = some x) :
    ∃ b, cs = [.bool b] ∧ x.1 = .lit (.bool b) := by
  unfold DataW.trod at h
  rw [hu] at h
  split at h <;> try contradiction
  all_goals simp_all
  rw [← h]

theorem trod_string {t fuel : Nat} {cs : List Value} {x : DataW H × List MemPlace} (hu : P.underlying t = some .string) (h : DataW.trod enc P w base sp held (fuel + 1) t cs = some x) :
    ∃ s : ByteArray, cs = [.string s] ∧ x.1 = .lit (.string s.data.toList) := by
  unfold DataW.trod at h
  rw [hu] at h
  split at h <;> try contradiction
  all_goals simp_all
  rw [← h.2]

theorem trod_struct {t fuel : Nat} {fs : Array Field} {cs : List Value} {x : DataW H × List MemPlace} (hu : P.underlying t = some (.struct fs)) (h : DataW.trod enc P w base sp held (fuel + 1) t cs = some x) :
    cs.length = P.cellsOf t ∧ ∃ xs : List (DataW H × List MemPlace), x.1 = .agg (xs.map (·.1)) ∧ (fs.toList.mapM fun f => DataW.trod enc P w base sp held fuel f.type ((cs.drop f.offset).take (P.cellsOf f.type))) = some xs := by
  unfold DataW.trod at h
  rw [hu] at h
  simp only [] at h
  split at h
  · rename_i hl
    refine ⟨hl, ?_⟩
    cases hm : (fs.toList.mapM fun f => DataW.trod enc P w base sp held fuel f.type ((cs.drop f.offset).take (P.cellsOf f.type))) with
    | none => rw [hm] at h; simp at h
    | some xs => rw [hm] at h; simp at h; exact ⟨xs, by rw [← h], rfl⟩
  · simp at h

theorem add_add {a : Addr} (hs : a.spot = none) (i j : Nat) : (a.add i).add j = ⟨a.block, a.off + i + j, none⟩ := by
  obtain ⟨b, o, s⟩ := a
  simp only at hs
  subst hs
  unfold Addr.add
  by_cases hi : i = 0 <;> by_cases hj : j = 0 <;> simp [hi, hj]

theorem reads_fields {fs : List Field} {cs : List Value} {vf : Field → DataW H → List V} : ∀ {xs : List (DataW H × List MemPlace)} {off : Nat}, contig P fs off cs.length = true → xs.length = fs.length →
    (∀ (j : Nat) (f : Field) (x : DataW H × List MemPlace), fs[j]? = some f → xs[j]? = some x → Reads w (vf f x.1) ((cs.drop f.offset).take (P.cellsOf f.type)) ∧ (vf f x.1).length = P.cellsOf f.type) →
    Reads w ((fs.zip (xs.map (·.1))).flatMap fun p => vf p.1 p.2) (cs.drop off) := by
  induction fs with
  | nil =>
    intro xs off hc hl _
    unfold contig at hc
    have := natBeq.1 hc
    subst this
    simpa using Reads.nil
  | cons f r ih =>
    intro xs off hc hl hall
    unfold contig at hc
    simp only [Bool.and_eq_true] at hc
    have ho := natBeq.1 hc.1
    cases xs with
    | nil => simp at hl
    | cons x xs =>
      have h1 := hall 0 f x (by simp) (by simp)
      have h2 := ih (xs := xs) (off := off + P.cellsOf f.type) hc.2 (by simpa using hl) fun j f' x' hf hx => hall (j + 1) f' x' (by simpa using hf) (by simpa using hx)
      have e1 : cs.drop off = (cs.drop off).take (P.cellsOf f.type) ++ cs.drop (off + P.cellsOf f.type) := by
        rw [← List.drop_drop, List.take_append_drop]
      rw [ho] at h1
      simp only [List.map_cons, List.zip_cons_cons, List.flatMap_cons]
      rw [e1]
      exact h1.1.append h2

theorem reads_of_trod : ∀ (n t : Nat), plainT P n t = true → ∀ (fuel : Nat) (cs : List Value) (d : DataW H) (ps : List MemPlace), DataW.trod enc P w base sp held fuel t cs = some (d, ps) →
    Reads w (cellsD P n t d) cs ∧ cs.length = P.cellsOf t
  | 0, t, hp, _, _, _, _, _ => by simp [plainT] at hp
  | n + 1, t, hp, 0, cs, d, ps, h => by simp [DataW.trod] at h
  | n + 1, t, hp, fuel + 1, cs, d, ps, h => by
    have hp0 := hp
    unfold plainT at hp
    cases hu : P.underlying t with
    | none => rw [hu] at hp; simp at hp
    | some td =>
      rw [hu] at hp
      cases td with
      | int k =>
        obtain ⟨m, rfl, hd⟩ := trod_int hu h
        simp only at hd
        subst hd
        simp only [cellsD, hu]
        exact ⟨Reads.one (.int _ _), (natBeq.1 hp).symm⟩
      | bool =>
        obtain ⟨m, rfl, hd⟩ := trod_bool hu h
        simp only at hd
        subst hd
        simp only [cellsD, hu]
        exact ⟨Reads.one (.bool _), (natBeq.1 hp).symm⟩
      | string =>
        obtain ⟨m, rfl, hd⟩ := trod_string hu h
        simp only at hd
        subst hd
        simp only [cellsD, hu]
        exact ⟨Reads.one (.str _), (natBeq.1 hp).symm⟩
      | slice e =>
        simp only [Bool.and_eq_true] at hp
        obtain ⟨⟨h1, hge⟩, hpe⟩ := hp
        have hge : 1 ≤ P.cellsOf e := Nat.le_of_ble_eq_true hge
        refine ⟨?_, ?_⟩
        · rcases Go.Deep.open_slice hu h with ⟨rfl, hx⟩ | ⟨a, len, cap, m, n', D, Pl, rfl, hb, hlc, hcm, hm, hx, hi⟩
          · cases hx
            simp only [cellsD, hu]
            exact Reads.one (.nil _)
          · cases hx
            simp only [cellsD, hu, List.length_map, List.length_range]
            refine Reads.one ?_
            by_cases h0 : len = 0
            · subst h0; exact .sl0 _ _ _ _
            · have hle : len ≤ m := by rw [hm]; split <;> omega
              have hspot : a.spot = none := by
                obtain ⟨cs', hcs', _⟩ := hi 0 (by omega)
                obtain ⟨_, hl0, hc0⟩ := World.cells?_some hcs'
                have := hc0 0 (by omega)
                have hsome : ∃ y, cs'[0]? = some y := ⟨cs'[0], by rw [List.getElem?_eq_getElem]⟩
                obtain ⟨y, hy⟩ := hsome
                rw [hy] at this
                simp only [Nat.zero_mul, Addr.add, if_true, World.cell?] at this
                split at this
                · cases hs : a.spot with
                  | none => rfl
                  | some q => rw [hs] at this; simp at this
                · simp at this
              have hblk : a.block < w.heap.size := by
                obtain ⟨cs', hcs', _⟩ := hi 0 (by omega)
                have := World.cells?_block hcs' (by omega)
                simpa [Addr.add] using this
              have hel : ∀ i, i < len → ∃ cs', cs'.length = P.cellsOf e ∧ (∀ j, j < P.cellsOf e → w.cell? ⟨a.block, a.off + i * P.cellsOf e + j, none⟩ = some (cs'.getD j Go.undef)) ∧
                  Reads w (cellsD P n e (D i)) cs' ∧ (elemV (aggT P e) (cellsD P n e (D i))).cells = cellsD P n e (D i) := by
                intro i hilt
                obtain ⟨cs', hcs', htr⟩ := hi i (by omega)
                obtain ⟨_, hl', hc'⟩ := World.cells?_some hcs'
                refine ⟨cs', hl', fun j hj => ?_, (reads_of_trod n e hpe n' cs' (D i) (Pl i) htr).1, elemV_cells fun ha => cellsD_single hpe ha htr⟩
                have := hc' j hj
                rw [add_add hspot] at this
                rw [this]
                have hj' : j < cs'.length := by omega
                simp [List.getD, hj']
              have hg : ∀ i, i < len → ((List.range len).map D).getD i .nil = D i := fun i hilt => by simp [List.getD, hilt]
              obtain ⟨blk, off, spot⟩ := a
              simp only at hspot hblk hel
              subst hspot
              refine .sl (sz := P.cellsOf e) (fun i j => (w.cell? ⟨blk, off + i * P.cellsOf e + j, none⟩).getD Go.undef) hblk hlc (fun i hilt => ?_) (fun i j hilt hj => ?_) (fun i j hilt hj => ?_)
              · obtain ⟨cs', hl', _, hr, hcells⟩ := hel i hilt
                simp only [hg i hilt, hcells]
                rw [hr.1, hl']
              · obtain ⟨cs', hl', hc', _, _⟩ := hel i hilt
                rw [hc' j hj]; rfl
              · obtain ⟨cs', hl', hc', hr, hcells⟩ := hel i hilt
                simp only [hg i hilt, hcells]
                rw [hc' j hj]
                exact hr.2 j (by omega)
        · rcases Go.Deep.open_slice hu h with ⟨rfl, _⟩ | ⟨_, _, _, _, _, _, _, rfl, _⟩ <;> exact (natBeq.1 h1).symm
      | struct fs =>
        simp only [Bool.and_eq_true] at hp
        obtain ⟨hc, hall⟩ := hp
        obtain ⟨hl, xs, hd, hm⟩ := trod_struct hu h
        simp only at hd
        subst hd
        obtain ⟨hlen, hat⟩ := mapM_at hm
        refine ⟨?_, hl⟩
        simp only [cellsD, hu]
        have := reads_fields (fs := fs.toList) (cs := cs) (vf := fun f x => cellsD P n f.type x) (xs := xs) (off := 0) (by rw [hl]; exact hc) hlen fun j f x hf hx => by
          obtain ⟨y, hy, hty⟩ := hat j f hf
          rw [hx] at hy
          have : x = y := Option.some.inj hy
          subst this
          obtain ⟨h1, h2⟩ := reads_of_trod n f.type (List.all_eq_true.1 hall f (List.mem_of_getElem? hf)) fuel _ x.1 x.2 hty
          exact ⟨h1, by rw [h1.1]; exact h2⟩
        simpa using this
      | _ => simp at hp

end
end Go.Av
