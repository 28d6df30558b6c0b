/- Structs and rows that are written out, and rows made with their zeros. -/
import Derived.Test.YtnfelcpanphhlaaA4c
namespace Go.Av

theorem foldl_write : ∀ (l : List Value) (arr : Array Value) (off k : Nat),
    (l.zipIdx k).foldl (fun cs (p : Value × Nat) => cs.setIfInBounds (off + p.2) p.1) arr = writeArr arr (off + k) l
  | [], _, _, _ => rfl
  | v :: r, arr, off, k => by
    simp only [List.zipIdx_cons, List.foldl_cons, writeArr]
    rw [foldl_write r _ off (k + 1)]
    rfl

theorem fill_cons (place : Nat → Option (Nat × Nat)) (arr : Array Value) (i off size : Nat) (v : Value) (rest : List (Nat × Value)) (hp : place i = some (off, size)) (hs : v.cells.size = size) (hle : off + size ≤ arr.size) :
    Instr.fill place arr ((i, v) :: rest) = Instr.fill place (writeArr arr off v.cells.toList) rest := by
  have h1 : (v.cells.size ≠ size || off + v.cells.size > arr.size) = false := by
    simp; omega
  rw [Instr.fill, hp]
  simp only [h1, Bool.false_eq_true, if_false]
  congr 1
  have := foldl_write v.cells.toList arr off 0
  rw [Nat.add_zero] at this
  rw [← this, ← Array.foldl_toList, Array.toList_zipIdx]

section
variable {P : Program} {tt : TT} (hT : TabOk P tt)

theorem fill_parts {w : World} {ι : Iota} {Fr : Nat → Nat → Prop} (l : List (Nat × TI)) (place : Nat → Option (Nat × Nat)) (hpl : ∀ i off ti, l[i]? = some (off, ti) → place i = some (off, ti.size)) :
    ∀ (ps : List (Nat × V)) (vs : List (Nat × Value)) (cs cs' : List V) (arr : Array Value), ps.length = vs.length →
      (∀ j, j < ps.length → (ps.getD j (0, .undef)).1 = (vs.getD j (0, Go.undef)).1 ∧ TRep w Fr ι (ps.getD j (0, .undef)).2 (vs.getD j (0, Go.undef)).2) →
      buildParts l cs ps = some cs' → arr.size = cs.length → (∀ j, j < cs.length → TRep w Fr ι (cs.getD j .undef) (arr.getD j Go.undef)) →
      ∃ arr', Instr.fill place arr vs = some arr' ∧ arr'.size = cs'.length ∧ ∀ j, j < cs'.length → TRep w Fr ι (cs'.getD j .undef) (arr'.getD j Go.undef)
  | [], [], cs, cs', arr, _, _, hb, hs, hr => by
    simp only [buildParts, Option.some.injEq] at hb
    subst hb
    exact ⟨arr, rfl, hs, hr⟩
  | (i, x) :: ps, (i', v) :: vs, cs, cs', arr, hlen, hv, hb, hs, hr => by
    have h0 := hv 0 (by simp)
    simp only [List.getD_cons_zero] at h0
    obtain ⟨rfl, hx⟩ := h0
    simp only [buildParts] at hb
    split at hb
    case h_2 => simp at hb
    case h_1 off ti hti =>
      split at hb
      case h_2 => simp at hb
      case h_1 cs1 hc hw =>
        simp only [Bool.and_eq_true, natBeq] at hc
        obtain ⟨hxl, hsol⟩ := hc
        obtain ⟨hle, rfl⟩ := writeV_some hw
        obtain ⟨h1, h2⟩ := hx.cells hsol
        rw [fill_cons place arr i off ti.size v vs (hpl i off ti hti) (by omega) (by omega)]
        refine fill_parts l place hpl ps vs _ cs' _ (by simpa using hlen) (fun j hj => by simpa using hv (j + 1) (by simpa using hj)) hb (by rw [writeArr_size, setAt_length]; exact hs) (fun j hj => ?_)
        rw [setAt_length] at hj
        rw [setAt_getD _ _ _ _ hle, writeArr_getD _ _ _ _ (by simp; omega)]
        by_cases hjr : off ≤ j ∧ j < off + x.cells.length
        · rw [if_pos hjr, if_pos (by simp; omega), toList_getD]
          exact (h2 _ (by omega)).1
        · rw [if_neg hjr, if_neg (by simp; omega)]
          exact hr j hj
  | [], _ :: _, _, _, _, h, _, _, _, _ => by simp at h
  | _ :: _, [], _, _, _, h, _, _, _, _ => by simp at h

include hT in
theorem run_places {w : World} : ∀ (fs : List Field) (l : List (Nat × TI)), fieldTIs tt fs = some l →
    (fs.mapM fun f => do pure (f.offset, ← sizeOf f.type) : Sem (List (Nat × Nat))).run P w = .ok (l.map fun p => (p.1, p.2.size)) w
  | [], l, h => by
    simp only [fieldTIs, Option.some.injEq] at h
    subst h
    simp
  | f :: fs, l, h => by
    simp only [fieldTIs] at h
    split at h
    · rename_i ti l' hti hl
      simp only [Option.some.injEq] at h
      subst h
      have ih := run_places (w := w) fs l' hl
      simp only [List.mapM_cons, Sem.run_bind, run_size hT hti, Result.andThen_ok, Sem.run_pure, ih, List.map_cons]
    · simp at h

include hT in
/-- The zero of a type, cell by cell. -/
theorem zero_cells {t : Nat} {ti : TI} (hl : lk tt t = some ti) (w : World) : ∃ z, (zeroValue t).run P w = .ok z w ∧ z.cells.size = ti.size ∧ ti.zero.cells.length = ti.size ∧
    ∀ w' Fr ι j, j < ti.size → (TRep w' Fr ι (ti.zero.cells.getD j .undef) (z.cells.getD j Go.undef) ∧ PRep w' (fun _ => False) (ti.zero.cells.getD j .undef) (z.cells.getD j Go.undef)) := by
  obtain ⟨i, hi, _, _, z, hz, hzr, hzc, hzs, _⟩ := hT.info t ti hl
  refine ⟨z, by simp [zeroValue, typeInfo, hi, hz], hzs, hzc, fun w' Fr ι j hj => ?_⟩
  have key : PRep w' (fun _ => False) (ti.zero.cells.getD j .undef) (z.cells.getD j Go.undef) := by
    have hzr := hzr w'
    by_cases hag : ∃ cs, ti.zero = .agg cs
    · obtain ⟨cs, hcs⟩ := hag
      rw [hcs] at hzr hzc ⊢
      cases hzr with
      | agg arr h1 h2 => exact h2 j (by simp only [V.cells] at hzc; omega)
    · have hc : ti.zero.cells = [ti.zero] := by
        cases hv : ti.zero <;> first | rfl | exact absurd ⟨_, hv⟩ hag
      rw [hc] at hzc ⊢
      have hj0 : j = 0 := by simp only [List.length_singleton] at hzc; omega
      subst hj0
      simp only [List.getD_cons_zero]
      have : z.cells.getD 0 Go.undef = z ∨ ti.zero = .undef := by
        cases hzv : z with
        | agg cs => right; rw [hzv] at hzr; cases hv : ti.zero <;> rw [hv] at hzr <;> first | rfl | (exfalso; cases hzr; done) | skip
                    exact absurd ⟨_, hv⟩ hag
        | _ => left; rfl
      rcases this with h2 | h2
      · rw [h2]; exact hzr
      · rw [h2]; exact .undef _
  exact ⟨TRep.ofP key, key⟩

include hT in
theorem does_build {g : G} {s : AS} {a : Act} {w : World} {ι : Iota} {Fr : Nat → Nat → Prop} (h : Rel g s a w ι Fr) {o : Oper} {t : TypeId} {ps : Array (Nat × Operand)} (hop : o.op = .build t ps)
    (hx : ∀ p ∈ ps.toList, TRep w Fr ι (strip (aval s p.2)) (a.eval p.2)) (hd : dstOk g.nt o = true)
    {e : Ef} (he : buildV tt t (ps.toList.map fun p => (p.1, strip (aval s p.2))) = some e) : Does P g (s.app o.dst e) a w o := by
  unfold buildV at he
  split at he
  case h_2 => simp at he
  case h_1 fs _ _ z _ _ hl =>
    split at he
    case h_2 => simp at he
    case h_1 l hfl =>
      split at he
      case h_2 => simp at he
      case h_1 cs hb =>
        simp only [ok, Option.some.injEq] at he
        subst he
        obtain ⟨zv, hz, hzs, hzc, hzr⟩ := zero_cells hT hl w
        obtain ⟨arr', h1, h2, h3⟩ := fill_parts (w := w) (ι := ι) (Fr := Fr) l (fun i => ((l.map fun p => (p.1, p.2.size)).toArray)[i]?) (fun i off ti hi => by simp [hi])
          (ps.toList.map fun p => (p.1, strip (aval s p.2))) (ps.toList.map fun p => (p.1, a.eval p.2)) z.cells cs zv.cells (by simp)
          (fun j hj => by
            have hj' : j < ps.size := by simpa using hj
            have hmem : ps[j] ∈ ps.toList := by simp
            simp only [List.getD, List.getElem?_map, Array.getElem?_toList, Array.getElem?_eq_getElem hj', Option.map_some, Option.getD_some]
            exact ⟨trivial, hx _ hmem⟩) hb (by rw [hzs]; exact hzc.symm) (fun j hj => (hzr w Fr ι j (by rw [← hzc]; exact hj)).1)
        refine does_value h hd (x := .agg arr') ?_ (.agg arr' h2 h3)
        unfold execOp
        rw [hop]
        refine run_v ?_
        unfold Instr.build
        have hpl := run_places (P := P) hT (w := w) fs.toList l hfl
        have hmap : (fs.mapM fun f => do pure (f.offset, ← sizeOf f.type) : Sem (Array (Nat × Nat))).run P w = .ok (l.map fun p => (p.1, p.2.size)).toArray w := by
          rw [Array.mapM_eq_mapM_toList, Sem.run_map, hpl]
          rfl
        simp only [Sem.run_bind, hz, Result.andThen_ok, run_und hT hl, hmap, Array.toList_map]
        rw [h1]
        rfl


/-- A written-out row, place by place. -/
theorem allStr_get : ∀ {l : List V} {ss : List ByteArray}, allStr l = some ss → ∀ i, i < l.length → V.str (ss.getD i default) = l.getD i .undef
  | [], _, _, i, h => by simp at h
  | v :: r, ss, h, i, hi => by
    cases v <;> simp only [allStr, reduceCtorEq] at h
    split at h
    · rename_i l' hl
      simp only [Option.some.injEq] at h
      subst h
      cases i with
      | zero => simp
      | succ i => simpa using allStr_get hl i (by simpa using hi)
    · simp at h

theorem allInt_get : ∀ {k : IntKind} {l : List V} {ns : List Int}, allInt k l = some ns → ∀ i, i < l.length → V.int k (ns.getD i 0) = l.getD i .undef
  | _, [], _, _, i, h => by simp at h
  | k, v :: r, ns, h, i, hi => by
    cases v <;> simp only [allInt, reduceCtorEq] at h
    split at h
    · rename_i l' hk hl
      simp only [Option.some.injEq] at h
      subst h
      have := kindB_eq hk
      subst this
      cases i with
      | zero => simp
      | succ i => simpa using allInt_get hl i (by simpa using hi)
    · simp at h

theorem rowg_get (l : List V) (i : Nat) (hi : i < l.length) : rowg l i = l.getD i .undef := by
  unfold rowg
  split
  · rename_i s r
    cases hs : allStr r with
    | some ss =>
      cases i with
      | zero => simp
      | succ i => simpa using allStr_get hs i (by simpa using hi)
    | none => rfl
  · rename_i k n r
    cases hs : allInt k r with
    | some ns =>
      cases i with
      | zero => simp
      | succ i => simpa using allInt_get hs i (by simpa using hi)
    | none => rfl
  · rfl

/-- The state of a row that is being written out: the elements so far, as cells. -/
def RowRep (w : World) (A : Nat → Prop) (size : Nat) (es : List V) (arr : Array Value) : Prop :=
  arr.size = es.length * size ∧ (∀ i, i < es.length → (es.getD i .undef).cells.length = size) ∧
    ∀ i j, i < es.length → j < size → PRep w A ((es.getD i .undef).cells.getD j .undef) (arr.getD (i * size + j) Go.undef)

theorem set_getD (es : List V) (i k : Nat) (x : V) (hi : i < es.length) : (es.set i x).getD k .undef = if k = i then x else es.getD k .undef := by
  by_cases h : k = i
  · subst h; simp [hi]
  · have : i ≠ k := fun e => h e.symm
    simp [h, List.getElem?_set_ne this]

theorem fill_row {g : G} {s : AS} {a : Act} {w : World} {ι : Iota} {Fr : Nat → Nat → Prop} (h : Rel g s a w ι Fr) {size te n : Nat} {ids : List Nat} :
    ∀ (ps : List (Nat × V)) (vs : List (Nat × Value)) (es es' : List V) (arr : Array Value), ps.length = vs.length →
      (∀ j, j < ps.length → (ps.getD j (0, .undef)).1 = (vs.getD j (0, Go.undef)).1 ∧ TRep w Fr ι (ps.getD j (0, .undef)).2 (vs.getD j (0, Go.undef)).2) →
      (∀ p ∈ ps, ∀ id ∈ p.2.ids, id ∈ ids) → es.length = n →
      setParts size te s.S es ps = some es' → RowRep w (FrK Fr s.S ι ids te te) size es arr →
      ∃ arr', Instr.fill (fun i => some (i * size, size)) arr vs = some arr' ∧ es'.length = n ∧ RowRep w (FrK Fr s.S ι ids te te) size es' arr'
  | [], [], es, es', arr, _, _, _, hn, hb, hr => by
    simp only [setParts, Option.some.injEq] at hb
    subst hb
    exact ⟨arr, rfl, hn, hr⟩
  | (i, x) :: ps, (i', v) :: vs, es, es', arr, hlen, hv, hids, hn, hb, hr => by
    have h0 := hv 0 (by simp)
    simp only [List.getD_cons_zero] at h0
    obtain ⟨rfl, hx⟩ := h0
    simp only [setParts] at hb
    split at hb
    case h_2 => simp at hb
    case h_1 h1 h2 h3 =>
      have hi : i < es.length := Nat.le_of_ble_eq_true h1
      have hxl := natBeq.1 h2
      obtain ⟨q1, q2, q3, q4⟩ := frz_rep h hx (ids := ids) (hids _ (List.mem_cons_self ..)) h3
      obtain ⟨r1, r2, r3⟩ := hr
      have hmul : i * size + size ≤ arr.size := by
        have e1 : i * size + size = (i + 1) * size := by rw [Nat.add_mul, Nat.one_mul]
        have e2 : (i + 1) * size ≤ es.length * size := Nat.mul_le_mul_right _ hi
        omega
      rw [fill_cons _ arr i (i * size) size v vs rfl (by omega) hmul]
      refine fill_row h ps vs _ es' _ (by simpa using hlen) (fun j hj => by simpa using hv (j + 1) (by simpa using hj)) (fun p hp => hids p (List.mem_cons_of_mem _ hp)) (by simpa using hn) hb
        ⟨by rw [writeArr_size]; simpa using r1, fun k hk => ?_, fun k j hk hj => ?_⟩
      · rw [set_getD _ _ _ _ hi]
        split
        · omega
        · exact r2 k (by simpa using hk)
      · have hk' : k < es.length := by simpa using hk
        rw [set_getD _ _ _ _ hi, writeArr_getD _ _ _ _ (by simp; omega)]
        by_cases hki : k = i
        · subst hki
          rw [if_pos rfl, if_pos (by simp; omega), toList_getD]
          have e1 : k * size + j - k * size = j := by omega
          rw [e1]
          exact q4 j (by omega)
        · have hno : ¬ (i * size ≤ k * size + j ∧ k * size + j < i * size + v.cells.toList.length) := by
            have hl2 : v.cells.toList.length = size := by simp; omega
            rw [hl2]
            rcases Nat.lt_or_gt_of_ne hki with h5 | h5
            · have : (k + 1) * size ≤ i * size := Nat.mul_le_mul_right _ h5
              rw [Nat.add_mul, Nat.one_mul] at this
              omega
            · have : (i + 1) * size ≤ k * size := Nat.mul_le_mul_right _ h5
              rw [Nat.add_mul, Nat.one_mul] at this
              omega
          rw [if_neg hki, if_neg hno]
          exact r3 k j hk' hj
  | [], _ :: _, _, _, _, h, _, _, _, _, _ => by simp at h
  | _ :: _, [], _, _, _, h, _, _, _, _, _ => by simp at h

theorem zeros_get {z : Array Value} {n size k : Nat} (hz : z.size = size) (hk : k < n * size) :
    ((Array.range (n * size)).map (z[· % z.size]!)).getD k Go.undef = z.getD (k % size) Go.undef := by
  have hpos : 0 < size := by
    rcases Nat.eq_zero_or_pos size with h | h
    · subst h; simp at hk
    · exact h
  have hlt : k % size < z.size := by rw [hz]; exact Nat.mod_lt _ hpos
  subst hz
  simp [hk, hlt]

include hT in
theorem row_zeros {t : Nat} {ti : TI} (hl : lk tt t = some ti) (w : World) (n : Nat) : ∃ z, (zeroValue t).run P w = .ok z w ∧ z.cells.size = ti.size ∧
    ∀ (w' : World) (A : Nat → Prop), RowRep w' A ti.size (List.replicate n ti.zero) ((Array.range (n * ti.size)).map (z.cells[· % z.cells.size]!)) := by
  obtain ⟨z, hz, hzs, hzc, hzr⟩ := zero_cells hT hl w
  refine ⟨z, hz, hzs, fun w' A => ⟨by simp, fun i hi => ?_, fun i j hi hj => ?_⟩⟩
  · have hi' : i < n := by simpa using hi
    simp only [List.getD, List.getElem?_replicate, hi', if_true, Option.getD_some]
    exact hzc
  · have hi' : i < n := by simpa using hi
    have hlt : i * ti.size + j < n * ti.size := by
      have e1 : i * ti.size + ti.size = (i + 1) * ti.size := by rw [Nat.add_mul, Nat.one_mul]
      have e2 : (i + 1) * ti.size ≤ n * ti.size := Nat.mul_le_mul_right _ hi'
      omega
    rw [zeros_get hzs hlt]
    have e1 : (i * ti.size + j) % ti.size = j := by rw [Nat.mul_comm, Nat.mul_add_mod]; exact Nat.mod_eq_of_lt hj
    rw [e1]
    simp only [List.getD, List.getElem?_replicate, hi', if_true, Option.getD_some]
    have := (hzr w' (fun _ _ => False) (fun _ => none) j hj).2
    exact this.weaken fun _ h => h.elim

end
end Go.Av
