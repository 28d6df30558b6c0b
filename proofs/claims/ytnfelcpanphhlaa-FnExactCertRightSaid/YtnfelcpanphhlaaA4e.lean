/- Rows written out, rows made, and append. -/
import Derived.Test.YtnfelcpanphhlaaA4d
namespace Go.Av
set_option linter.unusedVariables false
set_option linter.unusedSimpArgs false

theorem FreshId.kills {s : AS} {id : Nat} (h : FreshId s id) (ids : List Nat) : FreshId { s with S := applyUpd s.S (ids.map fun id => (id, none)) } id where
  no := by
    show lk (applyUpd s.S _) id = none
    rw [lk_kills, h.no]; simp
  T := h.T
  S := fun k blk hk => by
    have hk' : lk (applyUpd s.S (ids.map fun id => (id, none))) k = some blk := hk
    rw [lk_kills] at hk'
    by_cases e : k ∈ ids
    · simp [e] at hk'
    · simp only [e, if_false] at hk'; exact h.S k blk hk'

theorem ids_ment : ∀ (v : V) (id : Nat), id ∈ v.ids → ∀ p : Nat → Bool, p id = true → V.ment p v = true := by
  intro v id
  suffices H : (∀ v : V, id ∈ v.ids → ∀ p : Nat → Bool, p id = true → V.ment p v = true) from H v
  intro v
  refine V.rec (motive_1 := fun v => id ∈ v.ids → ∀ p : Nat → Bool, p id = true → V.ment p v = true) (motive_2 := fun l => id ∈ V.idsL l → ∀ p : Nat → Bool, p id = true → V.mentL p l = true)
    ?_ ?_ ?_ ?_ ?_ ?_ ?_ ?_ ?_ ?_ ?_ ?_ ?_ ?_ ?_ v
  all_goals intros
  all_goals first
    | (simp_all [V.ids, V.idsL, V.ment, V.mentL]; done)
    | skip
  all_goals
    rename_i ih1 ih2 hm p hp
    simp only [V.idsL, List.mem_append] at hm
    simp only [V.mentL, Bool.or_eq_true]
    rcases hm with hm | hm
    · exact .inl (ih1 hm p hp)
    · exact .inr (ih2 hm p hp)

section
variable {P : Program} {tt : TT} (hT : TabOk P tt)

theorem shape_alloc (w : World) (arr : Array Value) (e : TypeId) : (w.alloc (.cells arr e (0, 0))).shape? w.heap.size = some (e, arr.size) := by
  unfold World.shape?
  rw [heap_alloc_new]

include hT in
theorem does_buildSlice {g : G} {s : AS} {a : Act} {w : World} {ι : Iota} {Fr : Nat → Nat → Prop} (h : Rel g s a w ι Fr) {o : Oper} {t : TypeId} {len : Nat} {ps : Array (Nat × Operand)} (hop : o.op = .buildSlice t len ps)
    (hx : ∀ p ∈ ps.toList, TRep w Fr ι (strip (aval s p.2)) (a.eval p.2)) (hd : dstOk g.nt o = true) {site : Nat} (hf : FreshId s site)
    {e : Ef} (he : buildSliceV tt s.S site t len (ps.toList.map fun p => (p.1, strip (aval s p.2))) = some e) : Does P g (s.app o.dst e) a w o := by
  unfold buildSliceV at he
  split at he
  case h_2 => simp at he
  case h_1 ti hti =>
    obtain ⟨el, hu, hl⟩ := run_elem hT hti w
    split at he
    case h_2 => simp at he
    case h_1 hble =>
      have hle : len * ti.size ≤ 16777216 := Nat.le_of_ble_eq_true hble
      generalize rowTag ti (ps.toList.map fun p => (p.1, strip (aval s p.2))) = te at he
      split at he
      case h_2 => simp at he
      case h_1 es hes hchk =>
        simp only [Option.some.injEq] at he
        subst he
        generalize hids : (ps.toList.map fun p => (p.1, strip (aval s p.2))).flatMap (fun p => p.2.ids) = ids at *
        simp only [Bool.and_eq_true, Bool.or_eq_true, List.isEmpty_iff, Bool.not_eq_true', natBeqF] at hchk
        obtain ⟨hge, htag⟩ := hchk
        obtain ⟨z, hz, hzs, hzr⟩ := row_zeros hT hl w len
        obtain ⟨arr', h1, h2, h3⟩ := fill_row h (size := ti.size) (te := te) (n := len) (ids := ids) (ps.toList.map fun p => (p.1, strip (aval s p.2))) (ps.toList.map fun p => (p.1, a.eval p.2)) _ es _ (by simp)
          (fun j hj => by
            have hj' : j < ps.size := by simpa using hj
            have hmem : ps[j] ∈ ps.toList := by simp
            simp only [List.getD, List.getElem?_map, Array.getElem?_toList, Array.getElem?_eq_getElem hj', Option.map_some, Option.getD_some]
            exact ⟨trivial, hx _ hmem⟩)
          (fun p hp id hid => by rw [← hids]; exact List.mem_flatMap.2 ⟨p, hp, hid⟩) (by simp) hes (hzr w _)
        obtain ⟨r1, r2, r3⟩ := h3
        have hrun : (execOp a.eval o).run P w = .ok (.value (.slice (some ⟨w.heap.size, 0, none⟩) len len)) (w.alloc (.cells arr' el (0, 0))) := by
          unfold execOp
          rw [hop]
          refine run_v ?_
          unfold Instr.buildSlice
          have hno : ¬ len * ti.size > 2 ^ 24 := by omega
          simp only [Sem.run_bind, hu, Result.andThen_ok, run_size hT hl, hno, if_false, Sem.run_ite, Sem.run_pure]
          by_cases h0 : len * ti.size = 0
          · have e0 : ((Array.range (len * ti.size)).map (z.cells[· % z.cells.size]!)) = (Array.range (len * ti.size)).map ((#[] : Array Value)[· % (#[] : Array Value).size]!) := by rw [h0]; simp
            rw [e0] at h1
            simp only [h0, if_true, Result.andThen_ok] at h1 ⊢
            rw [Array.toList_map, h1]
            simp [newRow]
          · simp only [h0, if_false, hz, Result.andThen_ok]
            rw [Array.toList_map, h1]
            simp [newRow]
        have hmem64 := allGe_iff hge
        have hfr := h.freezeL te ids (by rcases htag with h' | h'; exact .inr h'; exact .inl h') hmem64
        have hf' := hf.kills ids
        have hsn : site ∉ ids := by
          intro hin
          rw [← hids] at hin
          obtain ⟨p, hp, hid⟩ := List.mem_flatMap.1 hin
          obtain ⟨q, hq, rfl⟩ := List.mem_map.1 hp
          have h5 := ids_ment _ _ hid (fun k => Nat.beq k site) (natBeq.2 rfl)
          rw [fresh_aval hf q.2] at h5
          cases h5
        have hnew := hfr.newBlk hf' (arr := arr') (e := el) (sz := ti.size) (m := len) (blk := .arr ti.size len (rowg es) te) (fun w' hw hb hsh =>
          ⟨rfl, rfl, arr', el, hw, by rw [r1, h2]; exact Nat.le_refl _, fun i hi => by rw [rowg_get _ _ (by omega)]; exact r2 i (by omega), fun i j hi hj => by
            rw [rowg_get _ _ (by omega)]
            exact (r3 i j (by omega) hj).mono fun b hb' => ⟨hb', hb b (hfr.fr _ b hb').1⟩⟩)
        refine does_mem (x := .slice (some ⟨w.heap.size, 0, none⟩) len len) hd hrun (hnew.congr (fun _ => rfl) fun k => ?_) ?_
        · show lk (applyUpd (put s.S site _) (ids.map fun id => (id, none))) k = _
          rw [lk_kills, lk_put, lk_put, lk_kills]
          by_cases e1 : k = site
          · subst e1; simp [hsn]
          · simp [e1]
        · exact .osl (b := w.heap.size) (sz := ti.size) (m := len) (e := el) (c := arr'.size) (by simp [updI]) (Nat.le_refl _) (Nat.le_refl _) (shape_alloc _ _ _) (by rw [r1, h2]; exact Nat.le_refl _)

include hT in
theorem does_make {g : G} {s : AS} {a : Act} {w : World} {ι : Iota} {Fr : Nat → Nat → Prop} (h : Rel g s a w ι Fr) {o : Oper} {t : TypeId} {l c : Operand} (hop : o.op = .makeSlice t l c)
    (hl1 : TRep w Fr ι (strip (aval s l)) (a.eval l)) (hc1 : TRep w Fr ι (strip (aval s c)) (a.eval c)) (hd : dstOk g.nt o = true) {site : Nat} (hf : FreshId s site)
    {e : Ef} (he : makeV tt site t (strip (aval s l)) (strip (aval s c)) = some e) (ho : ∀ p ∈ e.ob, p) : Does P g (s.app o.dst e) a w o := by
  unfold makeV at he
  split at he
  case h_2 => simp at he
  case h_1 ti k1 n k2 m hti hlv hcv =>
    split at he
    case h_2 => simp at he
    case h_1 hby =>
      simp only [Option.some.injEq] at he
      subst he
      have hob := ho _ (List.mem_singleton.2 rfl)
      rw [hlv] at hl1
      rw [hcv] at hc1
      have e1 := inv_int hl1
      have e2 := inv_int hc1
      have hby' : ti.bytes ≤ 1024 := Nat.le_of_ble_eq_true hby
      obtain ⟨el, hu, hl⟩ := run_elem hT hti w
      obtain ⟨i, hi, hib, _⟩ := run_bytes hT hl w
      obtain ⟨z, hz, hzs, hzr⟩ := row_zeros hT hl w m.toNat
      have hm : m ≤ 1073741824 := by have := hob.2.2; unfold most at this; omega
      have w1 : IntKind.i64.wrap n = n := by unfold IntKind.wrap IntKind.bits IntKind.signed; simp; omega
      have w2 : IntKind.i64.wrap m = m := by unfold IntKind.wrap IntKind.bits IntKind.signed; simp; omega
      obtain ⟨r1, r2, r3⟩ := hzr w (Fr (newTag ti))
      have hrun : (execOp a.eval o).run P w = .ok (.value (.slice (some ⟨w.heap.size, 0, none⟩) n.toNat m.toNat)) (w.alloc (.cells ((Array.range (m.toNat * ti.size)).map (z.cells[· % z.cells.size]!)) el (0, 0))) := by
        unfold execOp
        rw [hop]
        refine run_v ?_
        unfold Instr.makeSlice
        have c1 : (decide (m < 0) || decide ((ti.bytes : Int) * m > 2 ^ 48)) = false := by
          have : (ti.bytes : Int) * m ≤ 1024 * 1073741824 := Int.mul_le_mul (by omega) hm (by omega) (by omega)
          simp; omega
        have c2 : decide (n < 0) = false := by simp; omega
        have c3 : decide (n > m) = false := by simp; omega
        simp only [Sem.run_bind, hu, Result.andThen_ok, e1, e2, asInt, asIntOf, Sem.run_pure, hi, hib, w1, w2, c1, c2, c3, Bool.or_self, Bool.or_false, Bool.false_eq_true, if_false, Sem.run_ite, run_askRoom, run_size hT hl]
        by_cases h0 : m.toNat * ti.size = 0
        · have z0 : ∀ f : Nat → Value, (Array.range 0).map f = #[] := fun f => Array.eq_empty_of_size_eq_zero (by simp)
          simp [h0, newRow, z0]
        · simp [h0, hz, newRow]
      have hnew := h.newBlk hf (arr := (Array.range (m.toNat * ti.size)).map (z.cells[· % z.cells.size]!)) (e := el) (sz := ti.size) (m := n.toNat) (blk := .arr ti.size n.toNat (fun _ => ti.zero) (newTag ti)) (fun w' hw hb hsh =>
        ⟨rfl, rfl, _, el, hw, by
          simp only [Array.size_map, Array.size_range]
          exact Nat.mul_le_mul_right _ (by omega), fun i hi => by
          have := r2 i (by simp; omega)
          simpa [List.getD, List.getElem?_replicate, show i < m.toNat by omega] using this, fun i j hi hj => by
          have := r3 i j (by simp; omega) hj
          simp only [List.getD, List.getElem?_replicate, show i < m.toNat by omega, if_true, Option.getD_some] at this
          exact this.mono fun b hb' => ⟨hb', hb b (h.fr _ b hb').1⟩⟩)
      refine does_mem (x := .slice (some ⟨w.heap.size, 0, none⟩) n.toNat m.toNat) hd hrun hnew ?_
      exact .osl (b := w.heap.size) (sz := ti.size) (m := n.toNat) (e := el) (c := m.toNat * ti.size) (by simp [updI]) (Nat.le_refl _) (by omega) (by rw [shape_alloc]; simp) (Nat.le_refl _)

end
end Go.Av
