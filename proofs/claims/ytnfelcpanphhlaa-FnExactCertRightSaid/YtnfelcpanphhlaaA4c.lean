/- A store, and a row made with its zeros. -/
import Derived.Test.YtnfelcpanphhlaaA4b
namespace Go.Av

theorem withCells_self {w : World} {b : Nat} {arr : Array Value} {e : TypeId} (h : w.heap[b]? = some (.cells arr e (0, 0))) : withCells w b arr e = w := by
  unfold withCells
  have : w.heap.setIfInBounds b (.cells arr e (0, 0)) = w.heap := by
    apply Array.ext_getElem?
    intro k
    by_cases hk : b = k
    · subst hk
      have hb : b < w.heap.size := by
        rcases Nat.lt_or_ge b w.heap.size with h' | h'
        · exact h'
        · simp [Array.getElem?_eq_none h'] at h
      simp [hb]
      rw [Array.getElem?_eq_getElem hb] at h
      exact (Option.some.inj h).symm
    · rw [Array.getElem?_setIfInBounds_ne hk]
  rw [this]

theorem allGe_iff : ∀ {l : List Nat}, allGe l = true → ∀ id ∈ l, 64 ≤ id
  | [], _, _, h => by cases h
  | k :: r, h, id, hid => by
    simp only [allGe, Bool.and_eq_true] at h
    rcases List.mem_cons.1 hid with rfl | hid
    · exact Nat.le_of_ble_eq_true h.1
    · exact allGe_iff h.2 id hid

theorem elem_cells {v : V} {cs : List V} (hl : cs.length = v.cells.length) (hs : ∀ j, j < cs.length → ∀ ds, cs.getD j .undef ≠ .agg ds) :
    (elemV (isAggV v) cs).cells = cs := by
  by_cases hag : ∃ ds, v = .agg ds
  · obtain ⟨ds, rfl⟩ := hag; rfl
  · have h1 : isAggV v = false := by
      cases v <;> first | rfl | exact absurd ⟨_, rfl⟩ hag
    have h2 : v.cells = [v] := by
      cases v <;> first | rfl | exact absurd ⟨_, rfl⟩ hag
    rw [h1]
    rw [h2] at hl
    match cs, hl with
    | [c], _ =>
      simp only [elemV, List.headD]
      have := hs 0 (by simp)
      cases c <;> first | rfl | exact absurd rfl (this _)

theorem idsL_nil : ∀ (ds : List V), (∀ j, j < ds.length → (ds.getD j .undef).ids = []) → V.idsL ds = []
  | [], _ => rfl
  | c :: l, h => by
    have h0 := h 0 (by simp)
    simp only [List.getD_cons_zero] at h0
    rw [V.idsL, h0, idsL_nil l fun j hj => by simpa using h (j + 1) (by simpa using hj)]
    rfl

section
variable {P : Program} {tt : TT} (hT : TabOk P tt)

include hT in
theorem store_run {t : Nat} {ti : TI} (hl : lk tt t = some ti) {w : World} {b o : Nat} {arr : Array Value} {e : TypeId} {v : Value} (hb : w.heap[b]? = some (.cells arr e (0, 0)))
    (hsz : v.cells.size = ti.size) (hle : o + ti.size ≤ arr.size) (hone : ∀ j, j < v.cells.size → one (v.cells.getD j Go.undef) = true) :
    (Instr.storeAt t (.pointer (some ⟨b, o, none⟩)) v).run P w = .ok () (withCells w b (writeArr arr o v.cells.toList) e) := by
  rw [run_storeVar hT hl hb hsz hle hone]
  split
  · rename_i h
    rw [h, writeArr, withCells_self hb]
  · rfl

theorem toList_getD (a : Array Value) (j : Nat) : a.toList.getD j Go.undef = a.getD j Go.undef := by
  by_cases h : j < a.size
  · simp [h]
  · simp [h]

include hT in
theorem does_store {g : G} {s : AS} {a : Act} {w : World} {ι : Iota} {Fr : Nat → Nat → Prop} (h : Rel g s a w ι Fr) {o : Oper} {t : TypeId} {ti : TI} {p x : Operand} (hop : o.op = .store t p x) (hl : lk tt t = some ti)
    (hp : TRep w Fr ι (strip (aval s p)) (a.eval p)) (hx : TRep w Fr ι (strip (aval s x)) (a.eval x)) (hd : dstOk g.nt o = true)
    {e : Ef} (he : storeV s.S ti (strip (aval s p)) (strip (aval s x)) = some e) (ho : ∀ q ∈ e.ob, q) : Does P g (s.app o.dst e) a w o := by
  generalize strip (aval s p) = pv at *
  generalize strip (aval s x) = xv at *
  have hrun : ∀ w', (Instr.storeAt t (a.eval p) (a.eval x)).run P w = .ok () w' → (execOp a.eval o).run P w = .ok .skip w' := by
    intro w' hr
    unfold execOp
    rw [hop]
    exact run_u hr
  generalize a.eval p = vp at hp hrun
  unfold storeV at he
  split at he
  case h_2 => simp at he
  case h_1 id i off hcond =>
    simp only [Bool.and_eq_true, natBeq] at hcond
    obtain ⟨hlen, hsol⟩ := hcond
    obtain ⟨hxc, hxr⟩ := hx.cells hsol
    cases hp with
    | atom hv _ => simp [isP] at hv
    | @oref _ _ _ b sz m hi him =>
      cases hb : lk s.S id with
      | none => simp [hb] at he
      | some blk =>
        have hown := (h.own id blk b sz m hb hi).1
        have hblt := hown.lt
        cases blk with
        | box cs =>
          simp only [hb] at he
          cases i with
          | succ i => simp at he
          | zero =>
            cases hw : writeV cs off xv.cells with
            | none => simp [hw] at he
            | some cs' =>
              simp only [hw, Option.some.injEq] at he
              subst he
              obtain ⟨hle, rfl⟩ := writeV_some hw
              obtain ⟨arr, e', hh, hsz, hcr⟩ := hown
              have hst := store_run (P := P) hT hl (o := off) hh (v := a.eval x) (by omega) (by omega) (fun j hj => (hxr j (by omega)).1.one (hxr j (by omega)).2)
              have hval : (.pointer (some ⟨b, 0 * sz + off, none⟩) : Value) = .pointer (some ⟨b, off, none⟩) := by simp
              have hw1 := hrun (withCells w b (writeArr arr off (a.eval x).cells.toList) e') (by rw [hval]; exact hst)
              refine does_skip (ι' := ι) (Fr' := Fr) hd hw1 ?_ rfl
              have hF : ∀ t k, Fr t k → Fr t k ∧ (withCells w b (writeArr arr off (a.eval x).cells.toList) e').heap[k]? = w.heap[k]? := fun t k hf => ⟨hf, withCells_ne fun e1 => (h.fr t k hf).2.2 id _ _ hb hi e1.symm⟩
              have hsh : ∀ k x', w.shape? k = some x' → (withCells w b (writeArr arr off (a.eval x).cells.toList) e').shape? k = some x' := fun k x' hk => shape_with hh (writeArr_size _ _ _) hk
              refine h.setOwn hb hi rfl rfl rfl withCells_size (fun k hk => withCells_ne hk) hsh ⟨_, e', withCells_get hblt, by rw [writeArr_size, setAt_length]; exact hsz, fun j hj => ?_⟩
              rw [setAt_length] at hj
              rw [setAt_getD _ _ _ _ hle, writeArr_getD _ _ _ _ (by simp; omega)]
              by_cases hjr : off ≤ j ∧ j < off + xv.cells.length
              · rw [if_pos hjr, if_pos (by simp; omega), toList_getD]
                exact (hxr _ (by omega)).1.world hF hsh
              · rw [if_neg hjr, if_neg (by simp; omega)]
                exact (hcr j hj).world hF hsh
        | arr sz' n f te =>
          simp only [hb] at he
          cases hw : writeV (f i).cells off (frz s.S te xv).cells with
          | none => simp [hw] at he
          | some cs' =>
            cases hc2 : fits te (frz s.S te xv) && !(mem id xv.ids) && allGe xv.ids with
            | false => simp [hw, hc2] at he
            | true =>
              simp only [hw, hc2, Option.some.injEq] at he
              subst he
              simp only [Bool.and_eq_true, Bool.not_eq_true'] at hc2
              obtain ⟨⟨hfit, hmem⟩, hge⟩ := hc2
              have hnid : id ∉ xv.ids := mem_false.1 hmem
              have h64 := allGe_iff hge
              have hin : i < n := ho _ (List.mem_singleton.2 rfl)
              obtain ⟨hle, rfl⟩ := writeV_some hw
              obtain ⟨q1, q2, q3, q4⟩ := frz_rep h hx (ids := xv.ids) (fun _ h => h) hfit
              have htag : te ≠ tagS ∨ xv.ids = [] := by
                by_cases ht : te = tagS
                · right
                  subst ht
                  obtain ⟨hsol2, hft⟩ := fits_iff hfit
                  -- a flat row takes no slices of one's own
                  have key : ∀ c : V, fitA tagS (frzA s.S tagS c) = true → solidA (frzA s.S tagS c) = true → c.ids = [] := by
                    intro c h1 h2
                    cases c with
                    | osl k n =>
                      have hy : (∃ g', frzA s.S tagS (.osl k n) = .sl n g' tagS) ∨ frzA s.S tagS (.osl k n) = .undef := by
                        simp only [frzA]
                        split
                        · split
                          · exact .inl ⟨_, rfl⟩
                          · exact .inr rfl
                        · exact .inr rfl
                      rcases hy with ⟨g', hy⟩ | hy
                      · rw [hy] at h1; simp [fitA, tagOfA, tagS] at h1
                      · rw [hy] at h2; simp [solidA] at h2
                    | oref => simp [frzA, solidA] at h2
                    | agg => simp [frzA, solidA] at h2
                    | tup => simp [frzA, solidA] at h2
                    | fn => simp [frzA, solidA] at h2
                    | cnd => simp [frzA, solidA] at h2
                    | _ => rfl
                  by_cases hag : ∃ ds, xv = .agg ds
                  · obtain ⟨ds, rfl⟩ := hag
                    simp only [frz, V.cells, List.length_map] at hft
                    simp only [V.ids]
                    have hall : ∀ j, j < ds.length → (ds.getD j .undef).ids = [] := by
                      intro j hj
                      have h1 := hft j hj
                      rw [getD_map hj] at h1
                      have h2 := all_getD (cs := ds.map (frzA s.S tagS)) hsol2 (j := j) (by simpa using hj)
                      rw [getD_map hj] at h2
                      exact key _ h1 h2
                    exact idsL_nil _ hall
                  · have hfz : (frz s.S tagS xv) = frzA s.S tagS xv := by
                      cases xv <;> first | rfl | exact absurd ⟨_, rfl⟩ hag
                    rw [hfz] at hft hsol2
                    rw [frzA_cells] at hft
                    refine key xv (by simpa using hft 0 (by simp)) ?_
                    cases hy : frzA s.S tagS xv <;> rw [hy] at hsol2 <;> first | exact hsol2 | skip
                    exfalso
                    cases xv <;> simp only [frzA] at hy <;> first | cases hy | skip
                    · split at hy
                      · split at hy <;> cases hy
                      · cases hy
                · exact .inl ht
              have hfr := h.freezeL te xv.ids htag h64
              obtain ⟨rfl, rfl, arr, e', hh, hsz, hgl, hcr⟩ := hown
              have hgi := hgl i hin
              have hmul : i * sz' + sz' ≤ arr.size := by
                have h1 : i * sz' + sz' = (i + 1) * sz' := by rw [Nat.add_mul, Nat.one_mul]
                have h2 : (i + 1) * sz' ≤ n * sz' := Nat.mul_le_mul_right _ hin
                omega
              have hst := store_run (P := P) hT hl (o := i * sz' + off) hh (v := a.eval x) (by omega) (by omega) q3
              have hw1 := hrun (withCells w b (writeArr arr (i * sz' + off) (a.eval x).cells.toList) e') hst
              refine does_skip (ι' := ι) (Fr' := FrK Fr s.S ι xv.ids te) hd hw1 ?_ rfl
              have hFk : ∀ t k, FrK Fr s.S ι xv.ids te t k → FrK Fr s.S ι xv.ids te t k ∧ (withCells w b (writeArr arr (i * sz' + off) (a.eval x).cells.toList) e').heap[k]? = w.heap[k]? := by
                intro t k hf
                refine ⟨hf, withCells_ne fun e1 => ?_⟩
                subst e1
                rcases hf with hf | ⟨_, id', hid', blk', r', hl', hi', e1⟩ | ⟨_, _, _, t', _, hf⟩
                · exact (h.fr t k hf).2.2 id _ _ hb hi rfl
                rotate_left
                · exact (h.fr t' k hf).2.2 id _ _ hb hi rfl
                · have := h.inj id' id blk' _ r' _ hl' hb hi' hi e1
                  exact hnid (this ▸ hid')
              have hsh : ∀ k x', w.shape? k = some x' → (withCells w b (writeArr arr (i * sz' + off) (a.eval x).cells.toList) e').shape? k = some x' := fun k x' hk => shape_with hh (writeArr_size _ _ _) hk
              have hb' : lk (applyUpd s.S (xv.ids.map fun id => (id, none))) id = some (.arr sz' n f te) := by rw [lk_kills, if_neg hnid]; exact hb
              have hset := hfr.setOwn (w' := withCells w b (writeArr arr (i * sz' + off) (a.eval x).cells.toList) e') hb' hi rfl rfl rfl withCells_size (fun k hk => withCells_ne hk) hsh
                (new := .arr sz' n (setg f i (elemV (isAggV (f i)) (setAt (f i).cells off (frz s.S te xv).cells))) te) ?_
              · refine hset.congr (fun _ => rfl) fun k => ?_
                show lk (applyUpd (put s.S id _) (kills xv)) k = _
                unfold kills
                rw [lk_kills, lk_put, lk_put, lk_kills]
                by_cases e1 : k = id
                · subst e1; simp [hnid]
                · simp [e1]
              · have hec : (elemV (isAggV (f i)) (setAt (f i).cells off (frz s.S te xv).cells)).cells = setAt (f i).cells off (frz s.S te xv).cells := by
                  by_cases hag : ∃ ds, f i = .agg ds
                  · obtain ⟨ds, hds⟩ := hag; rw [hds]; rfl
                  · refine elem_cells (setAt_length _ _ _) fun j hj ds => ?_
                    rw [setAt_length] at hj
                    have h2 : (f i).cells = [f i] := by
                      cases hv : f i <;> first | rfl | exact absurd ⟨_, hv⟩ hag
                    rw [setAt_getD _ _ _ _ hle]
                    split
                    · rename_i hjr
                      intro e1
                      have := (fits_iff hfit)
                      have hsa : solidA ((frz s.S te xv).cells.getD (j - off) .undef) = true := by
                        have hs2 := this.1
                        by_cases hag2 : ∃ es, frz s.S te xv = .agg es
                        · obtain ⟨es, hes⟩ := hag2
                          rw [hes] at hs2 hjr ⊢
                          exact all_getD (cs := es) hs2 (by simp only [V.cells] at hjr; omega)
                        · have h3 : (frz s.S te xv).cells = [frz s.S te xv] := by
                            cases hv : frz s.S te xv <;> first | rfl | exact absurd ⟨_, hv⟩ hag2
                          have h4 : solidA (frz s.S te xv) = true := by
                            cases hv : frz s.S te xv <;> rw [hv] at hs2 <;> first | exact hs2 | exact absurd ⟨_, hv⟩ hag2
                          rw [h3] at hjr ⊢
                          have h5 : j - off = 0 := by simp only [List.length_singleton] at hjr; omega
                          rw [h5]; simpa using h4
                      rw [e1] at hsa
                      simp [solidA] at hsa
                    · intro e1
                      rw [h2] at e1 hj
                      have h5 : j = 0 := by simpa using hj
                      subst h5
                      simp only [List.getD_cons_zero] at e1
                      exact hag ⟨_, e1⟩
                refine ⟨rfl, rfl, _, e', withCells_get hblt, by rw [writeArr_size]; exact hsz, fun k hk => ?_, fun k j hk hj => ?_⟩
                · unfold setg
                  split
                  · rw [hec, setAt_length]; exact hgi
                  · exact hgl k hk
                · rw [writeArr_getD _ _ _ _ (by simp; omega)]
                  have hnum : ∀ k', k' ≠ i → k' < n → ¬ (i * sz' + off ≤ k' * sz' + j ∧ k' * sz' + j < i * sz' + off + (a.eval x).cells.toList.length) := by
                    intro k' hne hk'
                    have hlen2 : (a.eval x).cells.toList.length = (frz s.S te xv).cells.length := by simp; omega
                    rw [hlen2]
                    rcases Nat.lt_or_gt_of_ne hne with h1 | h1
                    · have : (k' + 1) * sz' ≤ i * sz' := Nat.mul_le_mul_right _ h1
                      rw [Nat.add_mul, Nat.one_mul] at this
                      omega
                    · have : (i + 1) * sz' ≤ k' * sz' := Nat.mul_le_mul_right _ h1
                      rw [Nat.add_mul, Nat.one_mul] at this
                      omega
                  by_cases hki : k = i
                  · subst hki
                    simp only [setg, if_true]
                    rw [hec, setAt_getD _ _ _ _ hle]
                    have hlen2 : (a.eval x).cells.toList.length = (frz s.S te xv).cells.length := by simp; omega
                    by_cases hjr : off ≤ j ∧ j < off + (frz s.S te xv).cells.length
                    · rw [if_pos hjr, if_pos (by rw [hlen2]; omega), toList_getD]
                      have e1 : k * sz' + j - (k * sz' + off) = j - off := by omega
                      rw [e1]
                      exact (q4 _ (by omega)).mono fun b hb => hFk _ b hb
                    · rw [if_neg hjr, if_neg (by rw [hlen2]; omega)]
                      exact (hcr k j hk hj).mono fun b hb => ⟨.inl hb, (hFk _ b (.inl hb)).2⟩
                  · simp only [setg, hki, if_false]
                    rw [if_neg (hnum k hki hk)]
                    exact (hcr k j hk hj).mono fun b hb => ⟨.inl hb, (hFk _ b (.inl hb)).2⟩

end
end Go.Av
