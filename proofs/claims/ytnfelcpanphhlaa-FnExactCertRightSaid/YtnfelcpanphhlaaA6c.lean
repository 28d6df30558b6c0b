/- An operation's effect hangs on what it looks at alone. -/
import Derived.Test.YtnfelcpanphhlaaA6b
namespace Go.Av

theorem coreOp_congr {cx : Cx} {S : List (Nat × Blk)} {d : Nat} {ρ ρ' : Operand → V} {op : Op} (h : ∀ x ∈ opnds op, ρ' x = ρ x) : coreOp cx S d ρ' op = coreOp cx S d ρ op := by
  have pairs : ∀ ps : Array (Nat × Operand), (∀ x ∈ ps.toList.map (·.2), ρ' x = ρ x) → (ps.toList.map fun p => (p.1, ρ' p.2)) = ps.toList.map fun p => (p.1, ρ p.2) := by
    intro ps hp
    refine List.map_congr_left fun p hm => ?_
    rw [hp p.2 (List.mem_map.2 ⟨p, hm, rfl⟩)]
  have lst : ∀ l : List Operand, (∀ x ∈ l, ρ' x = ρ x) → l.map ρ' = l.map ρ := fun l hl => List.map_congr_left fun x hx => hl x hx
  have opt : ∀ o : Option Operand, (∀ x ∈ opndsO o, ρ' x = ρ x) → o.map ρ' = o.map ρ := by
    intro o ho
    cases o with
    | none => rfl
    | some x => simp only [Option.map_some]; rw [ho x (by simp [opndsO])]
  cases op with
  | move x => simp only [coreOp]; rw [h x (by simp [opnds])]
  | assign x => simp only [coreOp]; rw [h x (by simp [opnds])]
  | box e x => simp only [coreOp]; rw [h x (by simp [opnds])]
  | build t ps => simp only [coreOp]; rw [pairs ps h]
  | buildSlice t n ps => simp only [coreOp]; rw [pairs ps h]
  | load t x => simp only [coreOp]; rw [h x (by simp [opnds])]
  | store t x y => simp only [coreOp]; rw [h x (by simp [opnds]), h y (by simp [opnds])]
  | nilCheck x => simp only [coreOp]; rw [h x (by simp [opnds])]
  | binOp o t x y u => simp only [coreOp]; rw [h x (by simp [opnds]), h y (by simp [opnds])]
  | unOp o t x => simp only [coreOp]; rw [h x (by simp [opnds])]
  | convert s t x => simp only [coreOp]; rw [h x (by simp [opnds])]
  | makeFunc fn first caps =>
    have h2 := lst caps.toList fun x hx => h x (by simp only [opnds]; exact List.mem_append.2 (.inr hx))
    cases fn <;> simp only [coreOp]
    split <;> first | rfl | rw [h2]
  | makeSlice t x y => simp only [coreOp]; rw [h x (by simp [opnds]), h y (by simp [opnds])]
  | slice t x lo hi mx =>
    simp only [coreOp]
    rw [h x (by simp [opnds]), opt lo fun x hx => h x (by simp [opnds, hx]), opt hi fun x hx => h x (by simp [opnds, hx]), opt mx fun x hx => h x (by simp [opnds, hx])]
  | fieldAddr s x f => simp only [coreOp]; rw [h x (by simp [opnds])]
  | field s x f => simp only [coreOp]; rw [h x (by simp [opnds])]
  | indexAddr t x i => simp only [coreOp]; rw [h x (by simp [opnds]), h i (by simp [opnds])]
  | index t x i => simp only [coreOp]; rw [h x (by simp [opnds]), h i (by simp [opnds])]
  | extract x i => simp only [coreOp]; rw [h x (by simp [opnds])]
  | call c =>
    have hargs : ∀ x ∈ c.args.toList, ρ' x = ρ x := fun x hx => h x (by simp only [opnds]; exact List.mem_append.2 (.inr hx))
    simp only [coreOp]
    split
    · split
      · rename_i x t rest e1 _; rw [hargs x (by rw [e1]; simp)]
      · rfl
    · split
      · rename_i x y t u rest e1 _; rw [hargs x (by rw [e1]; simp), hargs y (by rw [e1]; simp)]
      · rfl
    · split
      · rename_i x r e1
        rw [hargs x (by rw [e1]; simp), lst r fun y hy => hargs y (by rw [e1]; simp [hy])]
      · rfl
    · split
      · rename_i x r e1
        rw [hargs x (by rw [e1]; simp), lst r fun y hy => hargs y (by rw [e1]; simp [hy])]
      · rfl
    · rename_i f hcal
      rw [h f (by simp only [opnds, hcal, calleeO]; exact List.mem_append.2 (.inl (by simp))), lst _ hargs]
    · rfl
  | _ => rfl

section
variable {S S' : List (Nat × Blk)}

theorem frzA_congr {t : Nat} {v : V} (h : ∀ id ∈ v.ids, lk S' id = lk S id) : frzA S' t v = frzA S t v := by
  cases v with
  | osl id n => simp only [frzA]; rw [h id (by simp [V.ids])]
  | _ => rfl

theorem mem_idsL {c : V} {cs : List V} (hc : c ∈ cs) {id : Nat} (hid : id ∈ c.ids) : id ∈ V.idsL cs := by
  induction cs with
  | nil => simp at hc
  | cons x r ih =>
    simp only [V.idsL, List.mem_append]
    rcases List.mem_cons.1 hc with rfl | hc
    · exact .inl hid
    · exact .inr (ih hc)

theorem frz_congr {t : Nat} {v : V} (h : ∀ id ∈ v.ids, lk S' id = lk S id) : frz S' t v = frz S t v := by
  cases v with
  | agg cs => simp only [frz]; rw [List.map_congr_left fun c hc => frzA_congr (fun id hid => h id (mem_idsL hc hid))]
  | osl id n => exact frzA_congr h
  | _ => rfl

theorem loadV_local {ti : TI} {a : V} {e : Ef} (h : loadV S ti a = some e) (hr : ∀ id ∈ e.rd, lk S' id = lk S id) : loadV S' ti a = some e := by
  cases a with
  | oref id i off =>
    have hm : id ∈ e.rd := by
      simp only [loadV] at h
      split at h
      · split at h
        · simp only [Option.some.injEq] at h; subst h; simp
        · simp at h
      · split at h
        · simp only [Option.some.injEq] at h; subst h; simp
        · simp at h
      · simp at h
    simp only [loadV] at h ⊢
    rw [hr id hm]; exact h
  | _ => exact h

theorem storeV_local {ti : TI} {a x : V} {e : Ef} (h : storeV S ti a x = some e) (hr : ∀ id ∈ e.rd, lk S' id = lk S id) : storeV S' ti a x = some e := by
  cases a with
  | oref id i off =>
    cases hb : Nat.beq x.cells.length ti.size && solid x with
    | false => simp only [storeV, hb] at h; simp at h
    | true =>
      simp only [storeV, hb] at h ⊢
      cases hl : lk S id with
      | none => rw [hl] at h; simp at h
      | some b =>
        rw [hl] at h
        cases b with
        | box cs =>
          have hm : id ∈ e.rd := by
            simp only [] at h
            split at h
            · simp only [Option.some.injEq] at h; subst h; simp
            · simp at h
          rw [hr id hm, hl]; exact h
        | arr sz n g te =>
          have hm : id ∈ e.rd ∧ ∀ k ∈ x.ids, k ∈ e.rd := by
            simp only [] at h
            split at h
            · simp only [Option.some.injEq] at h; subst h; exact ⟨by simp, fun k hk => by simp [hk]⟩
            · simp at h
          rw [hr id hm.1, hl]
          simp only []
          rw [frz_congr fun k hk => hr k (hm.2 k hk)]
          exact h
  | _ => simp [storeV] at h

theorem indexAddrV_local {tt : TT} {t : Nat} {x i : V} {e : Ef} (h : indexAddrV tt S t x i = some e) (hr : ∀ id ∈ e.rd, lk S' id = lk S id) : indexAddrV tt S' t x i = some e := by
  cases hti : elemTI tt t with
  | none => simp [indexAddrV, hti] at h
  | some ti =>
    cases x with
    | osl id n =>
      cases i with
      | int k j =>
        simp only [indexAddrV, hti] at h ⊢
        have hm : id ∈ e.rd := by
          split at h
          · split at h
            · simp only [Option.some.injEq] at h; subst h; simp
            · simp at h
          · simp at h
        rw [hr id hm]; exact h
      | _ => simp [indexAddrV, hti] at h
    | sl n g tg => cases i <;> (simp only [indexAddrV, hti] at h ⊢; exact h)
    | _ => simp [indexAddrV, hti] at h

theorem setParts_congr {size te : Nat} : ∀ {parts : List (Nat × V)} {es : List V}, (∀ id ∈ parts.flatMap fun p => p.2.ids, lk S' id = lk S id) → setParts size te S' es parts = setParts size te S es parts
  | [], _, _ => rfl
  | (i, x) :: r, es, h => by
    have e1 : frz S' te x = frz S te x := frz_congr fun id hid => h id (by simp [hid])
    simp only [setParts, e1]
    split
    · exact setParts_congr fun id hid => h id (by simp only [List.flatMap_cons, List.mem_append]; exact .inr hid)
    · rfl

theorem buildSliceV_local {tt : TT} {site t len : Nat} {parts : List (Nat × V)} {e : Ef} (h : buildSliceV tt S site t len parts = some e) (hr : ∀ id ∈ e.rd, lk S' id = lk S id) :
    buildSliceV tt S' site t len parts = some e := by
  unfold buildSliceV at h ⊢
  split at h
  · rename_i ti h1
    split at h
    · have hrd : e.rd = parts.flatMap fun p => p.2.ids := by
        split at h
        · simp only [Option.some.injEq] at h; subst h; rfl
        · simp at h
      rw [setParts_congr fun id hid => hr id (by rw [hrd]; exact hid)]
      exact h
    · simp at h
  · simp at h

theorem srcV_local {x : V} {m : Nat} {h : Nat → V} {th : Nat} {rd : List Nat} (hs : srcV S x = some (m, h, th, rd)) (hr : ∀ id ∈ rd, lk S' id = lk S id) : srcV S' x = some (m, h, th, rd) := by
  cases x with
  | osl id n =>
    have hm : id ∈ rd := by
      simp only [srcV] at hs
      split at hs
      · simp only [Option.some.injEq, Prod.mk.injEq] at hs; rw [← hs.2.2.2]; simp
      · simp at hs
    simp only [srcV] at hs ⊢
    rw [hr id hm]; exact hs
  | _ => exact hs

theorem appendV_local {tt : TT} {site t : Nat} {s x : V} {e : Ef} (h : appendV tt S site t s x = some e) (hr : ∀ id ∈ e.rd, lk S' id = lk S id) : appendV tt S' site t s x = some e := by
  unfold appendV at h ⊢
  cases hti : elemTI tt t with
  | none => rw [hti] at h; simp at h
  | some ti =>
    cases hx : srcV S x with
    | none => rw [hti, hx] at h; simp at h
    | some q =>
      obtain ⟨m, f, th, rd⟩ := q
      rw [hti, hx] at h
      simp only [] at h
      have hrd : ∀ id ∈ rd, id ∈ e.rd := by
        intro id hid
        split at h
        · split at h
          · simp only [Option.some.injEq] at h; subst h; exact hid
          · split at h
            · split at h
              · split at h
                · simp only [Option.some.injEq] at h; subst h; exact List.mem_cons_of_mem _ hid
                · simp at h
              · simp at h
            · simp at h
          · simp at h
        · simp at h
      rw [srcV_local hx fun id hid => hr id (hrd id hid)]
      simp only []
      cases s with
      | osl id n =>
        have hm : id ∈ e.rd := by
          split at h
          · simp only [] at h
            split at h
            · split at h
              · split at h
                · simp only [Option.some.injEq] at h; subst h; simp
                · simp at h
              · simp at h
            · simp at h
          · simp at h
        simp only [] at h ⊢
        rw [hr id hm]; exact h
      | _ => exact h

theorem lendA_congr {v : V} (h : ∀ id ∈ v.ids, lk S' id = lk S id) : lendA S' v = lendA S v := by
  cases v with
  | osl id n => simp only [lendA]; rw [h id (by simp [V.ids])]
  | oref id i off => simp only [lendA]; rw [h id (by simp [V.ids])]
  | _ => rfl

theorem lendB_congr {v : V} (h : ∀ id ∈ v.ids, lk S' id = lk S id) (h2 : ∀ id ∈ v.ids, ∀ b, lk S id = some b → ∀ k ∈ b.ids, lk S' k = lk S k) : lendB S' v = lendB S v := by
  cases v with
  | osl id n => exact lendA_congr h
  | oref id i off =>
    simp only [lendB]
    rw [h id (by simp [V.ids])]
    cases hl : lk S id with
    | none => rfl
    | some b =>
      cases b with
      | arr => rfl
      | box cs =>
        have hb := h2 id (by simp [V.ids]) _ hl
        simp only []
        rw [List.map_congr_left fun c hc => lendA_congr fun k hk => hb k (mem_idsL hc hk)]
  | _ => rfl

theorem lend_congr {v : V} (h : ∀ id ∈ v.ids, lk S' id = lk S id) (h2 : ∀ id ∈ v.ids, ∀ b, lk S id = some b → ∀ k ∈ b.ids, lk S' k = lk S k) : lend S' v = lend S v := by
  cases v with
  | agg cs => simp only [lend]; rw [List.map_congr_left fun c hc => lendB_congr (fun k hk => h k (mem_idsL hc hk)) fun k hk => h2 k (mem_idsL hc hk)]
  | fn f cs => simp only [lend]; rw [List.map_congr_left fun c hc => lendB_congr (fun k hk => h k (mem_idsL hc hk)) fun k hk => h2 k (mem_idsL hc hk)]
  | osl id n => exact lendB_congr h h2
  | oref id i off => exact lendB_congr h h2
  | _ => rfl

theorem blks_congr : ∀ {ids : List Nat}, (∀ id ∈ ids, lk S' id = lk S id) → blks S' ids = blks S ids
  | [], _ => rfl
  | id :: r, h => by
    simp only [blks]
    rw [h id (List.mem_cons_self ..), blks_congr fun k hk => h k (List.mem_cons_of_mem _ hk)]

theorem callV_local {cx : Cx} {d f : Nat} {args : List V} {e : Ef} (h : callV cx S d f args = some e) (hr : ∀ id ∈ e.rd, lk S' id = lk S id) : callV cx S' d f args = some e := by
  unfold callV at h ⊢
  cases hD : cx.D f with
  | none => rw [hD] at h; simp at h
  | some q =>
    obtain ⟨io, D⟩ := q
    rw [hD] at h
    cases io with
    | false =>
      simp only [] at h ⊢
      have hrd : e.rd = lendIds S args := by
        split at h
        · split at h
          · simp only [Option.some.injEq] at h; subst h; rfl
          · simp at h
        · simp at h
      rw [hrd] at hr
      have h1 : ∀ id ∈ V.idsL args, lk S' id = lk S id := fun id hid => hr id (by unfold lendIds; exact List.mem_append.2 (.inl hid))
      have h2 : ∀ id ∈ V.idsL args, ∀ b, lk S id = some b → ∀ k ∈ b.ids, lk S' k = lk S k := fun id hid b hb k hk =>
        hr k (by unfold lendIds; refine List.mem_append.2 (.inr (List.mem_flatMap.2 ⟨id, hid, ?_⟩)); rw [hb]; exact hk)
      have e1 : args.map (lend S') = args.map (lend S) := List.map_congr_left fun v hv => lend_congr (fun k hk => h1 k (mem_idsL hv hk)) fun k hk => h2 k (mem_idsL hv hk)
      have e2 : lendIds S' args = lendIds S args := by
        unfold lendIds
        congr 1
        rw [List.flatMap_def, List.flatMap_def, List.map_congr_left fun k hk => by rw [h1 k hk]]
      rw [e1, e2]; exact h
    | true =>
      simp only [] at h ⊢
      have hrd : e.rd = undup (V.idsL args) := by
        split at h
        · split at h
          · split at h
            · simp only [Option.some.injEq] at h; subst h; rfl
            · simp at h
          · simp at h
        · simp at h
      rw [blks_congr fun id hid => hr id (by rw [hrd]; exact hid)]
      exact h

theorem coreOp_local {cx : Cx} {d : Nat} {ρ : Operand → V} {op : Op} {e : Ef} (h : coreOp cx S d ρ op = some e) (hr : ∀ id ∈ e.rd, lk S' id = lk S id) : coreOp cx S' d ρ op = some e := by
  cases op with
  | buildSlice t n ps => exact buildSliceV_local h hr
  | load t x =>
    simp only [coreOp] at h ⊢
    split at h
    · exact loadV_local h hr
    · simp at h
  | store t x y =>
    simp only [coreOp] at h ⊢
    split at h
    · exact storeV_local h hr
    · simp at h
  | indexAddr t x i => exact indexAddrV_local h hr
  | call c =>
    simp only [coreOp] at h ⊢
    split at h
    · exact h
    · split at h
      · split at h
        · exact appendV_local h hr
        · simp at h
      · simp at h
    · exact h
    · exact h
    · split at h
      · exact callV_local h hr
      · simp at h
    · simp at h
  | makeFunc fn first caps => cases fn <;> exact h
  | _ => exact h

end

theorem aval_congr {s s' : AS} {x : Operand} (h : ∀ t, x = .tmp t → lk s'.T t = lk s.T t) : aval s' x = aval s x := by
  cases x with
  | tmp t => simp only [aval]; rw [h t rfl]
  | _ => rfl

theorem opE_local {cx : Cx} {s s' : AS} {gd : Bool} {d : Nat} {op : Op} {e : Ef} (h : opE cx s gd d op = some e)
    (hT : ∀ t, .tmp t ∈ lookO op → lk s'.T t = lk s.T t) (hS : ∀ id ∈ e.rd, lk s'.S id = lk s.S id) : opE cx s' gd d op = some e := by
  have key : (∃ c x y, op = .pick c x y) ∨ (lookO op = opnds op ∧ ∀ s : AS, opE cx s gd d op = withO ((opnds op).flatMap fun x => stripO gd (aval s x)) (coreOp cx s.S d (fun x => strip (aval s x)) op)) := by
    cases op <;> first | exact .inl ⟨_, _, _, rfl⟩ | exact .inr ⟨rfl, fun _ => rfl⟩
  rcases key with ⟨c, x, y, rfl⟩ | ⟨hk, key⟩
  · have h1 : aval s' c = aval s c := aval_congr fun t ht => hT t (by simp [lookO, ht])
    have h2 : aval s' x = aval s x := aval_congr fun t ht => hT t (by simp [lookO, ht])
    have h3 : aval s' y = aval s y := aval_congr fun t ht => hT t (by simp [lookO, ht])
    simp only [opE] at h ⊢
    rw [h1, h2, h3]; exact h
  · rw [hk] at hT
    rw [key] at h ⊢
    have ha : ∀ x ∈ opnds op, aval s' x = aval s x := fun x hx => aval_congr fun t ht => hT t (ht ▸ hx)
    have e1 : ((opnds op).flatMap fun x => stripO gd (aval s' x)) = (opnds op).flatMap fun x => stripO gd (aval s x) := by
      rw [List.flatMap_def, List.flatMap_def, List.map_congr_left fun x hx => by rw [ha x hx]]
    rw [e1]
    obtain ⟨e', he', rfl⟩ := withO_some h
    rw [coreOp_congr (ρ := fun x => strip (aval s x)) fun x hx => by rw [ha x hx], coreOp_local he' hS]
    rfl

theorem operE_local {cx : Cx} {ops : List Oper} {s s' : AS} {o : Oper} {e : Ef} (h : operE cx ops s o = some e) (hT : ∀ t ∈ looksOf ops o, lk s'.T t = lk s.T t) (hS : ∀ id ∈ e.rd, lk s'.S id = lk s.S id) :
    operE cx ops s' o = some e := by
  have hop : ∀ t, .tmp t ∈ lookO o.op → lk s'.T t = lk s.T t := by
    intro t ht
    refine hT t ?_
    unfold looksOf
    refine List.mem_append.2 (.inl ?_)
    unfold tmpsOf
    exact List.mem_filterMap.2 ⟨_, ht, rfl⟩
  have hgd : guardOf ops s' o = guardOf ops s o := by
    unfold guardOf
    cases hg : o.guard with
    | none => rfl
    | some jw =>
      obtain ⟨j, want⟩ := jw
      simp only []
      cases hj : ops[j]? with
      | none => rfl
      | some oj =>
        simp only []
        cases ht : oj.dst with
        | none => rfl
        | some t =>
          simp only []
          rw [hT t (by unfold looksOf; refine List.mem_append.2 (.inr ?_); rw [hg]; simp [hj, ht])]
  unfold operE at h ⊢
  rw [hgd]
  split at h
  · exact opE_local h hop hS
  · rename_i gd hg hd
    split at h
    · rename_i v rd ob he
      simp only [Option.some.injEq] at h
      subst h
      rw [opE_local he hop hS]
    · simp at h
  · simp at h

end Go.Av
