/- Regions in any order; loop heads; the condition of a body. -/
import Derived.Test.YtgefdljcommhhaaGreatDoorL3
import Derived.Orders
import Derived.LoopN
/- An operation's effect hangs on what it looks at alone. -/
namespace Go.Av

theorem coreOp_congr {cx : Cx} {S : List (Nat × Blk)} {d : Nat} {ρ ρ' : Operand → V} {op : Op} (h : ∀ x ∈ opnds op, ρ' x = ρ x) : coreOp cx S d ρ' op = coreOp cx S d ρ op := by
  have pairs : ∀ ps : Array (Nat × Operand), (∀ x ∈ ps.toList.map (·.2), ρ' x = ρ x) → (ps.toList.map fun p => (p.1, ρ' p.2)) = ps.toList.map fun p => (p.1, ρ p.2) := by
    intro ps hp
    refine List.map_congr_left fun p hm => ?_
    rw [hp p.2 (List.mem_map.2 ⟨p, hm, rfl⟩)]
  have lst : ∀ l : List Operand, (∀ x ∈ l, ρ' x = ρ x) → l.map ρ' = l.map ρ := fun l hl => List.map_congr_left fun x hx => hl x hx
  have opt : ∀ o : Option Operand, (∀ x ∈ opndsO o, ρ' x = ρ x) → o.map ρ' = o.map ρ := by
    intro o ho
    cases o with
    | none => rfl
    | some x => simp only [Option.map_some]; rw [ho x (by simp [opndsO])]
  cases op with
  | move x => simp only [coreOp]; rw [h x (by simp [opnds])]
  | assign x => simp only [coreOp]; rw [h x (by simp [opnds])]
  | box e x => simp only [coreOp]; rw [h x (by simp [opnds])]
  | build t ps => simp only [coreOp]; rw [pairs ps h]
  | buildSlice t n ps => simp only [coreOp]; rw [pairs ps h]
  | load t x => simp only [coreOp]; rw [h x (by simp [opnds])]
  | store t x y => simp only [coreOp]; rw [h x (by simp [opnds]), h y (by simp [opnds])]
  | nilCheck x => simp only [coreOp]; rw [h x (by simp [opnds])]
  | binOp o t x y u => simp only [coreOp]; rw [h x (by simp [opnds]), h y (by simp [opnds])]
  | unOp o t x => simp only [coreOp]; rw [h x (by simp [opnds])]
  | convert s t x => simp only [coreOp]; rw [h x (by simp [opnds])]
  | makeFunc fn first caps =>
    have h2 := lst caps.toList fun x hx => h x (by simp only [opnds]; exact List.mem_append.2 (.inr hx))
    cases fn <;> simp only [coreOp]
    split <;> first | rfl | rw [h2]
  | makeSlice t x y => simp only [coreOp]; rw [h x (by simp [opnds]), h y (by simp [opnds])]
  | slice t x lo hi mx =>
    simp only [coreOp]
    rw [h x (by simp [opnds]), opt lo fun x hx => h x (by simp [opnds, hx]), opt hi fun x hx => h x (by simp [opnds, hx]), opt mx fun x hx => h x (by simp [opnds, hx])]
  | fieldAddr s x f => simp only [coreOp]; rw [h x (by simp [opnds])]
  | field s x f => simp only [coreOp]; rw [h x (by simp [opnds])]
  | indexAddr t x i => simp only [coreOp]; rw [h x (by simp [opnds]), h i (by simp [opnds])]
  | index t x i => simp only [coreOp]; rw [h x (by simp [opnds]), h i (by simp [opnds])]
  | makeMap t r => cases r <;> rfl
  | lookup t x i c => simp only [coreOp]; rw [h x (by simp [opnds]), h i (by simp [opnds])]
  | mapUpdate t x i v => simp only [coreOp]; rw [h x (by simp [opnds]), h i (by simp [opnds]), h v (by simp [opnds])]
  | extract x i => simp only [coreOp]; rw [h x (by simp [opnds])]
  | call c =>
    have hargs : ∀ x ∈ c.args.toList, ρ' x = ρ x := fun x hx => h x (by simp only [opnds]; exact List.mem_append.2 (.inr hx))
    simp only [coreOp]
    split
    · split
      · rename_i x t rest e1 _; rw [hargs x (by rw [e1]; simp)]
      · rfl
    · split
      · rename_i x y t u rest e1 _; rw [hargs x (by rw [e1]; simp), hargs y (by rw [e1]; simp)]
      · rfl
    · split
      · rename_i x r e1
        rw [hargs x (by rw [e1]; simp), lst r fun y hy => hargs y (by rw [e1]; simp [hy])]
      · rfl
    · split
      · rename_i x r e1
        rw [hargs x (by rw [e1]; simp), lst r fun y hy => hargs y (by rw [e1]; simp [hy])]
      · rfl
    · rename_i f hcal
      rw [h f (by simp only [opnds, hcal, calleeO]; exact List.mem_append.2 (.inl (by simp))), lst _ hargs]
    · rfl
  | _ => rfl

section
variable {S S' : List (Nat × Blk)}

theorem frzA_congr {t : Nat} {v : V} (h : ∀ id ∈ v.ids, lk S' id = lk S id) : frzA S' t v = frzA S t v := by
  cases v with
  | osl id n => simp only [frzA]; rw [h id (by simp [V.ids])]
  | _ => rfl

theorem mem_idsL {c : V} {cs : List V} (hc : c ∈ cs) {id : Nat} (hid : id ∈ c.ids) : id ∈ V.idsL cs := by
  induction cs with
  | nil => simp at hc
  | cons x r ih =>
    simp only [V.idsL, List.mem_append]
    rcases List.mem_cons.1 hc with rfl | hc
    · exact .inl hid
    · exact .inr (ih hc)

theorem frz_congr {t : Nat} {v : V} (h : ∀ id ∈ v.ids, lk S' id = lk S id) : frz S' t v = frz S t v := by
  cases v with
  | agg cs => simp only [frz]; rw [List.map_congr_left fun c hc => frzA_congr (fun id hid => h id (mem_idsL hc hid))]
  | osl id n => exact frzA_congr h
  | _ => rfl

theorem loadV_local {ti : TI} {a : V} {e : Ef} (h : loadV S ti a = some e) (hr : ∀ id ∈ e.rd, lk S' id = lk S id) : loadV S' ti a = some e := by
  cases a with
  | oref id i off =>
    have hm : id ∈ e.rd := by
      simp only [loadV] at h
      split at h
      · split at h
        · simp only [Option.some.injEq] at h; subst h; simp
        · simp at h
      · split at h
        · simp only [Option.some.injEq] at h; subst h; simp
        · simp at h
      · simp at h
    simp only [loadV] at h ⊢
    rw [hr id hm]; exact h
  | _ => exact h

theorem storeV_local {ti : TI} {a x : V} {e : Ef} (h : storeV S ti a x = some e) (hr : ∀ id ∈ e.rd, lk S' id = lk S id) : storeV S' ti a x = some e := by
  cases a with
  | oref id i off =>
    cases hb : Nat.beq x.cells.length ti.size && solid x with
    | false => simp only [storeV, hb] at h; simp at h
    | true =>
      simp only [storeV, hb] at h ⊢
      cases hl : lk S id with
      | none => rw [hl] at h; simp at h
      | some b =>
        rw [hl] at h
        cases b with
        | mp => simp at h
        | box cs =>
          have hm : id ∈ e.rd := by
            simp only [] at h
            split at h
            · simp only [Option.some.injEq] at h; subst h; simp
            · simp at h
          rw [hr id hm, hl]; exact h
        | arr sz n g te =>
          have hm : id ∈ e.rd ∧ ∀ k ∈ x.ids, k ∈ e.rd := by
            simp only [] at h
            split at h
            · simp only [Option.some.injEq] at h; subst h; exact ⟨by simp, fun k hk => by simp [hk]⟩
            · simp at h
          rw [hr id hm.1, hl]
          simp only []
          rw [frz_congr fun k hk => hr k (hm.2 k hk)]
          exact h
  | _ => simp [storeV] at h

theorem indexAddrV_local {tt : TT} {t : Nat} {x i : V} {e : Ef} (h : indexAddrV tt S t x i = some e) (hr : ∀ id ∈ e.rd, lk S' id = lk S id) : indexAddrV tt S' t x i = some e := by
  cases hti : elemTI tt t with
  | none => simp [indexAddrV, hti] at h
  | some ti =>
    cases x with
    | osl id n =>
      cases i with
      | int k j =>
        simp only [indexAddrV, hti] at h ⊢
        have hm : id ∈ e.rd := by
          split at h
          · split at h
            · simp only [Option.some.injEq] at h; subst h; simp
            · simp at h
          · simp at h
        rw [hr id hm]; exact h
      | _ => simp [indexAddrV, hti] at h
    | sl n g tg => cases i <;> (simp only [indexAddrV, hti] at h ⊢; exact h)
    | _ => simp [indexAddrV, hti] at h

theorem setParts_congr {size te : Nat} : ∀ {parts : List (Nat × V)} {es : List V}, (∀ id ∈ parts.flatMap fun p => p.2.ids, lk S' id = lk S id) → setParts size te S' es parts = setParts size te S es parts
  | [], _, _ => rfl
  | (i, x) :: r, es, h => by
    have e1 : frz S' te x = frz S te x := frz_congr fun id hid => h id (by simp [hid])
    simp only [setParts, e1]
    split
    · exact setParts_congr fun id hid => h id (by simp only [List.flatMap_cons, List.mem_append]; exact .inr hid)
    · rfl

theorem buildSliceV_local {tt : TT} {site t len : Nat} {parts : List (Nat × V)} {e : Ef} (h : buildSliceV tt S site t len parts = some e) (hr : ∀ id ∈ e.rd, lk S' id = lk S id) :
    buildSliceV tt S' site t len parts = some e := by
  unfold buildSliceV at h ⊢
  split at h
  · rename_i ti h1
    split at h
    · have hrd : e.rd = parts.flatMap fun p => p.2.ids := by
        split at h
        · simp only [Option.some.injEq] at h; subst h; rfl
        · simp at h
      rw [setParts_congr fun id hid => hr id (by rw [hrd]; exact hid)]
      exact h
    · simp at h
  · simp at h

theorem srcV_local {x : V} {m : Nat} {h : Nat → V} {th : Nat} {rd : List Nat} (hs : srcV S x = some (m, h, th, rd)) (hr : ∀ id ∈ rd, lk S' id = lk S id) : srcV S' x = some (m, h, th, rd) := by
  cases x with
  | osl id n =>
    have hm : id ∈ rd := by
      simp only [srcV] at hs
      split at hs
      · simp only [Option.some.injEq, Prod.mk.injEq] at hs; rw [← hs.2.2.2]; simp
      · simp at hs
    simp only [srcV] at hs ⊢
    rw [hr id hm]; exact hs
  | _ => exact hs

theorem appendV_local {tt : TT} {site t : Nat} {s x : V} {e : Ef} (h : appendV tt S site t s x = some e) (hr : ∀ id ∈ e.rd, lk S' id = lk S id) : appendV tt S' site t s x = some e := by
  unfold appendV at h ⊢
  cases hti : elemTI tt t with
  | none => rw [hti] at h; simp at h
  | some ti =>
    cases hx : srcV S x with
    | none => rw [hti, hx] at h; simp at h
    | some q =>
      obtain ⟨m, f, th, rd⟩ := q
      rw [hti, hx] at h
      simp only [] at h
      have hrd : ∀ id ∈ rd, id ∈ e.rd := by
        intro id hid
        split at h
        · split at h
          · simp only [Option.some.injEq] at h; subst h; exact hid
          · split at h
            · split at h
              · split at h
                · simp only [Option.some.injEq] at h; subst h; exact List.mem_cons_of_mem _ hid
                · simp at h
              · simp at h
            · simp at h
          · simp at h
        · simp at h
      rw [srcV_local hx fun id hid => hr id (hrd id hid)]
      simp only []
      cases s with
      | osl id n =>
        have hm : id ∈ e.rd := by
          split at h
          · simp only [] at h
            split at h
            · split at h
              · split at h
                · simp only [Option.some.injEq] at h; subst h; simp
                · simp at h
              · simp at h
            · simp at h
          · simp at h
        simp only [] at h ⊢
        rw [hr id hm]; exact h
      | _ => exact h

theorem lendA_congr {v : V} (h : ∀ id ∈ v.ids, lk S' id = lk S id) : lendA S' v = lendA S v := by
  cases v with
  | osl id n => simp only [lendA]; rw [h id (by simp [V.ids])]
  | oref id i off => simp only [lendA]; rw [h id (by simp [V.ids])]
  | _ => rfl

theorem lendX_congr {v : V} (h : ∀ id ∈ v.ids, lk S' id = lk S id) : lendX S' v = lendX S v := by
  cases v with
  | fn f cs => rfl
  | osl id n => exact lendA_congr h
  | oref id i off => exact lendA_congr h
  | _ => rfl

theorem lendB_congr {v : V} (h : ∀ id ∈ v.ids, lk S' id = lk S id) (h2 : ∀ id ∈ v.ids, ∀ b, lk S id = some b → ∀ k ∈ b.ids, lk S' k = lk S k) : lendB S' v = lendB S v := by
  cases v with
  | osl id n => exact lendA_congr h
  | oref id i off =>
    simp only [lendB]
    rw [h id (by simp [V.ids])]
    cases hl : lk S id with
    | none => rfl
    | some b =>
      cases b with
      | mp => rfl
      | arr => rfl
      | box cs =>
        have hb := h2 id (by simp [V.ids]) _ hl
        simp only []
        rw [List.map_congr_left fun c hc => lendX_congr fun k hk => hb k (mem_idsL hc hk)]
  | _ => rfl

theorem lend_congr {v : V} (h : ∀ id ∈ v.ids, lk S' id = lk S id) (h2 : ∀ id ∈ v.ids, ∀ b, lk S id = some b → ∀ k ∈ b.ids, lk S' k = lk S k) : lend S' v = lend S v := by
  cases v with
  | agg cs => simp only [lend]; rw [List.map_congr_left fun c hc => lendB_congr (fun k hk => h k (mem_idsL hc hk)) fun k hk => h2 k (mem_idsL hc hk)]
  | fn f cs => simp only [lend]; rw [List.map_congr_left fun c hc => lendB_congr (fun k hk => h k (mem_idsL hc hk)) fun k hk => h2 k (mem_idsL hc hk)]
  | osl id n => exact lendB_congr h h2
  | oref id i off => exact lendB_congr h h2
  | _ => rfl

theorem blks_congr : ∀ {ids : List Nat}, (∀ id ∈ ids, lk S' id = lk S id) → blks S' ids = blks S ids
  | [], _ => rfl
  | id :: r, h => by
    simp only [blks]
    rw [h id (List.mem_cons_self ..), blks_congr fun k hk => h k (List.mem_cons_of_mem _ hk)]

theorem callV_local {cx : Cx} {d f : Nat} {args : List V} {e : Ef} (h : callV cx S d f args = some e) (hr : ∀ id ∈ e.rd, lk S' id = lk S id) : callV cx S' d f args = some e := by
  unfold callV at h ⊢
  cases hD : cx.D f with
  | none => rw [hD] at h; simp at h
  | some q =>
    obtain ⟨io, D⟩ := q
    rw [hD] at h
    cases io with
    | false =>
      simp only [] at h ⊢
      have hrd : e.rd = lendIds S args := by
        split at h
        · split at h
          · simp only [Option.some.injEq] at h; subst h; rfl
          · simp at h
        · simp at h
      rw [hrd] at hr
      have h1 : ∀ id ∈ V.idsL args, lk S' id = lk S id := fun id hid => hr id (by unfold lendIds; exact List.mem_append.2 (.inl hid))
      have h2 : ∀ id ∈ V.idsL args, ∀ b, lk S id = some b → ∀ k ∈ b.ids, lk S' k = lk S k := fun id hid b hb k hk =>
        hr k (by unfold lendIds; refine List.mem_append.2 (.inr (List.mem_flatMap.2 ⟨id, hid, ?_⟩)); rw [hb]; exact hk)
      have e1 : args.map (lend S') = args.map (lend S) := List.map_congr_left fun v hv => lend_congr (fun k hk => h1 k (mem_idsL hv hk)) fun k hk => h2 k (mem_idsL hv hk)
      have e2 : lendIds S' args = lendIds S args := by
        unfold lendIds
        congr 1
        rw [List.flatMap_def, List.flatMap_def, List.map_congr_left fun k hk => by rw [h1 k hk]]
      rw [e1, e2]; exact h
    | true =>
      simp only [] at h ⊢
      have hrd : e.rd = undup (V.idsL args) := by
        split at h
        · split at h
          · split at h
            · simp only [Option.some.injEq] at h; subst h; rfl
            · simp at h
          · simp at h
        · simp at h
      rw [blks_congr fun id hid => hr id (by rw [hrd]; exact hid)]
      exact h

theorem lookupV_local {tt : TT} {t : Nat} {x ix : V} {c : Bool} {e : Ef} (h : lookupV tt S t x ix c = some e) (hr : ∀ id ∈ e.rd, lk S' id = lk S id) : lookupV tt S' t x ix c = some e := by
  unfold lookupV at h ⊢
  split at h
  · rename_i ti id k n hti
    have hm : id ∈ e.rd := by
      split at h
      · split at h
        · simp only [Option.some.injEq] at h; subst h; simp
        · simp at h
      · simp at h
    rw [hr id hm]; exact h
  · simp at h

theorem mapUpdateV_local {tt : TT} {t : Nat} {x ix v : V} {e : Ef} (h : mapUpdateV tt S t x ix v = some e) (hr : ∀ id ∈ e.rd, lk S' id = lk S id) : mapUpdateV tt S' t x ix v = some e := by
  unfold mapUpdateV at h ⊢
  split at h
  · rename_i ti id k n hti
    have hm : id ∈ e.rd := by
      split at h
      · simp only [Option.some.injEq] at h; subst h; simp
      · simp at h
    rw [hr id hm]; exact h
  · simp at h

theorem convX_local {tt : TT} {src dst : Nat} {x : V} {e : Ef} (h : convX tt S src dst x = some e) (hr : ∀ id ∈ e.rd, lk S' id = lk S id) : convX tt S' src dst x = some e := by
  unfold convX at h ⊢
  cases x with
  | osl id n =>
    simp only at h ⊢
    have hm : id ∈ e.rd := by
      split at h
      · split at h
        · simp only [Option.some.injEq] at h; subst h; simp
        · simp at h
      · simp at h
    rw [hr id hm]; exact h
  | _ => exact h

theorem coreOp_local {cx : Cx} {d : Nat} {ρ : Operand → V} {op : Op} {e : Ef} (h : coreOp cx S d ρ op = some e) (hr : ∀ id ∈ e.rd, lk S' id = lk S id) : coreOp cx S' d ρ op = some e := by
  cases op with
  | buildSlice t n ps => exact buildSliceV_local h hr
  | load t x =>
    simp only [coreOp] at h ⊢
    split at h
    · exact loadV_local h hr
    · simp at h
  | store t x y =>
    simp only [coreOp] at h ⊢
    split at h
    · exact storeV_local h hr
    · simp at h
  | indexAddr t x i => exact indexAddrV_local h hr
  | convert a b x => exact convX_local h hr
  | makeMap t r => cases r <;> exact h
  | lookup t x i c => exact lookupV_local h hr
  | mapUpdate t x i v => exact mapUpdateV_local h hr
  | call c =>
    simp only [coreOp] at h ⊢
    split at h
    · exact h
    · split at h
      · split at h
        · exact appendV_local h hr
        · simp at h
      · simp at h
    · exact h
    · exact h
    · split at h
      · exact callV_local h hr
      · simp at h
    · simp at h
  | makeFunc fn first caps => cases fn <;> exact h
  | _ => exact h

end

theorem aval_congr {s s' : AS} {x : Operand} (h : ∀ t, x = .tmp t → lk s'.T t = lk s.T t) : aval s' x = aval s x := by
  cases x with
  | tmp t => simp only [aval]; rw [h t rfl]
  | _ => rfl

theorem opE_local {cx : Cx} {s s' : AS} {gd : Bool} {d : Nat} {op : Op} {e : Ef} (h : opE cx s gd d op = some e)
    (hT : ∀ t, .tmp t ∈ lookO op → lk s'.T t = lk s.T t) (hS : ∀ id ∈ e.rd, lk s'.S id = lk s.S id) : opE cx s' gd d op = some e := by
  have key : (∃ c x y, op = .pick c x y) ∨ (lookO op = opnds op ∧ ∀ s : AS, opE cx s gd d op = withO ((opnds op).flatMap fun x => stripO gd (aval s x)) (coreOp cx s.S d (fun x => strip (aval s x)) op)) := by
    cases op <;> first | exact .inl ⟨_, _, _, rfl⟩ | exact .inr ⟨rfl, fun _ => rfl⟩
  rcases key with ⟨c, x, y, rfl⟩ | ⟨hk, key⟩
  · have h1 : aval s' c = aval s c := aval_congr fun t ht => hT t (by simp [lookO, ht])
    have h2 : aval s' x = aval s x := aval_congr fun t ht => hT t (by simp [lookO, ht])
    have h3 : aval s' y = aval s y := aval_congr fun t ht => hT t (by simp [lookO, ht])
    simp only [opE] at h ⊢
    rw [h1, h2, h3]; exact h
  · rw [hk] at hT
    rw [key] at h ⊢
    have ha : ∀ x ∈ opnds op, aval s' x = aval s x := fun x hx => aval_congr fun t ht => hT t (ht ▸ hx)
    have e1 : ((opnds op).flatMap fun x => stripO gd (aval s' x)) = (opnds op).flatMap fun x => stripO gd (aval s x) := by
      rw [List.flatMap_def, List.flatMap_def, List.map_congr_left fun x hx => by rw [ha x hx]]
    rw [e1]
    obtain ⟨e', he', rfl⟩ := withO_some h
    rw [coreOp_congr (ρ := fun x => strip (aval s x)) fun x hx => by rw [ha x hx], coreOp_local he' hS]
    rfl

theorem operE_local {cx : Cx} {ops : List Oper} {s s' : AS} {o : Oper} {e : Ef} (h : operE cx ops s o = some e) (hT : ∀ t ∈ looksOf ops o, lk s'.T t = lk s.T t) (hS : ∀ id ∈ e.rd, lk s'.S id = lk s.S id) :
    operE cx ops s' o = some e := by
  have hop : ∀ t, .tmp t ∈ lookO o.op → lk s'.T t = lk s.T t := by
    intro t ht
    refine hT t ?_
    unfold looksOf
    refine List.mem_append.2 (.inl ?_)
    unfold tmpsOf
    exact List.mem_filterMap.2 ⟨_, ht, rfl⟩
  have hgd : guardOf ops s' o = guardOf ops s o := by
    unfold guardOf
    cases hg : o.guard with
    | none => rfl
    | some jw =>
      obtain ⟨j, want⟩ := jw
      simp only []
      cases hj : ops[j]? with
      | none => rfl
      | some oj =>
        simp only []
        cases ht : oj.dst with
        | none => rfl
        | some t =>
          simp only []
          rw [hT t (by unfold looksOf; refine List.mem_append.2 (.inr ?_); rw [hg]; simp [hj, ht])]
  unfold operE at h ⊢
  rw [hgd]
  split at h
  · exact opE_local h hop hS
  · rename_i gd hg hd
    split at h
    · rename_i v rd ob he
      simp only [Option.some.injEq] at h
      subst h
      rw [opE_local he hop hS]
    · rename_i v id new rd ob he
      split at h
      · rename_i old hold
        split at h
        · rename_i m ps hmerge
          simp only [Option.some.injEq] at h
          subst h
          rw [opE_local he hop fun k hk => hS k (List.mem_cons_of_mem _ hk)]
          simp only []
          rw [hS id (List.mem_cons_self ..), hold]
          simp only []
          rw [hmerge]
        · simp at h
      · simp at h
    · simp at h
  · simp at h

end Go.Av

/- A region whose order is drawn: whatever the order, what the text's order tells. -/
namespace Go.Av

/-- States that answer every look alike. -/
def Same (s s' : AS) : Prop := (∀ t, lk s.T t = lk s'.T t) ∧ ∀ id, lk s.S id = lk s'.S id

theorem Same.rfl' {s : AS} : Same s s := ⟨fun _ => rfl, fun _ => rfl⟩
theorem Same.trans {s s' s'' : AS} (h : Same s s') (h' : Same s' s'') : Same s s'' := ⟨fun t => (h.1 t).trans (h'.1 t), fun t => (h.2 t).trans (h'.2 t)⟩
theorem Same.symm {s s' : AS} (h : Same s s') : Same s' s := ⟨fun t => (h.1 t).symm, fun t => (h.2 t).symm⟩

theorem lk_applyUpd_congr {upd : List (Nat × Option Blk)} : ∀ {S S' : List (Nat × Blk)} {id : Nat}, lk S id = lk S' id → lk (applyUpd S upd) id = lk (applyUpd S' upd) id := by
  induction upd with
  | nil => intro S S' id h; exact h
  | cons p r ih =>
    intro S S' id h
    obtain ⟨k, b⟩ := p
    cases b with
    | none => exact ih (by rw [lk_del, lk_del, h])
    | some b => exact ih (by rw [lk_put, lk_put, h])

theorem lk_applyUpd_in {upd : List (Nat × Option Blk)} : ∀ {S S' : List (Nat × Blk)} {id : Nat}, (∃ p ∈ upd, p.1 = id) → lk (applyUpd S upd) id = lk (applyUpd S' upd) id := by
  induction upd with
  | nil => rintro S S' id ⟨p, hp, _⟩; simp at hp
  | cons q r ih =>
    intro S S' id h
    obtain ⟨k, b⟩ := q
    by_cases hk : id = k
    · cases b with
      | none => exact lk_applyUpd_congr (S := del S k) (S' := del S' k) (by rw [lk_del, lk_del]; simp [hk])
      | some b => exact lk_applyUpd_congr (S := put S k b) (S' := put S' k b) (by rw [lk_put, lk_put]; simp [hk])
    · have hr : ∃ p ∈ r, p.1 = id := by
        obtain ⟨p, hp, he⟩ := h
        rcases List.mem_cons.1 hp with rfl | hp
        · exact absurd he.symm hk
        · exact ⟨p, hp, he⟩
      cases b with
      | none => exact ih hr
      | some b => exact ih hr

theorem Same.app {s s' : AS} (h : Same s s') (dst : Option Tmp) (e : Ef) : Same (s.app dst e) (s'.app dst e) := by
  refine ⟨fun t => ?_, fun id => lk_applyUpd_congr (h.2 id)⟩
  cases dst with
  | none => exact h.1 t
  | some d =>
    show lk (put s.T d e.v) t = lk (put s'.T d e.v) t
    rw [lk_put, lk_put, h.1 t]

/-- Two effects that do not touch. -/
structure Apart (o : Oper) (e : Ef) (o' : Oper) (e' : Ef) : Prop where
  dst : ∀ d, o.dst = some d → o'.dst ≠ some d
  upd : ∀ p ∈ e.upd, ∀ q ∈ e'.upd, p.1 ≠ q.1

theorem app_comm {s : AS} {o o' : Oper} {e e' : Ef} (h : Apart o e o' e') : Same ((s.app o.dst e).app o'.dst e') ((s.app o'.dst e').app o.dst e) := by
  constructor
  · intro t
    cases h1 : o.dst with
    | none => rfl
    | some d =>
      cases h2 : o'.dst with
      | none => rfl
      | some d' =>
        have hne : d ≠ d' := fun he => h.dst d h1 (by rw [h2, he])
        show lk (put (put s.T d e.v) d' e'.v) t = lk (put (put s.T d' e'.v) d e.v) t
        simp only [lk_put]
        by_cases a : t = d' <;> by_cases b : t = d <;> simp [a, b]
        · exact absurd (b.symm.trans a) hne
        · intro hh; exact absurd hh.symm hne
        · intro hh; exact absurd hh hne
  · intro id
    show lk (applyUpd (applyUpd s.S e.upd) e'.upd) id = lk (applyUpd (applyUpd s.S e'.upd) e.upd) id
    by_cases h1 : ∃ p ∈ e.upd, p.1 = id
    · obtain ⟨p, hp, he⟩ := h1
      rw [lk_applyUpd_not (S := applyUpd s.S e.upd) (upd := e'.upd) fun q hq hqe => h.upd p hp q hq (he.trans hqe.symm)]
      exact lk_applyUpd_in ⟨p, hp, he⟩
    · rw [lk_applyUpd_not (upd := e.upd) fun p hp he => h1 ⟨p, hp, he⟩]
      exact lk_applyUpd_congr (lk_applyUpd_not fun p hp he => h1 ⟨p, hp, he⟩)

/-- The effects of those operations that are done, in the text's order. -/
def foldD (D : Nat → Bool) : List (Oper × Ef) → Nat → AS → AS
  | [], _, s => s
  | p :: r, i, s => foldD D r (i + 1) (if D i then s.app p.1.dst p.2 else s)

theorem foldD_congr {D D' : Nat → Bool} : ∀ {L : List (Oper × Ef)} {k : Nat} {s : AS}, (∀ j, k ≤ j → j < k + L.length → D j = D' j) → foldD D L k s = foldD D' L k s
  | [], _, _, _ => rfl
  | p :: r, k, s, h => by
    simp only [foldD]
    rw [h k (Nat.le_refl _) (by simp), foldD_congr fun j h1 h2 => h j (by omega) (by simp only [List.length_cons]; omega)]

theorem foldD_same {D : Nat → Bool} : ∀ {L : List (Oper × Ef)} {k : Nat} {s s' : AS}, Same s s' → Same (foldD D L k s) (foldD D L k s')
  | [], _, _, _, h => h
  | p :: r, k, s, s', h => by
    simp only [foldD]
    refine foldD_same ?_
    split
    · exact h.app _ _
    · exact h

theorem foldD_none {D : Nat → Bool} : ∀ {L : List (Oper × Ef)} {k : Nat} {s : AS}, (∀ j, k ≤ j → D j = false) → foldD D L k s = s
  | [], _, _, _ => rfl
  | p :: r, k, s, h => by
    simp only [foldD, h k (Nat.le_refl _)]
    exact foldD_none fun j hj => h j (by omega)

theorem foldD_shift {D : Nat → Bool} : ∀ {L : List (Oper × Ef)} {k : Nat} {s : AS}, foldD D L (k + 1) s = foldD (fun j => D (j + 1)) L k s
  | [], _, _ => rfl
  | p :: r, k, s => by simp only [foldD]; exact foldD_shift

/-- One effect ahead of all that is done behind it may as well stand last. -/
theorem foldD_late {D : Nat → Bool} {o : Oper} {e : Ef} : ∀ {L : List (Oper × Ef)} {k : Nat} {s : AS}, (∀ j p, L[j]? = some p → D (k + j) = true → Apart o e p.1 p.2) →
    Same (foldD D L k (s.app o.dst e)) ((foldD D L k s).app o.dst e)
  | [], _, _, _ => Same.rfl'
  | p :: r, k, s, h => by
    have ih := fun s => foldD_late (D := D) (o := o) (e := e) (L := r) (k := k + 1) (s := s) fun j q hj hd => h (j + 1) q (by simpa using hj) (by rw [← hd]; congr 1; omega)
    simp only [foldD]
    cases hd : D k with
    | true =>
      have := app_comm (s := s) (h 0 p (by simp) (by simpa using hd))
      exact (foldD_same this).trans (ih _)
    | false => exact ih _

theorem foldD_set {D : Nat → Bool} {o : Oper} {e : Ef} {i : Nat} : ∀ {L : List (Oper × Ef)} {k j : Nat} {s : AS}, i = k + j → L[j]? = some (o, e) → D i = false →
    (∀ j' p, L[j']? = some p → i < k + j' → D (k + j') = true → Apart o e p.1 p.2) → Same (foldD (fun x => D x || Nat.beq x i) L k s) ((foldD D L k s).app o.dst e)
  | [], _, _, _, _, h, _, _ => by simp at h
  | p :: r, k, 0, s, hi, hp, hD, ha => by
    have hp' : p = (o, e) := by simpa using hp
    subst hp'
    have hik : i = k := by omega
    subst hik
    simp only [foldD, hD, natBeq.2 rfl, Bool.false_or, if_true, Bool.false_eq_true, if_false]
    rw [foldD_congr (D' := D) fun j h1 _ => by rw [natBeqF.2 (by omega : j ≠ i)]; simp]
    exact foldD_late fun j q hq hd => ha (j + 1) q (by simpa using hq) (by omega) (by rw [← hd]; congr 1; omega)
  | p :: r, k, j + 1, s, hi, hp, hD, ha => by
    have hk : Nat.beq k i = false := natBeqF.2 (by omega)
    simp only [foldD, hk, Bool.or_false]
    exact foldD_set (j := j) (by omega) (by simpa using hp) hD fun j' q hq hlt hd => ha (j' + 1) q (by simpa using hq) (by omega) (by rw [← hd]; congr 1; omega)

theorem foldD_T {D D' : Nat → Bool} {t : Nat} : ∀ {L : List (Oper × Ef)} {k : Nat} {s s' : AS}, lk s.T t = lk s'.T t → (∀ j p, L[j]? = some p → D (k + j) ≠ D' (k + j) → p.1.dst ≠ some t) →
    lk (foldD D L k s).T t = lk (foldD D' L k s').T t
  | [], _, _, _, h, _ => h
  | p :: r, k, s, s', h, ha => by
    simp only [foldD]
    refine foldD_T ?_ fun j q hq hne => ha (j + 1) q (by simpa using hq) (by rw [show k + (j + 1) = k + 1 + j by omega]; exact hne)
    have hone : ∀ s : AS, p.1.dst ≠ some t → lk (s.app p.1.dst p.2).T t = lk s.T t := by
      intro s hne
      cases hd : p.1.dst with
      | none => rfl
      | some d =>
        show lk (put s.T d p.2.v) t = lk s.T t
        rw [lk_put]
        have : t ≠ d := fun e => hne (by rw [hd, e])
        simp [this]
    have hboth : lk (s.app p.1.dst p.2).T t = lk (s'.app p.1.dst p.2).T t := by
      cases hd : p.1.dst with
      | none => exact h
      | some d =>
        show lk (put s.T d p.2.v) t = lk (put s'.T d p.2.v) t
        rw [lk_put, lk_put, h]
    have hk := ha 0 p (by simp)
    rw [Nat.add_zero] at hk
    cases h1 : D k <;> cases h2 : D' k <;> simp only [if_true, Bool.false_eq_true, if_false]
    · exact h
    · rw [hone s' (hk (by rw [h1, h2]; simp))]; exact h
    · rw [hone s (hk (by rw [h1, h2]; simp))]; exact h
    · exact hboth

theorem foldD_S {D D' : Nat → Bool} {id : Nat} : ∀ {L : List (Oper × Ef)} {k : Nat} {s s' : AS}, lk s.S id = lk s'.S id → (∀ j p, L[j]? = some p → D (k + j) ≠ D' (k + j) → ∀ q ∈ p.2.upd, q.1 ≠ id) →
    lk (foldD D L k s).S id = lk (foldD D' L k s').S id
  | [], _, _, _, h, _ => h
  | p :: r, k, s, s', h, ha => by
    simp only [foldD]
    refine foldD_S ?_ fun j q hq hne => ha (j + 1) q (by simpa using hq) (by rw [show k + (j + 1) = k + 1 + j by omega]; exact hne)
    have hone : ∀ s : AS, (∀ q ∈ p.2.upd, q.1 ≠ id) → lk (s.app p.1.dst p.2).S id = lk s.S id := fun s hne => lk_applyUpd_not hne
    have hboth : lk (s.app p.1.dst p.2).S id = lk (s'.app p.1.dst p.2).S id := lk_applyUpd_congr h
    have hk := ha 0 p (by simp)
    rw [Nat.add_zero] at hk
    cases h1 : D k <;> cases h2 : D' k <;> simp only [if_true, Bool.false_eq_true, if_false]
    · exact h
    · rw [hone s' (hk (by rw [h1, h2]; simp))]; exact h
    · rw [hone s (hk (by rw [h1, h2]; simp))]; exact h
    · exact hboth

theorem foldD_fresh {D : Nat → Bool} {id : Nat} : ∀ {L : List (Oper × Ef)} {k : Nat} {s : AS}, FreshId s id → (∀ j p, L[j]? = some p → D (k + j) = true → id ∉ p.2.names) → FreshId (foldD D L k s) id
  | [], _, _, h, _ => h
  | p :: r, k, s, h, ha => by
    simp only [foldD]
    refine foldD_fresh ?_ fun j q hq hd => ha (j + 1) q (by simpa using hq) (by rw [← hd]; congr 1; omega)
    split
    · rename_i hd; exact h.app (ha 0 p (by simp) (by simpa using hd))
    · exact h

theorem runOps_facts {cx : Cx} {ops : List Oper} {K : AS → List Ef → Prop} : ∀ {r : List Oper} {s : AS} {es : List Ef}, runOps cx ops r s es K →
    ∃ L : List (Oper × Ef), L.map (·.1) = r ∧ (∀ i p, L[i]? = some p → operE cx ops (foldD (fun j => decide (j < i)) L 0 s) p.1 = some p.2 ∧ (∀ q ∈ p.2.ob, q) ∧ offSites cx.nt (r.drop (i + 1)) p.2 = true) ∧
      K (foldD (fun _ => true) L 0 s) ((L.map (·.2)).reverse ++ es)
  | [], s, es, h => ⟨[], rfl, fun i p hp => by simp at hp, h⟩
  | o :: r, s, es, h => by
    simp only [runOps] at h
    split at h
    · rename_i e he
      split at h
      · rename_i hoff
        obtain ⟨hob, h⟩ := obs_all h
        replace h := nameB_at h
        obtain ⟨L, hL, hf, hK⟩ := runOps_facts h
        refine ⟨(o, e) :: L, by simp [hL], fun i p hp => ?_, ?_⟩
        · cases i with
          | zero =>
            have hp' : (o, e) = p := by simpa using hp
            subst hp'
            rw [foldD_none fun j _ => by simp]
            exact ⟨he, hob, by simpa using hoff⟩
          | succ i =>
            have := hf i p (by simpa using hp)
            refine ⟨?_, this.2.1, by simpa using this.2.2⟩
            simp only [foldD]
            rw [foldD_shift]
            simp only [Nat.zero_lt_succ, decide_true, if_true, Nat.add_lt_add_iff_right]
            exact this.1
        · simp only [foldD, if_true]
          rw [foldD_shift]
          simpa using hK
      · exact h.elim
    · exact h.elim

end Go.Av

/- A region whose order is drawn: the theorem. -/
namespace Go.Av
set_option linter.unusedVariables false
set_option linter.unusedSimpArgs false

/-! ### What stands ahead of what -/
theorem closures_len : ∀ (r : List Oper) (acc : List (List Nat)) (j : Nat), j < acc.length → (closures r acc).getD j [] = acc.getD j []
  | [], _, _, _ => rfl
  | o :: r, acc, j, h => by
    simp only [closures]
    rw [closures_len r _ j (by simp; omega)]
    simp [List.getD, List.getElem?_append_left h]

theorem mem_undup {k : Nat} : ∀ {l : List Nat}, k ∈ undup l → k ∈ l
  | [], h => h
  | x :: r, h => by
    simp only [undup] at h
    split at h
    · exact List.mem_cons_of_mem _ (mem_undup h)
    · rcases List.mem_cons.1 h with rfl | h
      · exact List.mem_cons_self ..
      · exact List.mem_cons_of_mem _ (mem_undup h)

theorem closures_step : ∀ {r : List Oper} {acc : List (List Nat)} {i : Nat} {o : Oper}, r[i]? = some o → ∀ k ∈ (closures r acc).getD (acc.length + i) [],
    k ∈ edgesOf o ∨ ∃ j ∈ edgesOf o, k ∈ (closures r acc).getD j []
  | [], _, _, _, h, _, _ => by simp at h
  | o :: r, acc, 0, o', h, k, hk => by
    have ho : o = o' := by simpa using h
    subst ho
    simp only [closures] at hk ⊢
    rw [closures_len r _ _ (by simp)] at hk
    have e1 : (acc ++ [undup (edgesOf o ++ (edgesOf o).flatMap fun i => acc.getD i [])]).getD (acc.length + 0) [] = undup (edgesOf o ++ (edgesOf o).flatMap fun i => acc.getD i []) := by simp [List.getD]
    rw [e1] at hk
    rcases List.mem_append.1 (mem_undup hk) with hk | hk
    · exact .inl hk
    · obtain ⟨j, hj, hkj⟩ := List.mem_flatMap.1 hk
      refine .inr ⟨j, hj, ?_⟩
      have hlt : j < acc.length := by
        rcases Nat.lt_or_ge j acc.length with h | h
        · exact h
        · simp [List.getD, List.getElem?_eq_none h] at hkj
      rw [closures_len r _ _ (by simp; omega)]
      simpa [List.getD, List.getElem?_append_left hlt] using hkj
  | o :: r, acc, i + 1, o', h, k, hk => by
    simp only [closures] at hk ⊢
    refine closures_step (i := i) (by simpa using h) k ?_
    have : (acc ++ [undup (edgesOf o ++ (edgesOf o).flatMap fun i => acc.getD i [])]).length + i = acc.length + (i + 1) := by simp; omega
    rw [this]; exact hk

theorem edgesOf_mem {o : Oper} {e : Edge} (he : e ∈ o.after) (hb : Region.binds .any e = true) : e.on ∈ edgesOf o := by
  unfold edgesOf
  exact List.mem_filterMap.2 ⟨e, by simpa using he, by simp [hb]⟩

theorem edgesOf_from {o : Oper} {j : Nat} (h : j ∈ edgesOf o) : ∃ e ∈ o.after, Region.binds .any e = true ∧ e.on = j := by
  unfold edgesOf at h
  obtain ⟨e, he, hj⟩ := List.mem_filterMap.1 h
  refine ⟨e, by simpa using he, ?_⟩
  cases hb : Region.binds .any e with
  | true => rw [hb] at hj; exact ⟨rfl, by simpa using hj⟩
  | false => rw [hb] at hj; simp at hj

theorem backEdges_at : ∀ {r : List Oper} {k i : Nat} {o : Oper}, backEdges r k = true → r[i]? = some o → ∀ j ∈ edgesOf o, j < k + i
  | [], _, _, _, _, h, _, _ => by simp at h
  | o :: r, k, 0, o', h, ho, j, hj => by
    have ho : o = o' := by simpa using ho
    subst ho
    simp only [backEdges, Bool.and_eq_true] at h
    exact Nat.le_of_ble_eq_true (List.all_eq_true.1 h.1 j hj)
  | o :: r, k, i + 1, o', h, ho, j, hj => by
    simp only [backEdges, Bool.and_eq_true] at h
    have := backEdges_at (i := i) h.2 (by simpa using ho) j hj
    omega

/-! ### Pairs -/
theorem indepRow_at {nt : Nat} {ops : List Oper} {o : Oper} {e : Ef} {cl : List Nat} : ∀ {l : List (Oper × Ef)} {k j : Nat} {p : Oper × Ef}, indepRow nt ops o e cl l k = true → l[j]? = some p →
    k + j ∈ cl ∨ indep2 nt ops o e p.1 p.2 = true
  | [], _, _, _, _, h => by simp at h
  | q :: r, k, 0, p, h, hp => by
    have hp : q = p := by simpa using hp
    subst hp
    simp only [indepRow, Bool.and_eq_true, Bool.or_eq_true] at h
    rcases h.1 with h | h
    · exact .inl (mem_iff.1 h)
    · exact .inr h
  | q :: r, k, j + 1, p, h, hp => by
    simp only [indepRow, Bool.and_eq_true] at h
    have := indepRow_at (j := j) h.2 (by simpa using hp)
    rw [show k + (j + 1) = k + 1 + j by omega]; exact this

theorem indepAll_at {nt : Nat} {ops : List Oper} {cls : List (List Nat)} : ∀ {l past : List (Oper × Ef)} {i j : Nat} {p q : Oper × Ef}, indepAll nt ops cls past l past.length = true →
    (past ++ l)[i]? = some p → (past ++ l)[j]? = some q → past.length ≤ i → j < i → j ∈ cls.getD i [] ∨ indep2 nt ops p.1 p.2 q.1 q.2 = true
  | [], past, i, j, p, q, _, hp, _, hle, _ => by
    rw [List.append_nil, List.getElem?_eq_none hle] at hp; simp at hp
  | x :: l, past, i, j, p, q, h, hp, hq, hle, hlt => by
    simp only [indepAll, Bool.and_eq_true] at h
    rcases Nat.lt_or_ge past.length i with hi | hi
    · refine indepAll_at (past := past ++ [x]) (l := l) (i := i) (j := j) (by simpa using h.2) (by simpa using hp) (by simpa using hq) (by simp; omega) hlt
    · have hi : i = past.length := by omega
      subst hi
      have hx : x = p := by simpa using hp
      subst hx
      have hq' : past[j]? = some q := by rw [List.getElem?_append_left hlt] at hq; exact hq
      have := indepRow_at h.1 hq'
      rwa [Nat.zero_add] at this

theorem apartL_not : ∀ {l m : List Nat}, apartL l m = true → ∀ k ∈ l, k ∉ m
  | [], _, _, _, hk => by simp at hk
  | x :: r, m, h, k, hk => by
    simp only [apartL, Bool.and_eq_true] at h
    rcases List.mem_cons.1 hk with rfl | hk
    · exact mem_false.1 (by simpa using h.1)
    · exact apartL_not h.2 k hk

/-- What two operations that may stand in either order do not do to each other. -/
structure Free (nt : Nat) (ops : List Oper) (a : Oper) (ea : Ef) (b : Oper) (eb : Ef) : Prop where
  dd : ∀ d, a.dst = some d → b.dst ≠ some d
  ab : ∀ d, a.dst = some d → d ∉ looksOf ops b
  ba : ∀ d, b.dst = some d → d ∉ looksOf ops a
  uab : ∀ p ∈ ea.upd, p.1 ∉ eb.touch
  uba : ∀ p ∈ eb.upd, p.1 ∉ ea.touch
  sab : ∀ id ∈ eb.names, id / 64 ≠ dstN nt a + 1
  sba : ∀ id ∈ ea.names, id / 64 ≠ dstN nt b + 1

theorem Free.symm {nt : Nat} {ops : List Oper} {a b : Oper} {ea eb : Ef} (h : Free nt ops a ea b eb) : Free nt ops b eb a ea :=
  ⟨fun d hd he => h.dd d he hd, h.ba, h.ab, h.uba, h.uab, h.sba, h.sab⟩

theorem upd_names {e : Ef} {p : Nat × Option Blk} (h : p ∈ e.upd) : p.1 ∈ e.names := by
  unfold Ef.names
  exact List.mem_append.2 (.inr (List.mem_flatMap.2 ⟨p, h, List.mem_cons_self ..⟩))

theorem upd_touch {e : Ef} {p : Nat × Option Blk} (h : p ∈ e.upd) : p.1 ∈ e.touch := List.mem_append.2 (.inr (List.mem_map.2 ⟨p, h, rfl⟩))

theorem Free.apart {nt : Nat} {ops : List Oper} {a b : Oper} {ea eb : Ef} (h : Free nt ops a ea b eb) : Apart a ea b eb :=
  ⟨h.dd, fun p hp q hq he => h.uab p hp (he ▸ upd_touch hq)⟩

theorem offSite_ne {nt : Nat} {o : Oper} {e : Ef} (h : offSite nt o e = true) : ∀ id ∈ e.names, id / 64 ≠ dstN nt o + 1 := by
  intro id hid he
  have := List.all_eq_true.1 h id hid
  rw [natBeq.2 he] at this
  simp at this

theorem free_of {nt : Nat} {ops : List Oper} {a b : Oper} {ea eb : Ef} (h : indep2 nt ops a ea b eb = true) : Free nt ops a ea b eb := by
  unfold indep2 at h
  simp only [Bool.and_eq_true] at h
  obtain ⟨⟨⟨⟨⟨h1, h2⟩, h3⟩, h4⟩, h5⟩, h6⟩ := h
  have ha : ∀ {o : Oper} {d : Nat}, o.dst = some d → d ∈ dstL o := fun hd => by unfold dstL; rw [hd]; simp
  exact
    { dd := fun d hd he => apartL_not h1 d (ha hd) (List.mem_append.2 (.inl (ha he)))
      ab := fun d hd hm => apartL_not h1 d (ha hd) (List.mem_append.2 (.inr hm))
      ba := fun d hd => apartL_not h2 d (ha hd)
      uab := fun p hp => apartL_not h3 p.1 (List.mem_map.2 ⟨p, hp, rfl⟩)
      uba := fun p hp => apartL_not h4 p.1 (List.mem_map.2 ⟨p, hp, rfl⟩)
      sab := offSite_ne h5
      sba := offSite_ne h6 }

/-! ### How many are not done -/
def undone (D : Nat → Bool) : Nat → Nat
  | 0 => 0
  | n + 1 => undone D n + if D n then 0 else 1

theorem undone_congr {D D' : Nat → Bool} : ∀ {n : Nat}, (∀ j, j < n → D j = D' j) → undone D n = undone D' n
  | 0, _ => rfl
  | n + 1, h => by simp only [undone]; rw [undone_congr fun j hj => h j (by omega), h n (by omega)]

theorem undone_set {D : Nat → Bool} {i : Nat} : ∀ {n : Nat}, i < n → D i = false → undone (fun x => D x || Nat.beq x i) n + 1 = undone D n
  | 0, h, _ => by omega
  | n + 1, h, hD => by
    simp only [undone]
    by_cases hi : i = n
    · subst hi
      rw [undone_congr (D' := D) fun j hj => by rw [natBeqF.2 (by omega : j ≠ i)]; simp]
      simp [hD, natBeq.2 rfl]
    · have := undone_set (D := D) (i := i) (n := n) (by omega) hD
      have hb : (D n || Nat.beq n i) = D n := by rw [natBeqF.2 (fun e => hi e.symm : n ≠ i), Bool.or_false]
      simp only [hb]
      omega

theorem undone_zero {D : Nat → Bool} : ∀ {n : Nat}, undone D n = 0 → ∀ j, j < n → D j = true
  | 0, _, j, h => by omega
  | n + 1, h, j, hj => by
    simp only [undone] at h
    by_cases hn : D n = true
    · rcases Nat.lt_or_ge j n with h' | h'
      · exact undone_zero (n := n) (by omega) j h'
      · rw [show j = n by omega]; exact hn
    · simp [hn] at h

section
variable {P : Program} {cx : Cx} (hT : TabOk P cx.tt) (hD : SoundAll P cx.D)

include hT hD in
theorem region_any {g : G} (hnt : cx.nt = g.nt) {ops : List Oper} {L : List (Oper × Ef)} {s0 : AS} {Q : Exit → Act → World → Prop}
    (hL : L.map (·.1) = ops) (hf : ∀ i p, L[i]? = some p → operE cx ops (foldD (fun j => decide (j < i)) L 0 s0) p.1 = some p.2 ∧ (∀ q ∈ p.2.ob, q) ∧ offSites cx.nt (ops.drop (i + 1)) p.2 = true)
    (hfresh : ∀ id, atSites (dstsOf cx.nt ops) id = true → FreshId s0 id) (hback : backEdges ops 0 = true) (hind : indepAll cx.nt ops (closures ops []) [] L 0 = true)
    (hQ : ∀ a w ι Fr, Rel g (foldD (fun _ => true) L 0 s0) a w ι Fr → Q .normal a w) :
    ∀ (fuel : Nat) (listed : Array Bool) (a : Act) (w : World) (ι : Iota) (Fr : Nat → Nat → Prop), listed.size = ops.length → undone (fun i => listed.getD i false) ops.length ≤ fuel →
      (∀ i, listed.getD i false = true → ∀ j ∈ (closures ops []).getD i [], listed.getD j false = true) →
      Rel g (foldD (fun i => listed.getD i false) L 0 s0) a w ι Fr → wpAny P .any ops.toArray Q fuel listed a w := by
  have hlen : L.length = ops.length := by rw [← hL, List.length_map]
  have hop : ∀ (i : Nat) (p : Oper × Ef), L[i]? = some p → ops[i]? = some p.1 := fun i p hp => by rw [← hL, List.getElem?_map, hp]; rfl
  have hready : ∀ listed : Array Bool, listed.size = ops.length → ∀ i, i ∈ Region.ready .any ops.toArray listed →
      ∃ p : Oper × Ef, L[i]? = some p ∧ listed.getD i false = false ∧ ∀ j ∈ edgesOf p.1, listed.getD j false = true := by
    intro listed hsz i hi
    unfold Region.ready at hi
    simp only [List.size_toArray, List.mem_filter, List.mem_range, Bool.and_eq_true] at hi
    obtain ⟨hlt, hnl, hall⟩ := hi
    have hi' : i < L.length := by omega
    refine ⟨L[i], List.getElem?_eq_getElem hi', ?_, ?_⟩
    · have : i < listed.size := by omega
      simp [Array.getD, this] at hnl ⊢
      exact hnl
    · intro j hj
      obtain ⟨e, he, hb, rfl⟩ := edgesOf_from hj
      have ho : ops.toArray[i]? = some L[i].1 := by rw [List.getElem?_toArray]; exact hop i _ (List.getElem?_eq_getElem hi')
      rw [ho] at hall
      simp only [Option.map_some, Option.getD_some] at hall
      have := (Array.all_eq_true_iff_forall_mem.1 hall) e he
      simpa [hb] using this
  have hempty : ∀ listed : Array Bool, listed.size = ops.length → Region.ready .any ops.toArray listed = [] → ∀ i, i < ops.length → listed.getD i false = true := by
    intro listed hsz hnil i
    induction i using Nat.strongRecOn with
    | _ i ih =>
      intro hi
      have hnot : i ∉ Region.ready .any ops.toArray listed := by rw [hnil]; simp
      have hi' : i < L.length := by omega
      have ho : ops[i]? = some L[i].1 := hop i _ (List.getElem?_eq_getElem hi')
      cases hd : listed.getD i false with
      | true => rfl
      | false =>
        refine absurd ?_ hnot
        unfold Region.ready
        simp only [List.size_toArray, List.mem_filter, List.mem_range, Bool.and_eq_true]
        have hsz' : i < listed.size := by omega
        refine ⟨hi, by simp [Array.getD, hsz'] at hd ⊢; exact hd, ?_⟩
        rw [List.getElem?_toArray, ho]
        simp only [Option.map_some, Option.getD_some]
        refine Array.all_eq_true_iff_forall_mem.2 fun e he => ?_
        cases hb : Region.binds .any e with
        | false => simp
        | true =>
          have hlt := backEdges_at hback ho e.on (edgesOf_mem he hb)
          have := ih e.on (by omega) (by omega)
          simp [this]
  have hall : ∀ listed : Array Bool, (∀ i, i < ops.length → listed.getD i false = true) → ∀ {a w ι Fr}, Rel g (foldD (fun i => listed.getD i false) L 0 s0) a w ι Fr → Q .normal a w := by
    intro listed h a w ι Fr hr
    rw [foldD_congr (D' := fun _ => true) fun j _ hj => h j (by omega)] at hr
    exact hQ _ _ _ _ hr
  intro fuel
  induction fuel with
  | zero =>
    intro listed a w ι Fr hsz hun hcl hr
    have hdone := undone_zero (Nat.le_zero.1 hun)
    refine ⟨?_, hall listed hdone hr⟩
    unfold Region.ready
    rw [List.filter_eq_nil_iff]
    intro i hi hc
    simp only [List.size_toArray, List.mem_range] at hi
    have := hdone i hi
    have hsz' : i < listed.size := by omega
    simp [Array.getD, hsz'] at this hc
    rw [this] at hc
    simp at hc
  | succ fuel ih =>
    intro listed a w ι Fr hsz hun hcl hr
    refine ⟨fun hnil => hall listed (hempty listed hsz hnil) hr, fun i hi => ?_⟩
    obtain ⟨p, hp, hnl, hed⟩ := hready listed hsz i hi
    have ho := hop i p hp
    have hi' : i < ops.length := (List.getElem?_eq_some_iff.1 ho).1
    have hcli : ∀ j ∈ (closures ops []).getD i [], listed.getD j false = true := by
      intro j hj
      rcases closures_step (acc := []) (i := i) ho j (by simpa using hj) with h | ⟨k, hk, hjk⟩
      · exact hed j h
      · exact hcl k (hed k hk) j hjk
    obtain ⟨hope, hob, hoff⟩ := hf i p hp
    -- the operations that stand otherwise than in the text
    have hfree : ∀ j q, L[j]? = some q → j ≠ i → listed.getD j false ≠ decide (j < i) → Free cx.nt ops p.1 p.2 q.1 q.2 := by
      intro j q hq hne hd
      cases hj : listed.getD j false with
      | true =>
        rw [hj] at hd
        have hlt : i < j := by
          rcases Nat.lt_or_ge j i with h | h
          · simp [h] at hd
          · omega
        rcases indepAll_at (past := []) (i := j) (j := i) hind (by simpa using hq) (by simpa using hp) (Nat.zero_le _) hlt with h | h
        · have := hcl j hj i h
          rw [hnl] at this; simp at this
        · exact (free_of h).symm
      | false =>
        rw [hj] at hd
        have hlt : j < i := by
          rcases Nat.lt_or_ge j i with h | h
          · exact h
          · exact absurd (by simp; omega) hd
        rcases indepAll_at (past := []) (i := i) (j := j) hind (by simpa using hp) (by simpa using hq) (Nat.zero_le _) hlt with h | h
        · have := hcli j h
          rw [hj] at this; simp at this
        · exact free_of h
    have hfree' : ∀ j q, L[j]? = some q → listed.getD (0 + j) false ≠ decide (0 + j < i) → Free cx.nt ops p.1 p.2 q.1 q.2 := by
      intro j q hq hd
      rw [Nat.zero_add] at hd
      refine hfree j q hq (fun e => ?_) hd
      subst e
      rw [hnl] at hd
      simp at hd
    have hope' : operE cx ops (foldD (fun j => listed.getD j false) L 0 s0) p.1 = some p.2 := by
      refine operE_local hope (fun t ht => ?_) fun id hid => ?_
      · exact foldD_T rfl fun j q hq hd he => (hfree' j q hq hd).ba t he ht
      · refine foldD_S rfl fun j q hq hd u hu he => (hfree' j q hq hd).uba u hu ?_
        rw [he]
        exact List.mem_append.2 (.inl hid)
    have hfr : ∀ id, id / 64 = dstN cx.nt p.1 + 1 → FreshId (foldD (fun j => listed.getD j false) L 0 s0) id := by
      intro id hid
      refine foldD_fresh (hfresh id ?_) fun j q hq hd hm => ?_
      · unfold atSites
        rw [mem_iff, hid]
        have hdst : ∀ {l : List Oper} {o : Oper}, o ∈ l → dstN cx.nt o + 1 ∈ dstsOf cx.nt l := by
          intro l o hmem
          induction l with
          | nil => simp at hmem
          | cons x r ih =>
            simp only [dstsOf]
            rcases List.mem_cons.1 hmem with rfl | h
            · exact List.mem_cons_self ..
            · exact List.mem_cons_of_mem _ (ih h)
        exact hdst (List.mem_of_getElem? ho)
      · rw [Nat.zero_add] at hd
        have hne : j ≠ i := fun e => by subst e; rw [hnl] at hd; simp at hd
        rcases Nat.lt_or_ge j i with hlt | hge
        · have := (hf j q hq).2.2
          have hm' := List.all_eq_true.1 this id hm
          have hin : atSites (dstsOf cx.nt (ops.drop (j + 1))) id = true := by
            unfold atSites
            rw [mem_iff, hid]
            have hmem : p.1 ∈ ops.drop (j + 1) := by
              refine List.mem_of_getElem? (i := i - (j + 1)) ?_
              rw [List.getElem?_drop, show j + 1 + (i - (j + 1)) = i by omega]; exact ho
            generalize ops.drop (j + 1) = l at hmem
            induction l with
            | nil => simp at hmem
            | cons x r ih =>
              simp only [dstsOf]
              rcases List.mem_cons.1 hmem with rfl | h
              · exact List.mem_cons_self ..
              · exact List.mem_cons_of_mem _ (ih h)
          rw [hin] at hm'
          simp at hm'
        · refine (hfree j q hq hne ?_).sab id hm hid
          rw [hd]
          simp; omega
    have hset : ∀ x, (listed.setIfInBounds i true).getD x false = (listed.getD x false || Nat.beq x i) := by
      intro x
      have hii : i < listed.size := by omega
      rw [getD_set _ _ _ _ _ hii]
      by_cases hx : x = i
      · subst hx; simp [natBeq.2 rfl]
      · simp [hx, natBeqF.2 hx]
    have hsame := foldD_set (D := fun j => listed.getD j false) (o := p.1) (e := p.2) (i := i) (L := L) (k := 0) (j := i) (s := s0) (by omega) (by simpa using hp) hnl fun j q hq hlt hd => by
      rw [Nat.zero_add] at hlt hd
      exact (hfree j q hq (by omega) (by rw [hd]; simp; omega)).apart
    have hnext : ∀ a' w' ι' Fr', Rel g ((foldD (fun j => listed.getD j false) L 0 s0).app p.1.dst p.2) a' w' ι' Fr' → wpAny P .any ops.toArray Q fuel (listed.setIfInBounds i true) a' w' := by
      intro a' w' ι' Fr' hr'
      have hfun : (fun x => (listed.setIfInBounds i true).getD x false) = fun x => listed.getD x false || Nat.beq x i := funext hset
      refine ih (listed.setIfInBounds i true) a' w' ι' Fr' (by simpa using hsz) ?_ ?_ ?_
      · rw [hfun]
        have := undone_set (D := fun j => listed.getD j false) hi' hnl
        omega
      · intro x hx j hj
        rw [hset] at hx ⊢
        rw [Bool.or_eq_true] at hx ⊢
        rcases hx with hx | hx
        · exact .inl (hcl x hx j hj)
        · have := natBeq.1 hx
          subst this
          exact .inl (hcli j hj)
      · rw [hfun]
        exact hr'.congr (fun t => hsame.1 t) fun id => hsame.2 id
    have := oper_sim hT hD hr (ops := ops) hnt hfr hope' hob (next := wpAny P .any ops.toArray Q fuel (listed.setIfInBounds i true)) (Q := Q) hnext
    unfold wpOp
    rw [List.getElem?_toArray, ho]
    simp only []
    split
    · rename_i hw
      rw [hw, if_pos rfl] at this
      exact .inl this
    · rename_i hw
      rw [if_neg hw] at this
      exact this

end
end Go.Av

/- A call that writes into a row and into all that its elements reach: what is known behind it. -/
namespace Go.Av
set_option linter.unusedVariables false
set_option linter.unusedSimpArgs false

/-- A value that reaches nothing. -/
def flatW : Value → Bool
  | .int _ _ => true
  | .bool _ => true
  | .string _ => true
  | _ => false

/-- The memory behind writes of flat cells over flat cells in some blocks. -/
structure VW (A : Nat → Prop) (w w' : World) : Prop where
  os : w'.os = w.os
  tape : w'.tape = w.tape
  output : w'.output = w.output
  size : w.heap.size ≤ w'.heap.size
  frame : ∀ b, b < w.heap.size → ¬ A b → w'.heap[b]? = w.heap[b]?
  cells : ∀ b arr e, A b → w.heap[b]? = some (.cells arr e (0, 0)) → ∃ arr', w'.heap[b]? = some (.cells arr' e (0, 0)) ∧ arr'.size = arr.size ∧
    ∀ j, arr'.getD j Go.undef = arr.getD j Go.undef ∨ (flatW (arr.getD j Go.undef) = true ∧ flatW (arr'.getD j Go.undef) = true)

theorem VW.refl (A : Nat → Prop) (w : World) : VW A w w := ⟨rfl, rfl, rfl, Nat.le_refl _, fun _ _ _ => rfl, fun _ arr _ _ h => ⟨arr, h, rfl, fun _ => .inl rfl⟩⟩

theorem VW.shape {A : Nat → Prop} {w w' : World} (h : VW A w w') (hc : ∀ b, A b → ∃ arr e, w.heap[b]? = some (.cells arr e (0, 0))) : ∀ b e, w.shape? b = some e → w'.shape? b = some e := by
  intro b e hs
  have hlt : b < w.heap.size := by
    rcases Nat.lt_or_ge b w.heap.size with h' | h'
    · exact h'
    · simp [World.shape?, Array.getElem?_eq_none h'] at hs
  by_cases hA : A b
  · obtain ⟨arr, el, hh⟩ := hc b hA
    obtain ⟨arr', hh', hsz, _⟩ := h.cells b arr el hA hh
    unfold World.shape? at hs ⊢
    rw [hh] at hs
    rw [hh']
    simpa [hsz] using hs
  · unfold World.shape? at hs ⊢
    rw [h.frame b hlt hA]
    exact hs

/-- What such a function owes. -/
structure SoundMk (P : Program) (f : Nat) (M : MSpec) : Prop where
  enters : ∀ vals w, (callFunc f vals).run P w = .ok (.enter f vals) w
  does : ∀ n g k ob r, M n g k = some (ob, r) → ob → ∀ (x : Value) (w0 w : World) (A : Nat → Prop), PRep w0 A (.sl n g 1) x → (∀ b, A b → ∃ arr e, w0.heap[b]? = some (.cells arr e (0, 0))) → VW A w0 w →
    Calls P f #[x, .int .i64 k] w fun e w' => e = .returned (.int .i64 r) ∧ VW A w0 w'

/-- No such function. -/
def noM : Nat → Option MSpec := fun _ => none

def SoundAllM (P : Program) (M : Nat → Option MSpec) : Prop := ∀ f S, M f = some S → SoundMk P f S

theorem noM_sound {P : Program} : SoundAllM P noM := fun f S h => by cases h

theorem soundAllM_nil {P : Program} : SoundAllM P (lk ([] : List (Nat × MSpec))) := fun f S h => by simp [lk] at h
theorem soundAllM_cons {P : Program} {f : Nat} {S : MSpec} {l : List (Nat × MSpec)} (h : SoundMk P f S) (hl : SoundAllM P (lk l)) : SoundAllM P (lk ((f, S) :: l)) := fun k T hk => by
  simp only [lk] at hk
  split at hk
  · rename_i e
    have := natBeq.1 e
    subst this
    cases hk
    exact h
  · exact hl k T hk

theorem keepA_rep {w w' : World} {Fr Fr' : Nat → Nat → Prop} {ι : Iota} {v : V} {x : Value} (h : TRep w Fr ι v x) (hk : keepA v = true) (hF : ∀ b, Fr 1 b → Fr' 1 b ∧ w'.heap[b]? = w.heap[b]?) :
    TRep w' Fr' ι v x := by
  cases h with
  | atom hv hp =>
    cases hp with
    | int => exact .atom rfl (.int _ _)
    | bool => exact .atom rfl (.bool _)
    | str => exact .atom rfl (.str _)
    | nil => exact .atom rfl (.nil _)
    | sl0 => exact .atom rfl (.sl0 _ _ _ _)
    | sl cv hA hcap hsz hc hr =>
      have ht := natBeq.1 hk
      subst ht
      exact .atom rfl ((PRep.sl (t := 1) cv hA hcap hsz hc hr).mono fun b hb => hF b hb)
    | ptr cv hA hc hr =>
      have ht := natBeq.1 hk
      subst ht
      exact .atom rfl ((PRep.ptr (t := 1) cv hA hc hr).mono fun b hb => hF b hb)
    | agg => simp [isP] at hv
    | tup => simp [isP] at hv
    | fn => simp [isP] at hv
    | undef => exact .atom rfl (.undef _)
  | _ => simp [keepA] at hk

theorem keepC_rep {w w' : World} {Fr Fr' : Nat → Nat → Prop} {ι : Iota} {id : Nat} {v : V} {x : Value} (h : TRep w Fr ι v x) (hk : keepC id v = true) (hF : ∀ b, Fr 1 b → Fr' 1 b ∧ w'.heap[b]? = w.heap[b]?)
    (hsh : ∀ b e, w.shape? b = some e → w'.shape? b = some e) : TRep w' Fr' ι v x := by
  cases h with
  | osl hi hn hc hs hcs => exact .osl hi hn hc (hsh _ _ hs) hcs
  | osl0 a hi => exact .osl0 a hi
  | oref hi him => exact .oref hi him
  | atom hv hp =>
    have : keepA v = true := by
      cases v <;> first | exact hk | (simp [isP] at hv; done)
    exact keepA_rep (.atom hv hp) this hF
  | _ => simp [keepC, keepA] at hk

theorem keepV_rep {w w' : World} {Fr Fr' : Nat → Nat → Prop} {ι : Iota} {id : Nat} {v : V} {x : Value} (h : TRep w Fr ι v x) (hk : keepV id v = true) (hF : ∀ b, Fr 1 b → Fr' 1 b ∧ w'.heap[b]? = w.heap[b]?)
    (hsh : ∀ b e, w.shape? b = some e → w'.shape? b = some e) : TRep w' Fr' ι v x := by
  by_cases hag : ∃ cs, v = .agg cs
  · obtain ⟨cs, rfl⟩ := hag
    cases h with
    | atom hv _ => simp [isP] at hv
    | agg arr hs hr => exact .agg arr hs fun j hj => keepC_rep (hr j hj) (all_getD (p := keepC id) hk hj) hF hsh
  · have : keepC id v = true := by
      cases v <;> first | exact hk | exact absurd ⟨_, rfl⟩ hag
    exact keepC_rep h this hF hsh

theorem badIds_not {id k : Nat} {blk : Blk} : ∀ {S : List (Nat × Blk)}, lk S k = some blk → k ∉ badIds id S → k ≠ id ∧ keepB id blk = true
  | [], h, _ => by simp [lk] at h
  | (j, b) :: r, h, hn => by
    simp only [lk] at h
    cases hjk : Nat.beq j k with
    | true =>
      rw [hjk] at h
      have e1 := natBeq.1 hjk
      have e2 : b = blk := Option.some.inj h
      subst e1 e2
      cases hb : !(Nat.beq j id) && keepB id b with
      | true =>
        simp only [Bool.and_eq_true, Bool.not_eq_true', natBeqF] at hb
        exact hb
      | false =>
        exfalso
        apply hn
        simp only [badIds, hb]
        exact List.mem_cons_self ..
    | false =>
      rw [hjk] at h
      refine badIds_not h fun hm => hn ?_
      simp only [badIds]
      split
      · exact hm
      · exact List.mem_cons_of_mem _ hm

theorem lk_forgetT {id t : Nat} {v : V} {s : AS} (h : lk (forget id s).T t = some v) : v = .undef ∨ (lk s.T t = some v ∧ keepV id v = true) := by
  have h' : lk (s.T.map fun e => (e.1, keepOr id e.2)) t = some v := h
  rw [lk_map (keepOr id)] at h'
  cases hl : lk s.T t with
  | none => rw [hl] at h'; simp at h'
  | some u =>
    rw [hl] at h'
    simp only [Option.map_some, Option.some.injEq] at h'
    unfold keepOr at h'
    split at h'
    · rename_i hk
      subst h'
      exact .inr ⟨rfl, hk⟩
    · exact .inl h'.symm

theorem lk_forgetS {id k : Nat} {b : Blk} {s : AS} (h : lk (forget id s).S k = some b) : lk s.S k = some b ∧ k ≠ id ∧ keepB id b = true := by
  have h' : lk (applyUpd s.S ((badIds id s.S).map fun k => (k, none))) k = some b := h
  rw [lk_kills] at h'
  split at h'
  · simp at h'
  · rename_i hn
    exact ⟨h', badIds_not h' hn⟩

theorem forget_fresh {id k : Nat} {s : AS} (h : FreshId s k) : FreshId (forget id s) k where
  ge := h.ge
  no := by
    cases hl : lk (forget id s).S k with
    | none => rfl
    | some b => have := (lk_forgetS hl).1; rw [h.no] at this; simp at this
  T := fun t v ht => by
    rcases lk_forgetT ht with rfl | ⟨h1, _⟩
    · rfl
    · exact h.T t v h1
  S := fun j b hj => h.S j b (lk_forgetS hj).1

/-- Behind writes into a row of one's own and what its elements reach. -/
theorem Rel.forget {g : G} {s : AS} {a : Act} {w w' : World} {ι : Iota} {Fr : Nat → Nat → Prop} (h : Rel g s a w ι Fr) {id sz n te : Nat} {f : Nat → V} (hl : lk s.S id = some (.arr sz n f te)) (h64 : 64 ≤ id)
    (hte : 2 ≤ te) {A : Nat → Prop} (hA : ∀ b, A b → (∃ r, ι id = some r ∧ r.1 = b) ∨ Fr te b) (hos : w'.os = w.os) (ht : w'.tape = w.tape) (ho : w'.output = w.output) (hsz : w.heap.size ≤ w'.heap.size)
    (hb : ∀ b, b < w.heap.size → ¬ A b → w'.heap[b]? = w.heap[b]?) (hsh : ∀ b e, w.shape? b = some e → w'.shape? b = some e) :
    ∃ Fr', Rel g (Go.Av.forget id s) a w' ι Fr' := by
  have hnew : ∀ b, A b → g.w0.heap.size ≤ b := by
    intro b hab
    rcases hA b hab with ⟨r, hi, rfl⟩ | hf
    · obtain ⟨b, z, m⟩ := r
      rcases (h.own id _ b z m hl hi).2 with q | ⟨_, q⟩
      · exact q
      · omega
    · exact h.fr2 te b hte hf
  let Fr' : Nat → Nat → Prop := fun t b => (t = 0 ∨ t = 1) ∧ Fr t b ∧ ¬ A b
  have hF : ∀ b, Fr 1 b → Fr' 1 b ∧ w'.heap[b]? = w.heap[b]? := by
    intro b hf
    have hn : ¬ A b := fun hab => by have := hnew b hab; have := h.fr1 b hf; omega
    exact ⟨⟨.inr rfl, hf, hn⟩, hb b (h.fr 1 b hf).1 hn⟩
  refine ⟨Fr', ?_⟩
  exact
    { defers := h.defers
      size := h.size
      tmp := fun t v hv => by
        rcases lk_forgetT hv with rfl | ⟨h1, h2⟩
        · exact .atom rfl (.undef _)
        · exact keepV_rep (h.tmp t v h1) h2 hF hsh
      own := fun k blk b z m hk hi => by
        obtain ⟨h1, h2, h3⟩ := lk_forgetS hk
        obtain ⟨h4, h5⟩ := h.own k blk b z m h1 hi
        refine ⟨?_, h5⟩
        have hn : ¬ A b := by
          intro hab
          rcases hA b hab with ⟨r, hi', e⟩ | hf
          · exact h2 (h.inj k id blk _ _ r h1 hl hi hi' e.symm)
          · exact (h.fr te b hf).2.2 k blk _ h1 hi rfl
        have hbb := hb b h4.lt hn
        cases blk with
        | mp => exact h4.mapTo hbb
        | arr sz' n' f' te' =>
          obtain ⟨e1, e2, cells, e, hh, hs, hlen, hr⟩ := h4
          refine ⟨e1, e2, cells, e, hbb.trans hh, hs, hlen, fun i j hi hj => ?_⟩
          simp only [keepB, Bool.or_eq_true, natBeq] at h3
          rcases h3 with rfl | rfl
          · exact (hr i j hi hj).mono fun b hb => absurd hb (h.frS b)
          · exact (hr i j hi hj).mono fun b hb => hF b hb
        | box cs =>
          obtain ⟨cells, e, hh, hs, hr⟩ := h4
          exact ⟨cells, e, hbb.trans hh, hs, fun j hj => keepC_rep (hr j hj) (all_getD (p := keepC id) h3 hj) hF hsh⟩
      nob := fun k blk hk => h.nob k blk (lk_forgetS hk).1
      inj := fun k k' c c' r r' h1 h2 => h.inj k k' c c' r r' (lk_forgetS h1).1 (lk_forgetS h2).1
      fr := fun t b hf => ⟨Nat.lt_of_lt_of_le (h.fr t b hf.2.1).1 hsz, (h.fr t b hf.2.1).2.1, fun k c r hk => (h.fr t b hf.2.1).2.2 k c r (lk_forgetS hk).1⟩
      frS := fun b hf => by rcases hf.1 with e | e <;> exact absurd e (by decide)
      fr0 := fun t b hf => ⟨.inl rfl, h.fr0 t b hf.2.1, hf.2.2⟩
      fr2 := fun t b h2 hf => by rcases hf.1 with e | e <;> omega
      fr1 := fun b hf => h.fr1 b hf.2.1
      cl := fun t b h2 hf => by rcases hf.1 with e | e <;> omega
      low := h.low
      x0 := h.x0
      io0 := h.io0
      os := hos.trans h.os
      tape := ht.trans h.tape
      output := ho.trans h.output
      hsize := Nat.le_trans h.hsize hsz
      frame := fun b hlt hio => (hb b (Nat.lt_of_lt_of_le hlt h.hsize) fun hab => by have := hnew b hab; omega).trans (h.frame b hlt hio)
      shape := fun b e he => hsh b e (h.shape b e he) }

theorem mark_sim {P : Program} {cx : Cx} (hM : SoundAllM P cx.M) {g : G} (hnt : cx.nt = g.nt) {s s' : AS} {a : Act} {w : World} {ι : Iota} {Fr : Nat → Nat → Prop} (h : Rel g s a w ι Fr) {o : Oper} {ob : Prop}
    (he : markOf cx s o = some (ob, s')) (ho : ob) : o.guard = none ∧ Does P g s' a w o := by
  unfold markOf at he
  split at he
  case h_2 => simp at he
  case h_1 d c hg hdst hop =>
    refine ⟨hg, ?_⟩
    split at he
    case h_2 => simp at he
    case h_1 f x k hcal hargs =>
      split at he
      case h_2 => simp at he
      case h_1 id n m M hx hk hMf =>
        split at he
        case h_2 => simp at he
        case h_1 sz n' f' te hl hc =>
          split at he
          case h_2 => simp at he
          case h_1 ob' r ht hMe =>
            simp only [Option.some.injEq, Prod.mk.injEq] at he
            obtain ⟨rfl, rfl⟩ := he
            simp only [Bool.and_eq_true] at hc
            have h64 : 64 ≤ id := Nat.le_of_ble_eq_true hc.1
            have hd : d < g.nt := by rw [← hnt]; exact Nat.le_of_ble_eq_true hc.2
            have hte : 2 ≤ te := Nat.le_of_ble_eq_true ht
            have hS := hM f M hMf
            have hxr := aval_rep h x
            have hkr := aval_rep h k
            rw [hx] at hxr
            rw [hk] at hkr
            have hkv := inv_int hkr
            let A : Nat → Prop := fun b => (∃ r, ι id = some r ∧ r.1 = b) ∨ Fr te b
            have hp : PRep w A (.sl n f' 1) (a.eval x) := by
              generalize a.eval x = vx at hxr
              cases hxr with
              | atom hv _ => simp [isP] at hv
              | @osl _ _ b sz2 m2 cap c' e hi hn2 hcap hsh hcs =>
                obtain ⟨rfl, rfl, cells, e', hh, hsz, hlen, hr⟩ := (h.own id _ b sz2 m2 hl hi).1
                refine .sl (sz := sz) (off := 0) (fun i j => cells.getD (i * sz + j) Go.undef) (.inl ⟨_, hi, rfl⟩) hcap (fun i hin => hlen i (by omega)) (fun i j hin hj => ?_)
                  (fun i j hin hj => (hr i j (by omega) hj).weaken fun b hb => .inr hb)
                have e1 : i * sz + sz = (i + 1) * sz := by rw [Nat.add_mul, Nat.one_mul]
                have e2 : (i + 1) * sz ≤ n' * sz := Nat.mul_le_mul_right _ (by omega)
                rw [Nat.zero_add]; exact cell_of hh (by omega)
              | osl0 ad hi => exact .sl0 _ _ _ _
            have hAc : ∀ b, A b → ∃ arr e, w.heap[b]? = some (.cells arr e (0, 0)) := by
              intro b hab
              rcases hab with ⟨r, hi, rfl⟩ | hf
              · exact (h.own id _ r.1 r.2.1 r.2.2 hl hi).1.cl rfl
              · exact h.cl te b hte hf
            have hcall := hS.does n f' m ob' r hMe ho (a.eval x) w w A hp hAc (VW.refl A w)
            intro next Q hn
            unfold Oper.wp
            have hav : c.args.map a.eval = #[a.eval x, .int .i64 m] := by
              have : c.args = #[x, k] := by
                apply Array.ext'
                rw [hargs]
              rw [this]
              simp [hkv]
            rw [call_exec (capsv := #[]) hop hcal rfl hS.enters]
            simp only [Oper.upon, Array.append_empty, hav]
            refine hcall.mono ?_
            rintro e' w' ⟨rfl, hv⟩
            obtain ⟨Fr', hR⟩ := h.forget hl h64 hte (fun b hb => hb) hv.os hv.tape hv.output hv.size hv.frame (hv.shape hAc)
            refine hn _ _ ι Fr' ?_
            rw [hdst]
            exact hR.put hd (.atom rfl (.int _ _))

theorem markOf_fresh {cx : Cx} {s s' : AS} {o : Oper} {ob : Prop} (he : markOf cx s o = some (ob, s')) {k : Nat} (hf : FreshId s k) : FreshId s' k := by
  unfold markOf at he
  split at he
  case h_2 => simp at he
  case h_1 d c hg hdst hop =>
    split at he
    case h_2 => simp at he
    case h_1 f x k' hcal hargs =>
      split at he
      case h_2 => simp at he
      case h_1 id n m M hx hk hMf =>
        split at he
        case h_2 => simp at he
        case h_1 sz n' f' te hl hc =>
          split at he
          case h_2 => simp at he
          case h_1 ob' r ht hMe =>
            simp only [Option.some.injEq, Prod.mk.injEq] at he
            obtain ⟨rfl, rfl⟩ := he
            have h1 := forget_fresh (id := id) hf
            refine ⟨h1.ge, h1.no, fun t v hv => ?_, h1.S⟩
            have hv' : lk (put (Go.Av.forget id s).T d (.int .i64 r)) t = some v := hv
            rw [lk_put] at hv'
            split at hv'
            · have := Option.some.inj hv'
              subst this
              rfl
            · exact h1.T t v hv'

theorem run_eq_nil {P : Program} {t : Nat} {e : TypeId} {a : Option Addr} {l c : Nat} {w : World} (hu : (underlying t).run P w = .ok (.slice e) w) (D : Nat) :
    (Op.equalIn (D + 1) t (.slice a l c) (.slice none 0 0)).run P w = .ok a.isNone w := by
  unfold Op.equalIn
  simp only [Sem.run_bind, hu, Result.andThen_ok]
  cases a <;> simp

theorem nil_sim {P : Program} {cx : Cx} (hT : TabOk P cx.tt) {g : G} (hnt : cx.nt = g.nt) {s : AS} {a : Act} {w : World} {ι : Iota} {Fr : Nat → Nat → Prop} (h : Rel g s a w ι Fr) {o : Oper} {d n : Nat}
    (he : nilT cx s o = some (d, n)) : o.guard = none ∧ ∃ b : Bool, (b = true → n = 0) ∧ Does P g { s with T := put s.T d (.bool b) } a w o := by
  unfold nilT at he
  split at he
  case h_2 => simp at he
  case h_1 d' t x yt hg hdst hop =>
    refine ⟨hg, ?_⟩
    have key : ∀ (a' : Option Addr) (l c : Nat), a.eval x = .slice a' l c → d' < g.nt → isSlT cx.tt t = true → Does P g { s with T := put s.T d' (.bool a'.isNone) } a w o := by
      intro a' l c hv hd ht
      obtain ⟨e, ti, _, hu, _⟩ := run_slT hT ht w
      have hz : (do eqGuard .eql t x (.const (.slice none 0 0)) (.slice a' l c) (.slice none 0 0); binOp .eql t (.slice a' l c) (.slice none 0 0) : Sem Value).run P w = .ok (.bool a'.isNone) w := by
        have h1 := eqGuard_run (P := P) (op := .eql) (t := t) (x := x) (y := .const (.slice none 0 0)) (a := .slice a' l c) (b := .slice none 0 0) (w := w) (fun _ _ h => by cases h) (by simp)
        simp only [Sem.run_bind, h1, Result.andThen_ok, binOp, Op.equal]
        have h2 := run_eq_nil (P := P) (a := a') (l := l) (c := c) hu 9999
        have e1 : Op.maxDepth = 9999 + 1 := rfl
        rw [e1, h2]
        rfl
      have := does_pure (P := P) h (o := o) (e := ⟨.bool a'.isNone, [], [], []⟩) (by unfold dstOk; rw [hdst]; exact Nat.ble_eq_true_of_le hd) rfl ⟨.bool a'.isNone, by
        unfold execOp; rw [hop]
        refine run_v ?_
        show (do eqGuard .eql t x (.const (.slice none 0 0)) (a.eval x) (.slice none 0 0); binOp .eql t (a.eval x) (.slice none 0 0) : Sem Value).run P w = _
        rw [hv]
        exact hz, .atom rfl (.bool _)⟩
      rw [hdst] at this
      exact this
    have hxr := aval_rep h x
    split at he
    · rename_i g' t' hc hv
      simp only [Option.some.injEq, Prod.mk.injEq] at he
      obtain ⟨rfl, rfl⟩ := he
      rw [Bool.and_eq_true] at hc
      have hd : d' < g.nt := by rw [← hnt]; exact Nat.le_of_ble_eq_true hc.1
      rw [hv] at hxr
      generalize hev : a.eval x = vx at hxr
      cases hxr with
      | atom _ hp =>
        cases hp with
        | sl0 a0 cap => exact ⟨_, fun _ => rfl, key _ _ _ hev hd hc.2⟩
        | sl => exact ⟨_, fun h => by simp at h, key _ _ _ hev hd hc.2⟩
    · rename_i id hc hv
      simp only [Option.some.injEq, Prod.mk.injEq] at he
      obtain ⟨rfl, rfl⟩ := he
      rw [Bool.and_eq_true] at hc
      have hd : d' < g.nt := by rw [← hnt]; exact Nat.le_of_ble_eq_true hc.1
      rw [hv] at hxr
      generalize hev : a.eval x = vx at hxr
      cases hxr with
      | atom hv _ => simp [isP] at hv
      | osl => exact ⟨_, fun h => by simp at h, key _ _ _ hev hd hc.2⟩
      | osl0 a0 => exact ⟨_, fun _ => rfl, key _ _ _ hev hd hc.2⟩
    · rename_i hc hv
      simp only [Option.some.injEq, Prod.mk.injEq] at he
      obtain ⟨rfl, rfl⟩ := he
      rw [Bool.and_eq_true] at hc
      have hd : d' < g.nt := by rw [← hnt]; exact Nat.le_of_ble_eq_true hc.1
      rw [hv] at hxr
      generalize hev : a.eval x = vx at hxr
      cases hxr with
      | atom _ hp =>
        cases hp with
        | nil a0 => exact ⟨_, fun _ => rfl, key _ _ _ hev hd hc.2⟩
    · simp at he

theorem put_bool_fresh {s : AS} {d : Nat} {b : Bool} {k : Nat} (hf : FreshId s k) : FreshId { s with T := put s.T d (.bool b) } k := by
  refine ⟨hf.ge, hf.no, fun t v hv => ?_, hf.S⟩
  have hv' : lk (put s.T d (.bool b)) t = some v := hv
  rw [lk_put] at hv'
  split at hv'
  · have := Option.some.inj hv'
    subst this
    rfl
  · exact hf.T t v hv'

section
variable {P : Program} {cx : Cx} (hT : TabOk P cx.tt) (hD : SoundAll P cx.D) (hM : SoundAllM P cx.M)

include hT hD hM in
theorem regionM_text {g : G} (hnt : cx.nt = g.nt) {ops : List Oper} {K : AS → Prop} {Q : Exit → Act → World → Prop} (hK : ∀ s' a w ι Fr, K s' → Rel g s' a w ι Fr → Q .normal a w) :
    ∀ (r pre : List Oper), ops = pre ++ r → ∀ (s : AS) (a : Act) (w : World) (ι : Iota) (Fr : Nat → Nat → Prop), Rel g s a w ι Fr → (∀ id, atSites (dstsOf cx.nt r) id = true → FreshId s id) →
      runM cx ops r s K → wpOps P ops.toArray Q (List.range' pre.length r.length) a w
  | [], pre, _, s, a, w, ι, Fr, h, _, hr => hK _ _ _ _ _ hr h
  | o :: r, pre, hops, s, a, w, ι, Fr, h, hf, hr => by
    have ho : ops.toArray[pre.length]? = some o := by subst hops; simp
    have hsub : ∀ id, atSites (dstsOf cx.nt r) id = true → FreshId s id := fun id hid => hf id (by
      unfold atSites dstsOf mem
      have : mem (id / 64) (dstsOf cx.nt r) = true := hid
      simp [this])
    rw [List.length_cons, wpOps_range, ho]
    simp only [runM] at hr
    split at hr
    · rename_i ob s1 hm
      obtain ⟨hob, hr⟩ := hr
      obtain ⟨hg, hdoes⟩ := mark_sim (P := P) hM hnt h hm hob
      have hw : Region.wanted o (yielded ops.toArray a.tmps) = true := by
        unfold Region.wanted
        rw [hg]
      simp only [hw, if_true]
      left
      refine hdoes _ _ fun a' w' ι' Fr' h' => ?_
      have := regionM_text hnt hK r (pre ++ [o]) (by simp [hops]) s1 a' w' ι' Fr' h' (fun id hid => markOf_fresh hm (hsub id hid)) hr
      simpa using this
    · split at hr
      · rename_i d n hm
        obtain ⟨hg, b, hb, hdoes⟩ := nil_sim (P := P) hT hnt h hm
        have hw : Region.wanted o (yielded ops.toArray a.tmps) = true := by
          unfold Region.wanted
          rw [hg]
        simp only [hw, if_true]
        left
        refine hdoes _ _ fun a' w' ι' Fr' h' => ?_
        have := regionM_text hnt hK r (pre ++ [o]) (by simp [hops]) _ a' w' ι' Fr' h' (fun id hid => put_bool_fresh (hsub id hid)) (hr b hb)
        simpa using this
      split at hr
      · rename_i e he
        split at hr
        · rename_i hoff
          obtain ⟨hob, hr⟩ := obs_all hr
          replace hr := nameB_at hr
          have hnames : ∀ id, atSites (dstsOf cx.nt r) id = true → id ∉ e.names := by
            intro id hid hm
            have := (List.all_eq_true.1 hoff) id hm
            rw [hid] at this; simp at this
          have hfr : ∀ id, id / 64 = dstN cx.nt o + 1 → FreshId s id := fun id hid => hf id (by unfold atSites dstsOf mem; simp [hid])
          have hnext : ∀ a' w' ι' Fr', Rel g (s.app o.dst e) a' w' ι' Fr' → wpOps P ops.toArray Q (List.range' (pre.length + 1) r.length) a' w' := by
            intro a' w' ι' Fr' h'
            have := regionM_text hnt hK r (pre ++ [o]) (by simp [hops]) (s.app o.dst e) a' w' ι' Fr' h' (fun id hid => (hsub id hid).app (hnames id hid)) hr
            simpa using this
          have := oper_sim hT hD h (ops := ops) hnt hfr he hob (next := wpOps P ops.toArray Q (List.range' (pre.length + 1) r.length)) (Q := Q) hnext
          simp only []
          split
          · rename_i hw
            rw [hw, if_pos rfl] at this
            exact .inl this
          · rename_i hw
            rw [if_neg hw] at this
            exact this
        · exact hr.elim
      · exact hr.elim

end
end Go.Av

/- States that tell less; loop heads. -/
namespace Go.Av

/-- Wherever the first state tells the truth, the second does. -/
structure SLe (s s' : AS) : Prop where
  le : ∀ (g : G) (a : Act) (w : World) (ι : Iota) (Fr : Nat → Nat → Prop), Rel g s a w ι Fr → ∃ ι' Fr', Rel g s' a w ι' Fr'

theorem SLe.refl (s : AS) : SLe s s := ⟨fun _ _ _ ι Fr h => ⟨ι, Fr, h⟩⟩
theorem SLe.trans {s s' s'' : AS} (h : SLe s s') (h' : SLe s' s'') : SLe s s'' := ⟨fun g a w ι Fr hr => by
  obtain ⟨ι', Fr', hr'⟩ := h.le g a w ι Fr hr
  exact h'.le g a w ι' Fr' hr'⟩

theorem sle_purge (p : Nat → Bool) (s : AS) : SLe s (purge p s) := ⟨fun _ _ _ ι Fr h => ⟨ι, Fr, h.purge p⟩⟩

theorem TRep.ren {w : World} {Fr : Nat → Nat → Prop} {ι ι' : Iota} {f : Nat → Nat} {v : V} {x : Value} (h : TRep w Fr ι v x) (hι : ∀ id ∈ v.ids, ι' (f id) = ι id) : TRep w Fr ι' (v.ren f) x := by
  induction h with
  | atom hv hp =>
    rename_i v x
    cases v with
    | osl => simp [isP] at hv
    | oref => simp [isP] at hv
    | omap => simp [isP] at hv
    | agg => simp [isP] at hv
    | tup => simp [isP] at hv
    | fn => simp [isP] at hv
    | cnd => simp [isP] at hv
    | _ => exact .atom hv hp
  | osl hi hn hc hs hcs => exact .osl (by rw [hι _ (by simp [V.ids])]; exact hi) hn hc hs hcs
  | osl0 a hi => exact .osl0 a (by rw [hι _ (by simp [V.ids])]; exact hi)
  | oref hi him => exact .oref (by rw [hι _ (by simp [V.ids])]; exact hi) him
  | omap hi => exact .omap (by rw [hι _ (by simp [V.ids])]; exact hi)
  | agg arr hs _ ih =>
    refine .agg arr (by rw [renL_length]; exact hs) fun j hj => ?_
    rw [renL_length] at hj
    rw [renL_getD _ _ _ hj]
    exact ih j hj fun id hid => hι id (idsL_getD hj id hid)
  | tup arr hs _ ih =>
    refine .tup arr (by rw [renL_length]; exact hs) fun j hj => ?_
    rw [renL_length] at hj
    rw [renL_getD _ _ _ hj]
    exact ih j hj fun id hid => hι id (idsL_getD hj id hid)
  | fn arr hs _ ih =>
    refine .fn arr (by rw [renL_length]; exact hs) fun j hj => ?_
    rw [renL_length] at hj
    rw [renL_getD _ _ _ hj]
    exact ih j hj fun id hid => hι id (idsL_getD hj id hid)
  | cnd _ hf ih => exact .cnd (fun hc => ih hc hι) hf

theorem OwnB.ren {w : World} {Fr : Nat → Nat → Prop} {ι ι' : Iota} {f : Nat → Nat} {b sz m : Nat} {blk : Blk} (h : OwnB w Fr ι b sz m blk) (hι : ∀ id ∈ blk.ids, ι' (f id) = ι id) :
    OwnB w Fr ι' b sz m (blk.ren f) := by
  cases blk with
  | mp => exact h
  | arr => exact h
  | box cs =>
    obtain ⟨cells, e, hh, hsz, hr⟩ := h
    refine ⟨cells, e, hh, by rw [renL_length]; exact hsz, fun j hj => ?_⟩
    rw [renL_length] at hj
    rw [renL_getD _ _ _ hj]
    exact (hr j hj).ren fun id hid => hι id (idsL_getD hj id hid)

/-- The one name for the other. -/
def swapTo (a b x : Nat) : Nat := match Nat.beq x a with
  | true => b
  | false => x

theorem lk_mapKey {α β : Type} {a b : Nat} (f : α → β) (hab : a ≠ b) : ∀ (l : List (Nat × α)) (k : Nat), lk l b = none →
    lk (l.map fun e => (swapTo a b e.1, f e.2)) k = if k = b then (lk l a).map f else if k = a then none else (lk l k).map f
  | [], k, _ => by simp [lk]
  | (j, x) :: r, k, h => by
    simp only [lk] at h
    cases hjb : Nat.beq j b with
    | true => rw [hjb] at h; simp at h
    | false =>
      rw [hjb] at h
      have ih := lk_mapKey f hab r k h
      have hjb' := natBeqF.1 hjb
      simp only [List.map, lk]
      cases hja : Nat.beq j a with
      | true =>
        have hj := natBeq.1 hja
        subst hj
        have e1 : swapTo j b j = b := by unfold swapTo; rw [hja]
        rw [e1]
        cases hkb : Nat.beq b k with
        | true =>
          have := natBeq.1 hkb
          subst this
          simp
        | false =>
          have hk : k ≠ b := fun e => natBeqF.1 hkb e.symm
          simp only [ih, hk, if_false]
          by_cases hkj : k = j
          · simp [hkj]
          · simp only [hkj, if_false]
            rw [natBeqF.2 (fun e => hkj e.symm)]
      | false =>
        have hja' := natBeqF.1 hja
        have e1 : swapTo a b j = j := by unfold swapTo; rw [hja]
        rw [e1]
        cases hjk : Nat.beq j k with
        | true =>
          have := natBeq.1 hjk
          subst this
          simp [hjb', hja']
        | false => simp only [ih]

theorem Rel.renId {g : G} {s : AS} {act : Act} {w : World} {ι : Iota} {Fr : Nat → Nat → Prop} (h : Rel g s act w ι Fr) {a b : Nat} (hab : a ≠ b) (ha : 64 ≤ a) (hf : FreshId s b) :
    Rel g (Go.Av.renId a b s) act w (fun k => if k = b then ι a else ι k) Fr := by
  have hren : Go.Av.renId a b s = ⟨s.T.map fun e => (e.1, e.2.ren (swapTo a b)), s.S.map fun e => (swapTo a b e.1, e.2.ren (swapTo a b))⟩ := rfl
  have hsw : ∀ id, id ≠ b → (fun k => if k = b then ι a else ι k) (swapTo a b id) = ι id := by
    intro id hid
    unfold swapTo
    cases hb : Nat.beq id a with
    | true => have := natBeq.1 hb; subst this; simp
    | false => simp [hid]
  have hnot : ∀ {v : V}, V.ment (fun k => Nat.beq k b) v = false → ∀ id ∈ v.ids, id ≠ b := fun {v} hm id hid e => by
    subst e
    rw [ids_ment v id hid (fun k => Nat.beq k id) (natBeq.2 rfl)] at hm; simp at hm
  have hnotB : ∀ {blk : Blk}, blk.ment (fun k => Nat.beq k b) = false → ∀ id ∈ blk.ids, id ≠ b := by
    intro blk hm id hid
    cases blk with
    | mp => simp [Blk.ids] at hid
    | arr => simp [Blk.ids] at hid
    | box cs => exact hnot (v := .agg cs) hm id hid
  -- a block under its new name
  have hS : ∀ k blk, lk (Go.Av.renId a b s).S k = some blk → ∃ k0 blk0, lk s.S k0 = some blk0 ∧ blk = blk0.ren (swapTo a b) ∧ k0 ≠ b ∧ (if k = b then ι a else ι k) = ι k0 ∧ ((k = b ∧ k0 = a) ∨ (k = k0 ∧ k ≠ b ∧ k ≠ a)) := by
    intro k blk hl
    rw [hren] at hl
    simp only [] at hl
    rw [lk_mapKey (Blk.ren (swapTo a b)) hab _ _ hf.no] at hl
    split at hl
    · rename_i hk
      cases hla : lk s.S a with
      | none => rw [hla] at hl; simp at hl
      | some b0 => rw [hla] at hl; simp at hl; exact ⟨a, b0, hla, hl.symm, hab, by simp [hk], .inl ⟨hk, rfl⟩⟩
    · rename_i hk
      split at hl
      · simp at hl
      · rename_i hka
        cases hla : lk s.S k with
        | none => rw [hla] at hl; simp at hl
        | some b0 => rw [hla] at hl; simp at hl; exact ⟨k, b0, hla, hl.symm, hk, by simp [hk], .inr ⟨rfl, hk, hka⟩⟩
  refine
    { h with
      low := fun k hk => by
        have hkb : k ≠ b := by have := hf.ge; omega
        simp only [hkb, if_false]
        exact h.low k hk
      tmp := ?_, own := ?_, nob := ?_, inj := ?_, fr := ?_ }
  · intro t v ht
    rw [hren] at ht
    simp only [] at ht
    rw [lk_map (V.ren (swapTo a b))] at ht
    cases hl : lk s.T t with
    | none => rw [hl] at ht; simp at ht
    | some u =>
      rw [hl] at ht
      simp at ht
      subst ht
      exact (h.tmp t u hl).ren fun id hid => hsw id (hnot (hf.T t u hl) id hid)
  · intro k blk b' sz m hl hi
    obtain ⟨k0, blk0, hl0, rfl, hk0, hik, hor⟩ := hS k blk hl
    rw [hik] at hi
    obtain ⟨h1, h2⟩ := h.own k0 blk0 b' sz m hl0 hi
    refine ⟨h1.ren fun id hid => hsw id (hnotB (hf.S k0 blk0 hl0) id hid), ?_⟩
    rcases hor with ⟨_, rfl⟩ | ⟨rfl, _, _⟩
    · rcases h2 with h2 | h2
      · exact .inl h2
      · omega
    · exact h2
  · intro k blk hl hi
    obtain ⟨k0, blk0, hl0, rfl, hk0, hik, _⟩ := hS k blk hl
    rw [hik] at hi
    obtain ⟨sz, hh, te, rfl⟩ := h.nob k0 blk0 hl0 hi
    exact ⟨sz, hh, te, rfl⟩
  · intro k k' c c' r r' h1 h2 h3 h4 h5
    obtain ⟨k0, b0, hl0, _, hk0, hik, hor⟩ := hS k c h1
    obtain ⟨k1, b1, hl1, _, hk1, hik1, hor1⟩ := hS k' c' h2
    rw [hik] at h3
    rw [hik1] at h4
    have := h.inj k0 k1 b0 b1 r r' hl0 hl1 h3 h4 h5
    subst this
    rcases hor with ⟨rfl, e1⟩ | ⟨rfl, e1, e2⟩ <;> rcases hor1 with ⟨rfl, e3⟩ | ⟨rfl, e3, e4⟩
    · rfl
    · exact absurd e1 e4
    · exact absurd e3 e2
    · rfl
  · intro t k hfk
    refine ⟨(h.fr t k hfk).1, (h.fr t k hfk).2.1, ?_⟩
    intro k' c r hl hi
    obtain ⟨k0, b0, hl0, _, _, hik, _⟩ := hS k' c hl
    rw [hik] at hi
    exact (h.fr t k hfk).2.2 k0 b0 r hl0 hi

theorem sle_moveId (a b : Nat) (s : AS) (hb : 64 ≤ b) : SLe s (moveId a b s) := by
  constructor
  intro g act w ι Fr h
  unfold moveId
  cases hab : Nat.beq a b with
  | true => exact ⟨ι, Fr, h⟩
  | false =>
    cases ha : Nat.blt a 64 with
    | true => exact ⟨ι, Fr, h⟩
    | false =>
      have ha' : 64 ≤ a := by
        rcases Nat.lt_or_ge a 64 with hlt | hge
        · have : Nat.blt a 64 = true := Nat.ble_eq_true_of_le hlt
          rw [this] at ha; simp at ha
        · exact hge
      exact ⟨_, Fr, (h.purge _).renId (natBeqF.1 hab) ha' (purge_fresh (natBeq.2 rfl) hb)⟩

/-- A slot told anew. -/
theorem Rel.tell {g : G} {s : AS} {a : Act} {w : World} {ι : Iota} {Fr : Nat → Nat → Prop} (h : Rel g s a w ι Fr) {t : Nat} {v : V} (hv : TRep w Fr ι v (a.tmps.getD t Go.undef)) :
    Rel g { s with T := Go.Av.put s.T t v } a w ι Fr :=
  { h with
    tmp := fun k u hk => by
      simp only [lk_put] at hk
      split at hk
      · rename_i e
        have : v = u := Option.some.inj hk
        rw [e, ← this]; exact hv
      · exact h.tmp k u hk }

theorem nil_inv {w : World} {Fr : Nat → Nat → Prop} {ι : Iota} {x : Value} (h : TRep w Fr ι .nil x) : ∃ a, x = .slice a 0 0 := by
  cases h with
  | atom _ hp => cases hp; exact ⟨_, rfl⟩

theorem canonT_ge (t : Nat) : 64 ≤ canonT t := by unfold canonT; omega
theorem canonB_ge (id i : Nat) : 64 ≤ canonB id i := by unfold canonB; omega

theorem sle_ownT (t sz : Nat) (s : AS) : SLe s (ownT t sz s) := by
  constructor
  intro g a w ι Fr h
  unfold ownT
  split
  · exact (sle_moveId _ _ s (canonT_ge t)).le g a w ι Fr h
  · rename_i hl
    obtain ⟨ad, hx⟩ := nil_inv (h.tmp t _ hl)
    have h1 := (h.purge (fun x => Nat.beq x (canonT t))).addNil (id := canonT t) (purge_fresh (natBeq.2 rfl) (canonT_ge t)) (sz := sz) (te := tagS) (f := fun _ => .undef)
    exact ⟨_, _, h1.tell (t := t) (v := .osl (canonT t) 0) (by rw [hx]; exact .osl0 ad (by simp [updI]))⟩
  · exact ⟨ι, Fr, h⟩

theorem sle_ownB (id i sz : Nat) (s : AS) : SLe s (ownB id i sz s) := by
  constructor
  intro g a w ι Fr h
  unfold ownB
  split
  · rename_i cs hl
    split
    · exact (sle_moveId _ _ s (canonB_ge id i)).le g a w ι Fr h
    · rename_i hci
      have hp := h.purge (fun x => Nat.beq x (canonB id i))
      simp only []
      split
      · rename_i cs1 hl1
        have hfr := purge_fresh (p := fun x => Nat.beq x (canonB id i)) (s := s) (id := canonB id i) (natBeq.2 rfl) (canonB_ge id i)
        have hne : id ≠ canonB id i := fun e => by
          have := (lk_purgeS hl1).1
          rw [natBeq.2 e] at this; simp at this
        have h1 := hp.addNil (id := canonB id i) hfr (sz := sz) (te := tagS) (f := fun _ => .undef)
        have hl2 : lk (put (purge (fun x => Nat.beq x (canonB id i)) s).S (canonB id i) (.arr sz 0 (fun _ => .undef) tagS)) id = some (.box cs1) := by
          rw [lk_put]; simp [hne, hl1]
        cases hi : updI ι (canonB id i) none id with
        | none =>
          obtain ⟨_, _, _, hb⟩ := h1.nob id _ hl2 hi
          cases hb
        | some r =>
          obtain ⟨b, z, m⟩ := r
          obtain ⟨hown, _⟩ := h1.own id _ b z m hl2 hi
          obtain ⟨cells, e, hh, hsz, hr⟩ := hown
          have hcs1 : cs1[i]? = some .nil := by
            obtain ⟨_, b', hb', hc⟩ := lk_purgeS hl1
            rw [hl] at hb'
            have : Blk.box cs = b' := Option.some.inj hb'
            subst this
            have : cs1 = cs.map (offIf fun x => Nat.beq x (canonB id i)) := by injection hc
            rw [this]
            simp [hci, offIf, V.ment]
          have hilt : i < cs1.length := (List.getElem?_eq_some_iff.1 hcs1).1
          have hnew : OwnB w Fr (updI ι (canonB id i) none) b z m (.box (cs1.set i (.osl (canonB id i) 0))) := by
            refine ⟨cells, e, hh, by simpa using hsz, fun j hj => ?_⟩
            have hj' : j < cs1.length := by simpa using hj
            have hrj := hr j hj'
            by_cases hij : i = j
            · subst hij
              have e1 : (cs1.set i (.osl (canonB id i) 0)).getD i .undef = .osl (canonB id i) 0 := by simp [List.getD, hilt]
              have e2 : cs1.getD i .undef = .nil := by simp [List.getD, hcs1]
              rw [e1]
              rw [e2] at hrj
              obtain ⟨ad, hx⟩ := nil_inv hrj
              rw [hx]
              exact .osl0 ad (by simp [updI])
            · have e1 : (cs1.set i (.osl (canonB id i) 0)).getD j .undef = cs1.getD j .undef := by simp [List.getD, List.getElem?_set_ne hij]
              rw [e1]; exact hrj
          have h2 := h1.setOwn (w' := w) (new := .box (cs1.set i (.osl (canonB id i) 0))) hl2 hi rfl rfl rfl rfl (fun _ _ => rfl) (fun _ _ hs => hs) hnew
          refine ⟨_, _, h2.congr (fun _ => rfl) fun k => ?_⟩
          simp only [lk_put]
          by_cases hk : k = canonB id i
          · subst hk
            simp only [if_true]
            rw [if_neg (fun e => hne e.symm)]
          · simp only [hk, if_false]
      · exact ⟨ι, Fr, hp⟩
    · exact ⟨ι, Fr, h⟩
  · exact ⟨ι, Fr, h⟩

theorem sle_ownTs : ∀ (l : List (Nat × Option Nat)) (s : AS), SLe s (ownTs l s)
  | [], s => SLe.refl s
  | (t, some sz) :: r, s => (sle_ownT t sz s).trans (sle_ownTs r _)
  | (_, none) :: r, s => sle_ownTs r s

theorem sle_ownBs1 (id : Nat) : ∀ (l : List (Nat × Nat)) (s : AS), SLe s (ownBs1 id l s)
  | [], s => SLe.refl s
  | (i, sz) :: r, s => (sle_ownB id i sz s).trans (sle_ownBs1 id r _)

theorem sle_ownBs : ∀ (l : List (Nat × List (Nat × Nat))) (s : AS), SLe s (ownBs l s)
  | [], s => SLe.refl s
  | (id, l) :: r, s => (sle_ownBs1 id l s).trans (sle_ownBs r _)

theorem lk_pickT {T : List (Nat × V)} : ∀ {l : List (Nat × Option Nat)} {t : Nat} {v : V}, lk (pickT T l) t = some v → lk T t = some v
  | [], _, _, h => by simp [pickT, lk] at h
  | (k, _) :: r, t, v, h => by
    simp only [pickT] at h
    split at h
    · rename_i u hu
      simp only [lk] at h
      split at h
      · rename_i hk
        rw [← natBeq.1 hk, hu]; exact h
      · exact lk_pickT h
    · exact lk_pickT h

theorem lk_pickS {S : List (Nat × Blk)} : ∀ {l : List Nat} {t : Nat} {v : Blk}, lk (pickS S l) t = some v → lk S t = some v
  | [], _, _, h => by simp [pickS, lk] at h
  | k :: r, t, v, h => by
    simp only [pickS] at h
    split at h
    · rename_i u hu
      simp only [lk] at h
      split at h
      · rename_i hk
        rw [← natBeq.1 hk, hu]; exact h
      · exact lk_pickS h
    · exact lk_pickS h

theorem sle_maskTo (l : LK) (s : AS) : SLe s (maskTo l s) := by
  refine ((sle_ownTs l.ts s).trans (sle_ownBs l.bs _)).trans ⟨?_⟩
  intro g a w ι Fr h
  exact ⟨ι, Fr, h.less (fun _ _ ht => lk_pickT ht) fun _ _ hl => lk_pickS hl⟩

theorem sle_mask (cx : Cx) (c : Code) (s : AS) : SLe s (mask cx c s) := by
  unfold mask
  split
  · exact sle_maskTo _ s
  · exact SLe.refl s

end Go.Av

/- The abstract weakest condition, and that it is one. -/
namespace Go.Av

/-- A loop, by an invariant: the states at its head are 'L.st x' for those x that fit. -/
def Loops (L : LoopInv) (B : (Exit → AS → Prop) → AS → Prop) (m : AS → AS) (Q : Exit → AS → Prop) (s : AS) : Prop :=
  (∃ x, SLe (m s) (L.st x) ∧ L.I x) ∧
    ∀ x, L.I x → B (fun e s' => match e with
      | .normal => ∃ y, SLe (m s') (L.st y) ∧ L.I y ∧ L.μ y < L.μ x
      | e => Q e s') (L.st x)

/-- A loop inside another: what fits at its head may speak of the round in which it was come to. -/
def LoopsR (L : LoopInv) (B : (Exit → AS → Prop) → AS → Prop) (m : AS → AS) (Q : Exit → AS → Prop) (s : AS) : Prop :=
  ∃ R : L.α → Prop, (∃ x, SLe (m s) (L.st x) ∧ L.I x ∧ R x) ∧
    ∀ x, L.I x → R x → B (fun e s' => match e with
      | .normal => ∃ y, SLe (m s') (L.st y) ∧ L.I y ∧ R y ∧ L.μ y < L.μ x
      | e => Q e s') (L.st x)

def awp (cx : Cx) : Code → (Exit → AS → Prop) → AS → Prop
  | .skip, Q, s => Q .normal s
  | .region id ops draw, Q, s => match mem id cx.ms with
    | true => regionM cx ops.toList draw s (Q .normal)
    | false => match mem id cx.cuts with
      | true => False
      | false => region cx ops.toList draw s (Q .normal)
  | .seq a b, Q, s => awp cx a (thenQ (awp cx b Q) Q) s
  | .cond c a b, Q, s => match aval s c with
    | .bool t => (t = true → awp cx a Q s) ∧ (t = false → awp cx b Q s)
    | _ => False
  | .block id a, Q, s => awp cx a (blockQ id Q) s
  | .loop a, Q, s => match cx.invs (firstRegion a) with
    | some L => match mem (firstRegion a) cx.nest with
      | true => LoopsR L (awp cx a) (mask cx a) Q s
      | false => Loops L (awp cx a) (mask cx a) Q s
    | none => False
  | .exit id, Q, s => Q (.exit id) s
  | .ret, Q, s => Q .ret s
  | _, _, _ => False

theorem Rel.drawn {g : G} {s : AS} {a : Act} {w : World} {ι : Iota} {Fr : Nat → Nat → Prop} (h : Rel g s a w ι Fr) : Rel g s a { w with drawn := w.drawn + 1 } ι Fr :=
  h.grow rfl rfl rfl (Nat.le_refl _) fun _ _ => rfl

theorem sites_ge {nt : Nat} {ops : List Oper} {k : Nat} (h : atSites (dstsOf nt ops) k = true) : 64 ≤ k := by
  have key : ∀ (ops : List Oper), ∀ q ∈ dstsOf nt ops, 1 ≤ q := by
    intro ops
    induction ops with
    | nil => intro q hq; simp [dstsOf] at hq
    | cons o r ih =>
      intro q hq
      simp only [dstsOf, List.mem_cons] at hq
      rcases hq with rfl | hq
      · omega
      · exact ih q hq
  have := key ops _ (mem_iff.1 h)
  omega

section
variable {P : Program} {cx : Cx} (hT : TabOk P cx.tt) (hD : SoundAll P cx.D) (hM : SoundAllM P cx.M) (hm : P.follows .mixedOrders = true)

include hT hD hm in
theorem region_sound {g : G} (hnt : cx.nt = g.nt) {id : Nat} {ops : Array Oper} {draw : Bool} {K : AS → Prop} {Q : Exit → Act → World → Prop}
    (hK : ∀ s a w ι Fr, K s → Rel g s a w ι Fr → Q .normal a w) {s : AS} {a : Act} {w : World} {ι : Iota} {Fr : Nat → Nat → Prop} (hr : region cx ops.toList draw s K) (h : Rel g s a w ι Fr) :
    (Code.region id ops draw).wp P Q a w := by
  have hfresh : ∀ k, atSites (dstsOf cx.nt ops.toList) k = true → FreshId (purge (atSites (dstsOf cx.nt ops.toList)) s) k := fun k hk => purge_fresh hk (sites_ge hk)
  have hp := h.purge (atSites (dstsOf cx.nt ops.toList))
  unfold region at hr
  cases draw with
  | false =>
    refine wp_region ?_
    have := region_text hT hD hnt (ops := ops.toList) (Q := Q) (fun s' es' a w ι Fr hk hrel => hK _ a w ι Fr hk (hrel.only cx.keep)) ops.toList [] rfl _ [] a w ι Fr hp hfresh hr
    simpa [List.range_eq_range'] using this
  | true =>
    refine wp_region_any hm ?_
    obtain ⟨L, hL, hf, hk⟩ := runOps_facts hr
    have hzip : ops.toList.zip (((L.map (fun p : Oper × Ef => p.2)).reverse ++ []).reverse) = L := by
      rw [List.append_nil, List.reverse_reverse, ← hL]
      clear hL hf hk hr hfresh hp
      induction L with
      | nil => rfl
      | cons p r ih => simp only [List.map_cons, List.zip_cons_cons, ih]
    simp only [hzip] at hk
    split at hk
    · rename_i hb
      simp only [Bool.and_eq_true] at hb
      have hlen : ops.size = ops.toList.length := by simp
      refine region_any hT hD hnt (ops := ops.toList) hL hf hfresh hb.1 hb.2 (fun a w ι Fr hrel => hK _ a w ι Fr hk (hrel.only cx.keep)) ops.size (Array.replicate ops.size false) a { w with drawn := w.drawn + 1 } ι Fr (by simp) ?_ ?_ ?_
      · have : ∀ n, undone (fun i => (Array.replicate ops.size false).getD i false) n ≤ n := by
          intro n
          induction n with
          | zero => exact Nat.le_refl _
          | succ n ih => simp only [undone]; split <;> omega
        rw [hlen]; exact this _
      · intro i hi
        have : (Array.replicate ops.size false).getD i false = false := by
          simp only [Array.getD]
          split <;> simp
        rw [this] at hi; simp at hi
      · rw [foldD_none fun j _ => by
          simp only [Array.getD]
          split <;> simp]
        exact hp.drawn
    · exact hk.elim

include hT hD hM hm in
theorem awp_sound {g : G} (hnt : cx.nt = g.nt) : ∀ (c : Code) (A : Exit → AS → Prop) (Q : Exit → Act → World → Prop), (∀ e s a w ι Fr, A e s → Rel g s a w ι Fr → Q e a w) →
    ∀ (s : AS) (a : Act) (w : World) (ι : Iota) (Fr : Nat → Nat → Prop), awp cx c A s → Rel g s a w ι Fr → c.wp P Q a w
  | .skip, A, Q, hA, s, a, w, ι, Fr, h, hr => wp_skip (hA _ _ _ _ _ _ h hr)
  | .region id ops draw, A, Q, hA, s, a, w, ι, Fr, h, hr => by
    simp only [awp] at h
    split at h
    · cases draw with
      | true => exact h.elim
      | false =>
        have hfresh : ∀ k, atSites (dstsOf cx.nt ops.toList) k = true → FreshId (purge (atSites (dstsOf cx.nt ops.toList)) s) k := fun k hk => purge_fresh hk (sites_ge hk)
        have hp := hr.purge (atSites (dstsOf cx.nt ops.toList))
        refine wp_region ?_
        have := regionM_text hT hD hM hnt (ops := ops.toList) (Q := Q) (fun s' a w ι Fr hk hrel => hA .normal _ a w ι Fr hk (hrel.only cx.keep)) ops.toList [] rfl _ a w ι Fr hp hfresh h
        simpa [List.range_eq_range'] using this
    split at h
    · exact h.elim
    · exact region_sound hT hD hm hnt (K := A .normal) (fun s a w ι Fr hk hrel => hA .normal s a w ι Fr hk hrel) h hr
  | .seq x y, A, Q, hA, s, a, w, ι, Fr, h, hr => by
    refine wp_seq (awp_sound hnt x (thenQ (awp cx y A) A) _ ?_ s a w ι Fr h hr)
    intro e s a w ι Fr he hrel
    cases e with
    | normal => exact awp_sound hnt y A Q hA s a w ι Fr he hrel
    | _ => exact hA _ _ _ _ _ _ he hrel
  | .cond c x y, A, Q, hA, s, a, w, ι, Fr, h, hr => by
    simp only [awp] at h
    split at h
    · rename_i t ht
      have hv := aval_rep hr c
      rw [ht] at hv
      exact wp_cond_split (inv_bool hv) (fun e => awp_sound hnt x A Q hA s a w ι Fr (h.1 e) hr) (fun e => awp_sound hnt y A Q hA s a w ι Fr (h.2 e) hr)
    · exact h.elim
  | .block id x, A, Q, hA, s, a, w, ι, Fr, h, hr => by
    refine wp_block (awp_sound hnt x (blockQ id A) _ ?_ s a w ι Fr h hr)
    intro e s a w ι Fr he hrel
    cases e with
    | exit j =>
      simp only [blockQ] at he
      simp only [Exit.inBlock]
      split at he
      · rename_i hj
        rw [if_pos (natBeq.1 hj)]
        exact hA _ _ _ _ _ _ he hrel
      · rename_i hj
        rw [if_neg (natBeqF.1 hj)]
        exact hA _ _ _ _ _ _ he hrel
    | _ => exact hA _ _ _ _ _ _ he hrel
  | .loop x, A, Q, hA, s, a, w, ι, Fr, h, hr => by
    simp only [awp] at h
    cases hL : cx.invs (firstRegion x) with
    | none => rw [hL] at h; exact h.elim
    | some L =>
    rw [hL] at h
    simp only [] at h
    split at h
    · obtain ⟨R, ⟨x0, h0, hI0, hR0⟩, hround⟩ := h
      have key : ∀ (n : Nat) (y : L.α), L.I y → R y → L.μ y < n → ∀ (a : Act) (w : World) (ι : Iota) (Fr : Nat → Nat → Prop), Rel g (L.st y) a w ι Fr → Code.rounds P x Q n a w := by
        intro n
        induction n with
        | zero => intro y _ _ hlt; omega
        | succ n ih =>
          intro y hIy hRy hlt a w ι Fr hrel
          rw [rounds_succ]
          refine awp_sound hnt x _ _ ?_ (L.st y) a w ι Fr (hround y hIy hRy) hrel
          intro e s' a' w' ι' Fr' he hrel'
          cases e with
          | normal =>
            obtain ⟨z, hz, hIz, hRz, hμ⟩ := he
            obtain ⟨ι1, Fr1, h1⟩ := (sle_mask cx x s').le g a' w' ι' Fr' hrel'
            obtain ⟨ι2, Fr2, h2⟩ := hz.le g a' w' ι1 Fr1 h1
            exact ih z hIz hRz (by omega) a' w' ι2 Fr2 h2
          | _ => exact hA _ _ _ _ _ _ he hrel'
      obtain ⟨ι1, Fr1, h1⟩ := (sle_mask cx x s).le g a w ι Fr hr
      obtain ⟨ι2, Fr2, h2⟩ := h0.le g a w ι1 Fr1 h1
      exact wp_loop_rounds (L.μ x0 + 1) (key _ x0 hI0 hR0 (by omega) a w ι2 Fr2 h2)
    · obtain ⟨⟨x0, h0, hI0⟩, hround⟩ := h
      have key : ∀ (n : Nat) (y : L.α), L.I y → L.μ y < n → ∀ (a : Act) (w : World) (ι : Iota) (Fr : Nat → Nat → Prop), Rel g (L.st y) a w ι Fr → Code.rounds P x Q n a w := by
        intro n
        induction n with
        | zero => intro y _ hlt; omega
        | succ n ih =>
          intro y hIy hlt a w ι Fr hrel
          rw [rounds_succ]
          refine awp_sound hnt x _ _ ?_ (L.st y) a w ι Fr (hround y hIy) hrel
          intro e s' a' w' ι' Fr' he hrel'
          cases e with
          | normal =>
            obtain ⟨z, hz, hIz, hμ⟩ := he
            obtain ⟨ι1, Fr1, h1⟩ := (sle_mask cx x s').le g a' w' ι' Fr' hrel'
            obtain ⟨ι2, Fr2, h2⟩ := hz.le g a' w' ι1 Fr1 h1
            exact ih z hIz (by omega) a' w' ι2 Fr2 h2
          | _ => exact hA _ _ _ _ _ _ he hrel'
      obtain ⟨ι1, Fr1, h1⟩ := (sle_mask cx x s).le g a w ι Fr hr
      obtain ⟨ι2, Fr2, h2⟩ := h0.le g a w ι1 Fr1 h1
      exact wp_loop_rounds (L.μ x0 + 1) (key _ x0 hI0 (by omega) a w ι2 Fr2 h2)
  | .exit id, A, Q, hA, s, a, w, ι, Fr, h, hr => wp_exit (hA _ _ _ _ _ _ h hr)
  | .ret, A, Q, hA, s, a, w, ι, Fr, h, hr => wp_ret (hA _ _ _ _ _ _ h hr)
  | .rangeFunc .., A, Q, hA, s, a, w, ι, Fr, h, hr => h.elim
  | .scope .., A, Q, hA, s, a, w, ι, Fr, h, hr => h.elim
  | .label .., A, Q, hA, s, a, w, ι, Fr, h, hr => h.elim
  | .goto .., A, Q, hA, s, a, w, ι, Fr, h, hr => h.elim
  | .refuse .., A, Q, hA, s, a, w, ι, Fr, h, hr => h.elim

end
end Go.Av
