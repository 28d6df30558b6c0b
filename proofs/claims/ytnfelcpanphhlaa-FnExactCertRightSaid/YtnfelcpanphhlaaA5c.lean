/- A call of a Go function, by what its callee owes. -/
import Derived.Test.YtnfelcpanphhlaaA5b
namespace Go.Av

theorem lendA_shape (S : List (Nat × Blk)) (c : V) : isP (lendA S c) = true ∧ (tagOfA (lendA S c) = none ∨ tagOfA (lendA S c) = some 1) := by
  cases c <;> simp only [lendA] <;> first | exact ⟨rfl, .inl rfl⟩ | exact ⟨rfl, .inr rfl⟩ | skip
  · split
    · exact ⟨rfl, .inr rfl⟩
    · exact ⟨rfl, .inl rfl⟩
  · split
    · exact ⟨rfl, .inr rfl⟩
    · exact ⟨rfl, .inl rfl⟩

theorem lendB_shape (S : List (Nat × Blk)) (c : V) : isP (lendB S c) = true ∧ (tagOfA (lendB S c) = none ∨ tagOfA (lendB S c) = some 1) := by
  by_cases hor : ∃ id i off, c = .oref id i off
  · obtain ⟨id, i, off, rfl⟩ := hor
    simp only [lendB]
    split
    · exact ⟨rfl, .inr rfl⟩
    · split
      · exact ⟨rfl, .inr rfl⟩
      · exact ⟨rfl, .inl rfl⟩
    · exact ⟨rfl, .inl rfl⟩
  · have : lendB S c = lendA S c := by
      cases c <;> first | rfl | exact absurd ⟨_, _, _, rfl⟩ hor
    rw [this]
    exact lendA_shape S c

theorem TRep.ofShape {w : World} {Fr : Nat → Nat → Prop} {ι : Iota} {v : V} {x : Value} (hp : PRep w (Fr 1) v x) (h : isP v = true ∧ (tagOfA v = none ∨ tagOfA v = some 1)) : TRep w Fr ι v x := by
  obtain ⟨h1, h2⟩ := h
  rcases h2 with h2 | h2
  · cases hp with
    | int => exact .atom rfl (.int _ _)
    | bool => exact .atom rfl (.bool _)
    | str => exact .atom rfl (.str _)
    | nil => exact .atom rfl (.nil _)
    | sl0 => exact .atom rfl (.sl0 _ _ _ _)
    | sl => simp [tagOfA] at h2
    | ptr => simp [tagOfA] at h2
    | agg => simp [isP] at h1
    | tup => simp [isP] at h1
    | fn => simp [isP] at h1
    | undef => exact .atom rfl (.undef _)
  · refine .atom h1 ?_
    unfold tagD
    rw [h2]
    exact hp

theorem lendB_rep {g : G} {s : AS} {a : Act} {w : World} {ι : Iota} {Fr : Nat → Nat → Prop} (h : Rel g s a w ι Fr) {A : Nat → Prop} (hA : ∀ t b, Fr t b → A b) {c : V} {x : Value}
    (hO : (∀ id blk r, lk s.S id = some blk → ι id = some r → A r.1) ∨ c.ids = []) (hc : TRep w Fr ι c x) : PRep w A (lendB s.S c) x := by
  rcases hO with hO | hno
  · by_cases hor : ∃ id i off, c = .oref id i off
    · obtain ⟨id, i, off, rfl⟩ := hor
      cases hl : lk s.S id with
      | none => simp only [lendB, hl]; exact .undef _
      | some blk =>
        cases blk with
        | arr sz n f te =>
          have := lendA_rep h hA hO hc
          simp only [lendA, hl] at this
          simp only [lendB, hl]
          exact this
        | box cs =>
          simp only [lendB, hl]
          cases i with
          | succ i => exact .undef _
          | zero =>
            cases hc with
            | atom hv _ => simp [isP] at hv
            | @oref _ _ _ b sz m hi him =>
              obtain ⟨cells, e, hh, hsz, hr⟩ := (h.own id _ b sz m hl hi).1
              have e1 : (⟨b, 0 * sz + off, none⟩ : Addr) = ⟨b, 0 + off, none⟩ := by simp
              rw [e1]
              refine .ptr (base := 0) (fun j => cells.getD j Go.undef) (hO id _ _ hl hi) (fun j hj => ?_) (fun j hj => ?_)
              · rw [Nat.zero_add]; exact cell_of hh (by simpa [hsz] using hj)
              · have hj' : j < cs.length := by simpa using hj
                rw [getD_map hj']
                exact lendA_rep h hA hO (hr j hj')
    · have : lendB s.S c = lendA s.S c := by
        cases c <;> first | rfl | exact absurd ⟨_, _, _, rfl⟩ hor
      rw [this]
      exact lendA_rep h hA hO hc
  · cases hc with
    | atom hv hp =>
      cases hp with
      | int => exact .int _ _
      | bool => exact .bool _
      | str => exact .str _
      | nil => exact .nil _
      | sl0 => exact .sl0 _ _ _ _
      | sl cv hA' hcap hsz hc hr => exact (PRep.sl cv hA' hcap hsz hc hr).weaken (hA _)
      | ptr cv hA' hc hr => exact (PRep.ptr cv hA' hc hr).weaken (hA _)
      | agg => simp [isP] at hv
      | tup => simp [isP] at hv
      | fn => simp [isP] at hv
      | undef => exact .undef _
    | osl => simp [V.ids] at hno
    | osl0 => simp [V.ids] at hno
    | oref => simp [V.ids] at hno
    | agg => exact .undef _
    | tup => exact .undef _
    | fn => exact .undef _
    | cnd => exact .undef _

theorem lend_rep {g : G} {s : AS} {a : Act} {w : World} {ι ι' : Iota} {Fr Fr' : Nat → Nat → Prop} (h : Rel g s a w ι Fr) (hA : ∀ t b, Fr t b → Fr' 1 b) {c : V} {x : Value}
    (hO : (∀ id blk r, lk s.S id = some blk → ι id = some r → Fr' 1 r.1) ∨ c.ids = []) (hc : TRep w Fr ι c x) : TRep w Fr' ι' (lend s.S c) x := by
  have list : ∀ (cs : List V) (arr : Array Value), ((∀ id blk r, lk s.S id = some blk → ι id = some r → Fr' 1 r.1) ∨ V.idsL cs = []) →
      (∀ j, j < cs.length → TRep w Fr ι (cs.getD j .undef) (arr.getD j Go.undef)) → ∀ j, j < (cs.map (lendB s.S)).length → TRep w Fr' ι' ((cs.map (lendB s.S)).getD j .undef) (arr.getD j Go.undef) := by
    intro cs arr hO hr j hj
    have hj' : j < cs.length := by simpa using hj
    rw [getD_map hj']
    refine .ofShape (lendB_rep h hA ?_ (hr j hj')) (lendB_shape _ _)
    rcases hO with hO | hO
    · exact .inl hO
    · right
      have := fun id hid => idsL_getD hj' id hid
      rw [hO] at this
      exact List.eq_nil_iff_forall_not_mem.2 fun id hid => by have := this id hid; cases this
  by_cases hag : ∃ cs, c = .agg cs
  · obtain ⟨cs, rfl⟩ := hag
    obtain ⟨arr, rfl, hs, hr⟩ := inv_agg hc
    exact .agg arr (by simpa using hs) (list cs arr hO hr)
  · by_cases hfn : ∃ f cs, c = .fn f cs
    · obtain ⟨f, cs, rfl⟩ := hfn
      cases hc with
      | atom hv _ => simp [isP] at hv
      | fn arr hs hr => exact .fn arr (by simpa using hs) (list cs arr hO hr)
    · have : lend s.S c = lendB s.S c := by
        cases c <;> first | rfl | exact absurd ⟨_, rfl⟩ hag | exact absurd ⟨_, _, rfl⟩ hfn
      rw [this]
      exact .ofShape (lendB_rep h hA hO hc) (lendB_shape _ _)

/-- The run of a call of a function value. -/
theorem call_exec {P : Program} {a : Act} {w : World} {o : Oper} {c : Call} {f : Operand} {n : Nat} {capsv : Array Value} (hop : o.op = .call c) (hcal : c.callee = .value f) (hf : a.eval f = .func (.func n) #[] capsv)
    (he : ∀ vals w, (callFunc n vals).run P w = .ok (.enter n vals) w) : (execOp a.eval o).run P w = .ok (.enter n (c.args.map a.eval ++ capsv)) w := by
  unfold execOp
  rw [hop]
  simp only [resolve, hcal, Deferred.ofValue, hf, Sem.run_bind, Sem.run_pure, Result.andThen_ok, invoke, Array.empty_append]
  exact he _ _

theorem put_dst {g : G} {s : AS} {a : Act} {w : World} {ι : Iota} {Fr : Nat → Nat → Prop} {o : Oper} {e : Ef} {x : Value} (hd : dstOk g.nt o = true) (h : Rel g { s with S := applyUpd s.S e.upd } a w ι Fr) (hv : TRep w Fr ι e.v x) :
    Rel g (s.app o.dst e) (a.put o.dst x) w ι Fr := by
  unfold AS.app
  cases hdst : o.dst with
  | none => exact h
  | some d =>
    have hlt : d < g.nt := by
      unfold dstOk at hd
      rw [hdst] at hd
      exact Nat.le_of_ble_eq_true hd
    exact h.put hlt hv

theorem blks_iff {S : List (Nat × Blk)} : ∀ {ids : List Nat} {bs : List Blk}, blks S ids = some bs → bs.length = ids.length ∧ ∀ j, j < ids.length → lk S (ids.getD j 0) = bs[j]?
  | [], bs, h => by simp only [blks, Option.some.injEq] at h; subst h; simp
  | id :: r, bs, h => by
    simp only [blks] at h
    split at h
    · rename_i b l hb hl
      simp only [Option.some.injEq] at h
      subst h
      obtain ⟨h1, h2⟩ := blks_iff hl
      refine ⟨by simp [h1], fun j hj => ?_⟩
      cases j with
      | zero => simpa using hb
      | succ j => simpa using h2 j (by simpa using hj)
    · simp at h

theorem does_call {P : Program} {cx : Cx} (hD : SoundAll P cx.D) {g : G} {s : AS} {a : Act} {w : World} {ι : Iota} {Fr : Nat → Nat → Prop} (h : Rel g s a w ι Fr) {o : Oper} {c : Call} {f : Operand} {n d : Nat} {caps : List V}
    (hop : o.op = .call c) (hcal : c.callee = .value f) (hfv : strip (aval s f) = .fn n caps) (hf : TRep w Fr ι (strip (aval s f)) (a.eval f)) (hx : ∀ x ∈ c.args.toList, TRep w Fr ι (strip (aval s x)) (a.eval x))
    (hd : dstOk g.nt o = true) (hfresh : ∀ id, id / 64 = d + 1 → FreshId s id) {e : Ef} (he : callV cx s.S d n (c.args.toList.map (fun x => strip (aval s x)) ++ caps) = some e) (ho : ∀ p ∈ e.ob, p) :
    Does P g (s.app o.dst e) a w o := by
  rw [hfv] at hf
  obtain ⟨capsv, hcv, hcs, hcr⟩ : ∃ capsv : Array Value, a.eval f = .func (.func n) #[] capsv ∧ capsv.size = caps.length ∧ ∀ j, j < caps.length → TRep w Fr ι (caps.getD j .undef) (capsv.getD j Go.undef) := by
    cases hfe : a.eval f with
    | func fn first cap =>
      rw [hfe] at hf
      cases hf with
      | atom hv _ => simp [isP] at hv
      | fn _ hs hr => exact ⟨cap, rfl, hs, hr⟩
    | _ => rw [hfe] at hf; cases hf with | atom hv _ => simp [isP] at hv
  generalize havs : c.args.toList.map (fun x => strip (aval s x)) ++ caps = avs at he
  have hvr : (c.args.map a.eval ++ capsv).size = avs.length ∧ ∀ j, j < avs.length → TRep w Fr ι (avs.getD j .undef) ((c.args.map a.eval ++ capsv).getD j Go.undef) := by
    refine ⟨by rw [← havs]; simp [hcs], fun j hj => ?_⟩
    rw [← havs] at hj ⊢
    by_cases h1 : j < c.args.size
    · have hmem : c.args[j] ∈ c.args.toList := by simp
      have e1 : (c.args.toList.map (fun x => strip (aval s x)) ++ caps).getD j .undef = strip (aval s c.args[j]) := by
        simp [List.getD, List.getElem?_append, h1]
      have e2 : (c.args.map a.eval ++ capsv).getD j Go.undef = a.eval c.args[j] := by
        simp [Array.getElem?_append, h1]
      rw [e1, e2]; exact hx _ hmem
    · have hj' : j - c.args.size < caps.length := by simp at hj; omega
      have e1 : (c.args.toList.map (fun x => strip (aval s x)) ++ caps).getD j .undef = caps.getD (j - c.args.size) .undef := by
        simp [List.getD, List.getElem?_append, h1]
      have e2 : (c.args.map a.eval ++ capsv).getD j Go.undef = capsv.getD (j - c.args.size) Go.undef := by
        simp [Array.getElem?_append, h1]
      rw [e1, e2]; exact hcr _ hj'
  have hids : ∀ j, j < avs.length → ∀ id ∈ (avs.getD j .undef).ids, id ∈ V.idsL avs := fun j hj id hid => idsL_getD hj id hid
  unfold callV at he
  split at he
  · -- what the caller has of its own is lent
    rename_i D hDf
    have hS := hD n false D hDf
    split at he
    case h_2 => simp at he
    case h_1 ob r bs hDe =>
      split at he
      case h_2 => simp at he
      case h_1 hc1 hc2 hc3 =>
        simp only [Option.some.injEq] at he
        subst he
        have hob := ho ob (List.mem_singleton.2 rfl)
        simp only [Bool.and_eq_true, Bool.or_eq_true, List.isEmpty_iff, List.all_eq_true] at hc1 hc2
        have hfew : bs.length < 63 := Nat.le_of_ble_eq_true hc3
        let lent : Prop := V.idsL avs ≠ []
        let X0c : Nat → Prop := fun b => g.X0 b ∨ (¬ lent ∧ ∃ id blk q, lk s.S id = some blk ∧ ι id = some q ∧ q.1 = b)
        let FrIn : Nat → Nat → Prop := fun t b => (t = 0 ∨ t = 1) ∧ b < w.heap.size ∧ ¬ X0c b
        have hownlt : ∀ id blk q, lk s.S id = some blk → ι id = some q → q.1 < w.heap.size := fun id blk q hl hi => (h.own id blk q.1 q.2.1 q.2.2 hl hi).1.lt
        have hEnt : Ent w X0c (fun _ => False) [] (fun _ => none) FrIn :=
          { own := fun id blk b sz m hb => by simp at hb
            nob := fun id blk hb => by simp at hb
            inj := fun id id' blk blk' r r' hb => by simp at hb
            fr := fun t b hf => ⟨hf.2.1, hf.2.2, fun id blk r hb => by simp at hb⟩
            frS := fun b hf => by rcases hf.1 with e | e <;> exact absurd e (by decide)
            fr0 := fun t b hf => ⟨.inl rfl, hf.2⟩
            fr2 := fun t b h2 hf => by rcases hf.1 with e | e <;> omega
            x0 := fun b hx => ⟨by
              rcases hx with hx | ⟨_, id, blk, q, hl, hi, rfl⟩
              · exact Nat.lt_of_lt_of_le (h.x0 b hx).1 h.hsize
              · exact hownlt id blk q hl hi, id⟩
            io0 := fun b hb => hb.elim
            few := by simp }
        have hargs := hS.does _ _ ob r bs hDe hob (c.args.map a.eval ++ capsv) w X0c (fun _ => False) (fun _ => none) FrIn hEnt (by simpa using hvr.1) (fun j hj => by
          have hj' : j < avs.length := by simpa using hj
          rw [getD_map hj']
          refine lend_rep h (fun t b hf => ⟨.inr rfl, (h.fr t b hf).1, ?_⟩) ?_ (hvr.2 j hj')
          rotate_left
          · rintro (hx | ⟨_, id, blk, q, hl, hi, e1⟩)
            · exact (h.fr t b hf).2.1 hx
            · exact (h.fr t b hf).2.2 id blk q hl hi e1
          · by_cases hlent : lent
            · left
              intro id blk q hl hi
              refine ⟨.inr rfl, hownlt id blk q hl hi, ?_⟩
              rintro (hx | ⟨hn, _⟩)
              · obtain ⟨q1, q2⟩ := h.x0 _ hx
                rcases (h.own id blk q.1 q.2.1 q.2.2 hl hi).2 with q3 | ⟨q3, _⟩
                · omega
                · exact q2 q3
              · exact hn hlent
            · right
              have hnil : V.idsL avs = [] := by simpa [lent] using hlent
              have := hids j hj'
              rw [hnil] at this
              exact List.eq_nil_iff_forall_not_mem.2 fun id hid => by have := this id hid; cases this)
        intro next Q hn
        unfold Oper.wp
        rw [call_exec hop hcal hcv hS.enters]
        simp only [Oper.upon]
        refine hargs.mono ?_
        rintro e' w' ⟨v, ι', Fr', rfl, hrv, hE⟩
        have hmain := after_call h hfresh (ids := []) List.nodup_nil (fun id hid => by cases hid) hE (fun j hj => by simp at hj) (fun b => ⟨fun hb => hb.elim, fun ⟨id, hid, _⟩ => by cases hid⟩) (fun b hx => .inl hx) (by simp) hfew hrv
          (fun k hk => allLt_iff hc2.1 k hk) (fun b hb k hk => allLt_iff (hc2.2 b hb) k hk) (by
            by_cases hlent : lent
            · right
              rcases hc1 with hc1 | hc1
              · exact absurd hc1 hlent
              · exact ⟨hc1.1, hc1.2⟩
            · left
              exact fun id blk q _ hl hi => .inr ⟨hlent, id, blk, q, hl, hi, rfl⟩)
        obtain ⟨ι2, Fr2, hR, hV⟩ := hmain
        exact hn _ _ ι2 Fr2 (put_dst hd hR hV)
  · -- the callee may write it
    rename_i D hDf
    have hS := hD n true D hDf
    simp only at he
    generalize hidsE : undup (V.idsL avs) = ids at he
    obtain ⟨hnd, hmem⟩ := undup_nodup (V.idsL avs)
    rw [hidsE] at hnd hmem
    split at he
    case h_2 => simp at he
    case h_1 bin hbin =>
      obtain ⟨hbl, hbj⟩ := blks_iff hbin
      split at he
      case h_2 => simp at he
      case h_1 ob r bs hDe =>
        split at he
        case h_2 => simp at he
        case h_1 hc1 hc2 hc3 =>
          simp only [Option.some.injEq] at he
          subst he
          have hob := ho ob (List.mem_cons_self ..)
          simp only [Bool.and_eq_true, List.all_eq_true] at hc1 hc2 hc3
          have hfew : bs.length < 63 := Nat.le_of_ble_eq_true hc1.2
          have hshl : ∀ (l l' : List Blk), shapesB l l' = true → l.length = l'.length := by
            intro l
            induction l with
            | nil => intro l' hq; cases l' <;> simp [shapesB] at hq ⊢
            | cons b l ih =>
              intro l' hq
              cases l' with
              | nil => cases b <;> simp [shapesB] at hq
              | cons b' l' =>
                cases b <;> cases b' <;> simp only [shapesB, Bool.and_eq_true, Bool.false_eq_true] at hq
                · simp [ih l' hq.2]
                · simp [ih l' hq.2]
          have hlen : ids.length ≤ bs.length := by
            have := hshl _ _ hc1.1
            rw [hbl, List.length_take] at this
            omega
          have hlk : ∀ id ∈ ids, ∃ blk, lk s.S id = some blk := by
            intro id hid
            obtain ⟨j, hj, rfl⟩ := mem_getD hid
            have := hbj j hj
            rw [List.getElem?_eq_getElem (by omega)] at this
            exact ⟨_, this⟩
          let io : Nat → Prop := fun b => ∃ id ∈ ids, ∃ r, ι id = some r ∧ r.1 = b
          let X0c : Nat → Prop := fun b => g.X0 b ∨ ∃ id blk q, id ∉ ids ∧ lk s.S id = some blk ∧ ι id = some q ∧ q.1 = b
          let ιc : Iota := fun k => ι (ids.getD k 0)
          let FrIn : Nat → Nat → Prop := fun t b => (t = 0 ∨ t = 1) ∧ b < w.heap.size ∧ ¬ X0c b ∧ ¬ io b
          have hownlt : ∀ id blk q, lk s.S id = some blk → ι id = some q → q.1 < w.heap.size := fun id blk q hl hi => (h.own id blk q.1 q.2.1 q.2.2 hl hi).1.lt
          have hFin : ∀ t b, Fr t b → (¬ X0c b ∧ ¬ io b) := by
            intro t b hf
            constructor
            · rintro (hx | ⟨id, blk, q, _, hl, hi, e1⟩)
              · exact (h.fr t b hf).2.1 hx
              · exact (h.fr t b hf).2.2 id blk q hl hi e1
            · rintro ⟨id, hid, r, hr, e1⟩
              obtain ⟨blk, hl⟩ := hlk id hid
              exact (h.fr t b hf).2.2 id blk r hl hr e1
          have hF1 : ∀ t b, Fr t b → FrIn 1 b := fun t b hf => ⟨.inr rfl, (h.fr t b hf).1, hFin t b hf⟩
          have hinn : ∀ id ∈ ids, ιc (idxOf id ids) = ι id := by
            intro id hid
            obtain ⟨j, hj, rfl⟩ := mem_getD hid
            rw [idxOf_getD hnd hj]
          have hconv : ∀ (u : V) (x : Value), (∀ id ∈ u.ids, id ∈ ids) → TRep w Fr ι u x → TRep w FrIn ιc ((u.ren fun id => idxOf id ids).tag fun _ => 1) x := by
            intro u x hu hr
            have h1 : TRep w (fun t b => t ≠ tagS ∧ Fr t b) ι u x := hr.world (fun t b hf => ⟨⟨fun e => h.frS b (e ▸ hf), hf⟩, rfl⟩) (fun _ _ hs => hs)
            exact h1.renTag (fun id hid => hinn id (hu id hid)) (fun t b hf => ⟨hF1 t b hf.2, rfl⟩) (fun b hf => hf.1 rfl) (fun _ _ hs => hs)
          have hbk : ∀ k blk, (bin.map fun b => (b.ren fun id => idxOf id ids).down)[k]? = some blk → ∃ c, bin[k]? = some c ∧ k < ids.length ∧ lk s.S (ids.getD k 0) = some c ∧ blk = (c.ren fun id => idxOf id ids).down := by
            intro k blk hb
            rw [List.getElem?_map] at hb
            cases hc : bin[k]? with
            | none => rw [hc] at hb; simp at hb
            | some c =>
              rw [hc] at hb
              simp only [Option.map_some, Option.some.injEq] at hb
              have hk : k < ids.length := by rw [← hbl]; exact (List.getElem?_eq_some_iff.1 hc).1
              exact ⟨c, rfl, hk, by rw [hbj k hk, hc], hb.symm⟩
          have hkm : ∀ k, k < ids.length → ids.getD k 0 ∈ ids := by
            intro k hk
            have : ids.getD k 0 = ids[k] := by simp [List.getD, hk]
            rw [this]; exact List.getElem_mem hk
          have hEnt : Ent w X0c io (bin.map fun b => (b.ren fun id => idxOf id ids).down) ιc FrIn :=
            { own := fun k blk b sz m hb hi => by
                obtain ⟨c, hc, hk, hl, rfl⟩ := hbk k blk hb
                obtain ⟨q1, _⟩ := h.own _ c b sz m hl hi
                refine ⟨?_, _, hkm k hk, _, hi, rfl⟩
                cases c with
                | arr sz' n f te =>
                  obtain ⟨e1, e2, cells, el, e3, e4, e5, e6⟩ := q1
                  refine ⟨e1, e2, cells, el, e3, e4, e5, fun i j hi' hj => (e6 i j hi' hj).weaken fun b' hb' => ?_⟩
                  have hS2 : te ≠ tagS := fun e => h.frS b' (e ▸ hb')
                  unfold downtag
                  rw [natBeqF.2 hS2]
                  exact hF1 te b' hb'
                | box cs =>
                  obtain ⟨cells, el, e3, e4, e6⟩ := q1
                  refine ⟨cells, el, e3, by rw [tagL_length, renL_length]; exact e4, fun j hj => ?_⟩
                  rw [tagL_length, renL_length] at hj
                  rw [tagL_getD _ _ _ (by rw [renL_length]; exact hj), renL_getD _ _ _ hj]
                  refine hconv _ _ (fun id hid => ?_) (e6 j hj)
                  have hq := hc3 _ (List.mem_of_getElem? hc) id (idsL_getD hj id hid)
                  exact mem_iff.1 hq
              nob := fun k blk hb hi => by
                obtain ⟨c, hc, hk, hl, rfl⟩ := hbk k blk hb
                obtain ⟨sz, f, te, rfl⟩ := h.nob _ c hl hi
                exact ⟨sz, f, _, rfl⟩
              inj := fun k k' blk blk' r r' hb hb' hi hi' e1 => by
                obtain ⟨c, hc, hk, hl, rfl⟩ := hbk k blk hb
                obtain ⟨c', hc', hk', hl', rfl⟩ := hbk k' blk' hb'
                have := h.inj _ _ c c' r r' hl hl' hi hi' e1
                have e2 := idxOf_getD hnd hk
                rw [this, idxOf_getD hnd hk'] at e2
                exact e2.symm
              fr := fun t b hf => ⟨hf.2.1, hf.2.2.1, fun k blk r hb hi e1 => by
                obtain ⟨c, hc, hk, hl, rfl⟩ := hbk k blk hb
                exact hf.2.2.2 ⟨_, hkm k hk, r, hi, e1⟩⟩
              frS := fun b hf => by rcases hf.1 with e | e <;> exact absurd e (by decide)
              fr0 := fun t b hf => ⟨.inl rfl, hf.2⟩
              fr2 := fun t b h2 hf => by rcases hf.1 with e | e <;> omega
              x0 := fun b hx => by
                rcases hx with hx | ⟨id, blk, q, hid, hl, hi, rfl⟩
                · refine ⟨Nat.lt_of_lt_of_le (h.x0 b hx).1 h.hsize, ?_⟩
                  rintro ⟨id, hid, r, hr, rfl⟩
                  obtain ⟨blk, hl⟩ := hlk id hid
                  obtain ⟨q1, q2⟩ := h.x0 _ hx
                  rcases (h.own id blk r.1 r.2.1 r.2.2 hl hr).2 with q3 | ⟨q3, _⟩
                  · omega
                  · exact q2 q3
                · refine ⟨hownlt id blk q hl hi, ?_⟩
                  rintro ⟨id', hid', r', hr', e1⟩
                  obtain ⟨blk', hl'⟩ := hlk id' hid'
                  have := h.inj id' id blk' blk r' q hl' hl hr' hi e1
                  exact hid (this ▸ hid')
              io0 := fun b hb => by
                obtain ⟨id, hid, r, hr, rfl⟩ := hb
                obtain ⟨blk, hl⟩ := hlk id hid
                exact hownlt id blk r hl hr
              few := by simp; omega }
          have hargs := hS.does _ _ ob r bs hDe hob (c.args.map a.eval ++ capsv) w X0c io ιc FrIn hEnt (by simpa using hvr.1) (fun j hj => by
            have hj' : j < avs.length := by simpa using hj
            rw [getD_map (by simpa using hj'), getD_map hj']
            exact hconv _ _ (fun id hid => (hmem id).2 (hids j hj' id hid)) (hvr.2 j hj'))
          intro next Q hn
          unfold Oper.wp
          rw [call_exec hop hcal hcv hS.enters]
          simp only [Oper.upon]
          refine hargs.mono ?_
          rintro e' w' ⟨v, ι', Fr', rfl, hrv, hE⟩
          rw [List.length_map, hbl] at hE
          have hmain := after_call h hfresh (ids := ids) hnd hlk hE (fun j hj => rfl) (fun b => Iff.rfl) (fun b hx => .inl hx) hlen hfew hrv
            (fun k hk => allLt_iff hc2.1 k hk) (fun b hb k hk => allLt_iff (hc2.2 b hb) k hk) (.inl fun id blk q hid hl hi => .inr ⟨id, blk, q, hid, hl, hi, rfl⟩)
          obtain ⟨ι2, Fr2, hR, hV⟩ := hmain
          exact hn _ _ ι2 Fr2 (put_dst hd hR hV)
  · simp at he

end Go.Av
