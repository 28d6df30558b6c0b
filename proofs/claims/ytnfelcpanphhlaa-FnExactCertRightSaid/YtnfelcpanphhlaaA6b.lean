/- An operation with its guard, and a region in the text's order. -/
import Derived.Test.YtnfelcpanphhlaaA6
namespace Go.Av

section
variable {P : Program} {cx : Cx} (hT : TabOk P cx.tt) (hD : SoundAll P cx.D)

theorem strip_repG {w : World} {Fr : Nat → Nat → Prop} {ι : Iota} {v : V} {x : Value} (h : TRep w Fr ι v x) {gd : Bool} (hg : gd = true) (ho : ∀ p ∈ stripO gd v, p) : TRep w Fr ι (strip v) x := by
  cases v with
  | cnd c u =>
    have hc : c = true := ho _ (List.mem_singleton.2 rfl) hg
    cases h with
    | atom hv _ => simp [isP] at hv
    | cnd ht hf => exact ht hc
  | _ => exact h

theorem withO_some {l : List Prop} {x : Option Ef} {e : Ef} (h : withO l x = some e) : ∃ e', x = some e' ∧ e = { e' with ob := l ++ e'.ob } := by
  cases x with
  | none => simp [withO] at h
  | some e' => exact ⟨e', rfl, (Option.some.inj h).symm⟩

theorem pickV_rep {w : World} {Fr : Nat → Nat → Prop} {ι : Iota} {gd cb : Bool} {va vb : V} {x y : Value} {e : Ef} (he : pickV gd cb va vb = some e) (hg : gd = true) (ho : ∀ p ∈ e.ob, p)
    (h1 : TRep w Fr ι va x) (h2 : TRep w Fr ι vb y) : e.upd = [] ∧ TRep w Fr ι e.v (if cb then x else y) := by
  unfold pickV at he
  split at he
  · rename_i p q
    simp only [ok, Option.some.injEq] at he
    subst he
    refine ⟨rfl, ?_⟩
    cases cb
    · exact h2
    · exact h1
  · rename_i c p q
    simp only [okO, Option.some.injEq] at he
    subst he
    refine ⟨rfl, ?_⟩
    cases cb
    · exact h2
    · have hc : c = true := ho _ (List.mem_singleton.2 rfl) hg rfl
      cases h1 with
      | atom hv _ => simp [isP] at hv
      | cnd ht hf => exact ht hc
  · rename_i p c q
    simp only [okO, Option.some.injEq] at he
    subst he
    refine ⟨rfl, ?_⟩
    cases cb
    · have hc : c = true := ho _ (List.mem_singleton.2 rfl) hg rfl
      cases h2 with
      | atom hv _ => simp [isP] at hv
      | cnd ht hf => exact ht hc
    · exact h1
  · simp at he

include hT hD in
theorem opE_sim {g : G} {s : AS} {a : Act} {w : World} {ι : Iota} {Fr : Nat → Nat → Prop} (h : Rel g s a w ι Fr) {o : Oper} {d : Nat} {gd : Bool} (hg : gd = true)
    (hd : dstOk g.nt o = true) (hfresh : ∀ id, id / 64 = d + 1 → FreshId s id) {e : Ef} (he : opE cx s gd d o.op = some e) (ho : ∀ p ∈ e.ob, p) : Does P g (s.app o.dst e) a w o := by
  have key : (∃ c x y, o.op = .pick c x y) ∨ opE cx s gd d o.op = withO ((opnds o.op).flatMap fun x => stripO gd (aval s x)) (coreOp cx s.S d (fun x => strip (aval s x)) o.op) := by
    cases o.op <;> first | exact .inl ⟨_, _, _, rfl⟩ | exact .inr rfl
  rcases key with ⟨c, x, y, hop⟩ | key
  · rw [hop] at he
    simp only [opE] at he
    split at he
    · rename_i cb hcb
      obtain ⟨e', he', rfl⟩ := withO_some he
      obtain ⟨h1, h2⟩ := pickV_rep (w := w) (Fr := Fr) (ι := ι) (x := a.eval x) (y := a.eval y) he' hg (fun p hp => ho p (List.mem_append.2 (.inr hp))) (aval_rep h x) (aval_rep h y)
      have hc := strip_repG (aval_rep h c) hg (fun p hp => ho p (List.mem_append.2 (.inl hp)))
      rw [hcb] at hc
      have hcv := inv_bool hc
      refine does_pure h hd h1 ⟨_, ?_, h2⟩
      unfold execOp; rw [hop]
      simp only [hcv, asBool, Sem.run_bind, Sem.run_pure, Result.andThen_ok]
    · simp at he
  · rw [key] at he
    obtain ⟨e', he', rfl⟩ := withO_some he
    exact core_sim (e := e') hT hD h (fun x hx => strip_repG (aval_rep h x) hg fun p hp => ho p (List.mem_append.2 (.inl (List.mem_flatMap.2 ⟨x, hx, hp⟩)))) hd hfresh he' (fun p (hp : p ∈ e'.ob) => ho p (List.mem_append.2 (.inr hp)))

/-- What is there may be told with a condition that holds. -/
theorem Rel.cond {g : G} {a : Act} {w : World} {ι : Iota} {Fr : Nat → Nat → Prop} {d : Nat} {v : V} {T : List (Nat × V)} {S : List (Nat × Blk)} {gd : Bool} (hg : gd = true) (h : Rel g ⟨Go.Av.put T d v, S⟩ a w ι Fr) :
    Rel g ⟨Go.Av.put T d (V.cnd gd v), S⟩ a w ι Fr :=
  { h with
    tmp := fun t u ht => by
      simp only [lk_put] at ht
      by_cases e : t = d
      · simp only [e, if_true, Option.some.injEq] at ht
        subst ht
        refine .cnd (fun _ => h.tmp t v (by simp [lk_put, e])) (fun hf => by rw [hg] at hf; simp at hf)
      · simp only [e, if_false] at ht
        exact h.tmp t u (by simp [lk_put, e, ht]) }

theorem yielded_of {g : G} {s : AS} {a : Act} {w : World} {ι : Iota} {Fr : Nat → Nat → Prop} (h : Rel g s a w ι Fr) {ops : List Oper} {j t : Nat} {oj : Oper} {v : V} (hj : ops[j]? = some oj) (ht : oj.dst = some t) (hl : lk s.T t = some v) :
    (∀ b, v = .bool b → yielded ops.toArray a.tmps j = some b) ∧ (∀ c b, v = .cnd c (.bool b) → yielded ops.toArray a.tmps j = if c then some b else none) := by
  have hr := h.tmp t v hl
  have hy : ∀ b, a.tmps.getD t Go.undef = .bool b → yielded ops.toArray a.tmps j = some b := by
    intro b hb
    unfold yielded
    have : a.tmps[t]? = some (.bool b) := by
      cases hq : a.tmps[t]? with
      | none => simp [Array.getD_eq_getD_getElem?, hq, Go.undef] at hb
      | some u => simp [Array.getD_eq_getD_getElem?, hq] at hb; rw [hb]
    simp [hj, ht, this]
  constructor
  · rintro b rfl
    exact hy b (inv_bool hr)
  · rintro c b rfl
    cases hr with
    | atom hv _ => simp [isP] at hv
    | cnd hct hcf =>
      cases c with
      | true => exact hy b (inv_bool (hct rfl))
      | false =>
        have hu := hcf rfl
        unfold yielded
        cases hq : a.tmps[t]? with
        | none => simp [hj, ht, hq]
        | some u =>
          simp [Array.getD_eq_getD_getElem?, hq] at hu
          subst hu
          simp [hj, ht, hq, Go.undef]

theorem guard_of {g : G} {s : AS} {a : Act} {w : World} {ι : Iota} {Fr : Nat → Nat → Prop} (h : Rel g s a w ι Fr) {ops : List Oper} {o : Oper} :
    (guardOf ops s o = some none → Region.wanted o (yielded ops.toArray a.tmps) = true) ∧
    (∀ b, guardOf ops s o = some (some b) → Region.wanted o (yielded ops.toArray a.tmps) = b) := by
  unfold guardOf Region.wanted
  cases hgd : o.guard with
  | none => exact ⟨fun _ => rfl, fun b hb => by simp at hb⟩
  | some jw =>
    obtain ⟨j, want⟩ := jw
    simp only []
    cases hj : ops[j]? with
    | none => exact ⟨fun hb => by simp at hb, fun b hb => by simp at hb⟩
    | some oj =>
      cases ht : oj.dst with
      | none => exact ⟨fun hb => by simp [ht] at hb, fun b hb => by simp [ht] at hb⟩
      | some t =>
        cases hl : lk s.T t with
        | none => exact ⟨fun hb => by simp [ht, hl] at hb, fun b hb => by simp [ht, hl] at hb⟩
        | some v =>
          have hy := yielded_of h hj ht hl
          simp only [ht, hl]
          constructor
          · intro hb
            split at hb <;> first | (cases want <;> simp at hb; done) | simp at hb
          · intro b hb
            split at hb
            · rename_i b' hv
              rw [hy.1 b' (Option.some.inj hv)]
              cases want <;> cases b' <;> simp at hb ⊢ <;> exact hb
            · rename_i c b' hv
              rw [hy.2 c b' (Option.some.inj hv)]
              cases want <;> cases b' <;> cases c <;> simp at hb ⊢ <;> exact hb
            · simp at hb

include hT hD in
/-- One operation of a region. -/
theorem oper_sim {g : G} {s : AS} {a : Act} {w : World} {ι : Iota} {Fr : Nat → Nat → Prop} (h : Rel g s a w ι Fr) {ops : List Oper} {o : Oper} (hnt : cx.nt = g.nt)
    (hfresh : ∀ id, id / 64 = dstN cx.nt o + 1 → FreshId s id) {e : Ef} (he : operE cx ops s o = some e) (ho : ∀ p ∈ e.ob, p) {next : Act → World → Prop} {Q : Exit → Act → World → Prop}
    (hn : ∀ a' w' ι' Fr', Rel g (s.app o.dst e) a' w' ι' Fr' → next a' w') :
    if Region.wanted o (yielded ops.toArray a.tmps) then o.wp P a w next Q else next (a.put o.dst undef) w := by
  have hgd := guard_of h (ops := ops) (o := o)
  unfold operE at he
  split at he
  · rename_i hg hd
    rw [hnt] at hd
    rw [hgd.1 hg, if_pos rfl]
    exact opE_sim hT hD h rfl hd hfresh he ho next Q hn
  · rename_i gd hg hd
    rw [hnt] at hd
    rw [hgd.2 gd hg]
    split at he
    · rename_i v rd ob hop
      simp only [Option.some.injEq] at he
      subst he
      cases gd with
      | true =>
        rw [if_pos rfl]
        have hob : ∀ p ∈ ob, p := fun p hp => ho (true = true → p) (List.mem_map.2 ⟨p, hp, rfl⟩) rfl
        refine opE_sim hT hD h rfl hd hfresh hop hob next Q fun a' w' ι' Fr' hr => hn a' w' ι' Fr' ?_
        cases hdst : o.dst with
        | none => rw [hdst] at hr; exact hr
        | some d =>
          rw [hdst] at hr
          exact Rel.cond (gd := true) rfl hr
      | false =>
        simp only [Bool.false_eq_true, if_false]
        cases hdst : o.dst with
        | none =>
          refine hn _ _ ι Fr ?_
          rw [hdst]; exact h
        | some d =>
          have hlt : d < g.nt := by
            unfold dstOk at hd
            rw [hdst] at hd
            exact Nat.le_of_ble_eq_true hd
          refine hn _ _ ι Fr ?_
          rw [hdst]
          exact h.put hlt (.cnd (fun hc => by simp at hc) fun _ => rfl)
    · simp at he
  · simp at he

/-! ### What is fresh stays fresh -/
mutual
theorem ment_of_ids {p : Nat → Bool} : ∀ {v : V}, (∀ id ∈ v.ids, p id = false) → V.ment p v = false
  | .osl id _, h => h id (by simp [V.ids])
  | .oref id _ _, h => h id (by simp [V.ids])
  | .agg _, h => mentL_of_ids h
  | .tup _, h => mentL_of_ids h
  | .fn _ _, h => mentL_of_ids h
  | .cnd _ v, h => ment_of_ids (v := v) h
  | .int _ _, _ => rfl
  | .bool _, _ => rfl
  | .str _, _ => rfl
  | .nil, _ => rfl
  | .sl _ _ _, _ => rfl
  | .ptr _ _ _, _ => rfl
  | .undef, _ => rfl
theorem mentL_of_ids {p : Nat → Bool} : ∀ {l : List V}, (∀ id ∈ V.idsL l, p id = false) → V.mentL p l = false
  | [], _ => rfl
  | v :: r, h => by
    simp only [V.mentL, Bool.or_eq_false_iff]
    exact ⟨ment_of_ids (v := v) fun id hid => h id (by simp [V.idsL, hid]), mentL_of_ids (l := r) fun id hid => h id (by simp [V.idsL, hid])⟩
end

theorem blk_ment_of_ids {p : Nat → Bool} {b : Blk} (h : ∀ id ∈ b.ids, p id = false) : b.ment p = false := by
  cases b with
  | arr => rfl
  | box cs => exact mentL_of_ids h

theorem lk_applyUpd_not {upd : List (Nat × Option Blk)} : ∀ {S : List (Nat × Blk)} {id : Nat}, (∀ p ∈ upd, p.1 ≠ id) → lk (applyUpd S upd) id = lk S id := by
  induction upd with
  | nil => intros; rfl
  | cons p r ih =>
    intro S id h
    obtain ⟨k, b⟩ := p
    have hk : id ≠ k := fun e => h (k, b) (List.mem_cons_self ..) e.symm
    have hr := fun S => ih (S := S) (id := id) fun p hp => h p (List.mem_cons_of_mem _ hp)
    cases b with
    | none => simp only [applyUpd]; rw [hr, lk_del]; simp [hk]
    | some b => simp only [applyUpd]; rw [hr, lk_put]; simp [hk]

theorem lk_applyUpd_from {upd : List (Nat × Option Blk)} : ∀ {S : List (Nat × Blk)} {id : Nat} {b : Blk}, lk (applyUpd S upd) id = some b → lk S id = some b ∨ (id, some b) ∈ upd := by
  induction upd with
  | nil => intro S id b h; exact .inl h
  | cons p r ih =>
    intro S id b h
    obtain ⟨k, bk⟩ := p
    cases bk with
    | none =>
      simp only [applyUpd] at h
      rcases ih h with h | h
      · rw [lk_del] at h
        split at h
        · simp at h
        · exact .inl h
      · exact .inr (List.mem_cons_of_mem _ h)
    | some bk =>
      simp only [applyUpd] at h
      rcases ih h with h | h
      · rw [lk_put] at h
        split at h
        · rename_i e
          have h2 : bk = b := Option.some.inj h
          rw [e, h2]
          exact .inr (List.mem_cons_self ..)
        · exact .inl h
      · exact .inr (List.mem_cons_of_mem _ h)

theorem FreshId.app {s : AS} {id : Nat} (h : FreshId s id) {dst : Option Tmp} {e : Ef} (hn : id ∉ e.names) : FreshId (s.app dst e) id := by
  have hv : id ∉ e.v.ids := fun hm => hn (by unfold Ef.names; simp [hm])
  have hu : ∀ p ∈ e.upd, p.1 ≠ id ∧ ∀ b, p.2 = some b → id ∉ b.ids := by
    intro p hp
    constructor
    · intro he
      exact hn (by unfold Ef.names; refine List.mem_append.2 (.inr (List.mem_flatMap.2 ⟨p, hp, ?_⟩)); simp [he])
    · intro b hb hm
      exact hn (by unfold Ef.names; refine List.mem_append.2 (.inr (List.mem_flatMap.2 ⟨p, hp, ?_⟩)); simp [hb, hm])
  have hne : ∀ {l : List Nat}, id ∉ l → ∀ k ∈ l, Nat.beq k id = false := fun hl k hk => natBeqF.2 fun e => hl (e ▸ hk)
  constructor
  · show lk (applyUpd s.S e.upd) id = none
    rw [lk_applyUpd_not fun p hp => (hu p hp).1]
    exact h.no
  · intro t v ht
    cases dst with
    | none => exact h.T t v ht
    | some d =>
      have ht' : lk (put s.T d e.v) t = some v := ht
      rw [lk_put] at ht'
      split at ht'
      · simp only [Option.some.injEq] at ht'
        subst ht'
        exact ment_of_ids (hne hv)
      · exact h.T t v ht'
  · intro k blk hk
    rcases lk_applyUpd_from (show lk (applyUpd s.S e.upd) k = some blk from hk) with h' | h'
    · exact h.S k blk h'
    · exact blk_ment_of_ids (hne ((hu _ h').2 blk rfl))

theorem lk_purgeT {p : Nat → Bool} {s : AS} {t : Nat} {v : V} (h : lk (purge p s).T t = some v) : v = .undef ∨ (lk s.T t = some v ∧ V.ment p v = false) := by
  unfold purge at h
  simp only [] at h
  rw [lk_map (offIf p)] at h
  cases hl : lk s.T t with
  | none => rw [hl] at h; simp at h
  | some u =>
    rw [hl] at h
    simp only [Option.map_some, Option.some.injEq, offIf] at h
    cases hm : V.ment p u with
    | true => rw [hm] at h; exact .inl h.symm
    | false => rw [hm] at h; subst h; exact .inr ⟨rfl, hm⟩

theorem lk_purgeS {p : Nat → Bool} {s : AS} {id : Nat} {b : Blk} (h : lk (purge p s).S id = some b) : p id = false ∧ ∃ b', lk s.S id = some b' ∧ b = clearBlk p b' := by
  unfold purge at h
  simp only [] at h
  rw [lk_map (clearBlk p), lk_filter (fun k => !(p k))] at h
  cases hp : p id with
  | true => rw [hp] at h; simp at h
  | false =>
    rw [hp] at h
    simp only [Bool.not_false, if_true] at h
    cases hl : lk s.S id with
    | none => rw [hl] at h; simp at h
    | some u => rw [hl] at h; simp at h; exact ⟨rfl, u, rfl, h.symm⟩

theorem clear_ment {p : Nat → Bool} : ∀ cs : List V, V.mentL p (cs.map (offIf p)) = false
  | [] => rfl
  | c :: r => by
    simp only [List.map, V.mentL, clear_ment r, Bool.or_false, offIf]
    cases h : V.ment p c with
    | true => rfl
    | false => exact h

theorem purge_fresh {p : Nat → Bool} {s : AS} {id : Nat} (hp : p id = true) : FreshId (purge p s) id := by
  have himp : ∀ k, p k = false → Nat.beq k id = false := fun k hk => natBeqF.2 fun e => by subst e; rw [hp] at hk; simp at hk
  have him : ∀ v, V.ment p v = false → V.ment (fun k => Nat.beq k id) v = false := by
    intro v hv
    refine ment_of_ids fun k hk => ?_
    cases hpk : p k with
    | true => rw [ids_ment v k hk p hpk] at hv; simp at hv
    | false => exact himp k hpk
  constructor
  · cases h : lk (purge p s).S id with
    | none => rfl
    | some b => have := (lk_purgeS h).1; rw [hp] at this; simp at this
  · intro t v ht
    rcases lk_purgeT ht with rfl | ⟨_, hm⟩
    · rfl
    · exact him v hm
  · intro k b hk
    obtain ⟨_, b', _, rfl⟩ := lk_purgeS hk
    cases b' with
    | arr => rfl
    | box cs => exact him (.agg _) (clear_ment cs)

theorem OwnB.clear {w : World} {Fr : Nat → Nat → Prop} {ι : Iota} {b sz m : Nat} {blk : Blk} (h : OwnB w Fr ι b sz m blk) (p : Nat → Bool) : OwnB w Fr ι b sz m (clearBlk p blk) := by
  cases blk with
  | arr => exact h
  | box cs =>
    obtain ⟨cells, e, hh, hsz, hr⟩ := h
    refine ⟨cells, e, hh, by simpa using hsz, fun j hj => ?_⟩
    have hj' : j < cs.length := by simpa using hj
    have := hr j hj'
    have e1 : (cs.map (offIf p)).getD j .undef = offIf p (cs.getD j .undef) := by
      simp [List.getD, hj']
    rw [e1]
    unfold offIf
    cases V.ment p (cs.getD j .undef) with
    | true => exact .atom rfl (.undef _)
    | false => exact this

theorem Rel.purge {g : G} {s : AS} {a : Act} {w : World} {ι : Iota} {Fr : Nat → Nat → Prop} (h : Rel g s a w ι Fr) (p : Nat → Bool) : Rel g (Go.Av.purge p s) a w ι Fr :=
  { h with
    tmp := fun t v ht => by
      rcases lk_purgeT ht with rfl | ⟨ht', _⟩
      · exact .atom rfl (.undef _)
      · exact h.tmp t v ht'
    own := fun id blk b sz m hl hi => by
      obtain ⟨_, b', hb', rfl⟩ := lk_purgeS hl
      have := h.own id b' b sz m hb' hi
      exact ⟨this.1.clear p, this.2⟩
    nob := fun id blk hl hi => by
      obtain ⟨_, b', hb', rfl⟩ := lk_purgeS hl
      obtain ⟨sz, hh, te, rfl⟩ := h.nob id b' hb' hi
      exact ⟨sz, hh, te, rfl⟩
    inj := fun id id' blk blk' r r' h1 h2 => by
      obtain ⟨_, b1, hb1, _⟩ := lk_purgeS h1
      obtain ⟨_, b2, hb2, _⟩ := lk_purgeS h2
      exact h.inj id id' b1 b2 r r' hb1 hb2
    fr := fun t b hb => ⟨(h.fr t b hb).1, (h.fr t b hb).2.1, fun id blk r hl => by
      obtain ⟨_, b', hb', _⟩ := lk_purgeS hl
      exact (h.fr t b hb).2.2 id b' r hb'⟩ }

theorem Rel.only {g : G} {s : AS} {a : Act} {w : World} {ι : Iota} {Fr : Nat → Nat → Prop} (h : Rel g s a w ι Fr) (keep : List Nat) : Rel g (s.only keep) a w ι Fr :=
  h.less (fun t v ht => by
    have ht' : lk (s.T.filter fun e => mem e.1 keep) t = some v := ht
    rw [lk_filter (fun k => mem k keep)] at ht'
    split at ht'
    · exact ht'
    · simp at ht') fun _ _ hl => hl

theorem obs_all {K : Prop} : ∀ {l : List Prop}, obs l K → (∀ p ∈ l, p) ∧ K
  | [], h => ⟨fun _ hp => by simp at hp, h⟩
  | p :: r, h => by
    obtain ⟨h1, h2⟩ := h
    obtain ⟨h3, h4⟩ := obs_all (l := r) h2
    exact ⟨fun q hq => by
      rcases List.mem_cons.1 hq with rfl | hq
      · exact h1
      · exact h3 q hq, h4⟩

/-! ### A region in the text's order -/
theorem wpOps_range {Q : Exit → Act → World → Prop} {ops : Array Oper} (i n : Nat) (a : Act) (w : World) :
    wpOps P ops Q (List.range' i (n + 1)) a w = match ops[i]? with
      | none => wpOps P ops Q (List.range' (i + 1) n) a w
      | some o => if Region.wanted o (yielded ops a.tmps) then o.wp P a w (wpOps P ops Q (List.range' (i + 1) n)) Q ∨ (o.asks P a w ∧ LetsOut Q)
        else wpOps P ops Q (List.range' (i + 1) n) (a.put o.dst undef) w := by
  rw [List.range'_succ]
  rfl

include hT hD in
theorem region_text {g : G} (hnt : cx.nt = g.nt) {ops : List Oper} {K : AS → List Ef → Prop} {Q : Exit → Act → World → Prop} (hK : ∀ s' es' a w ι Fr, K s' es' → Rel g s' a w ι Fr → Q .normal a w) :
    ∀ (r pre : List Oper), ops = pre ++ r → ∀ (s : AS) (es : List Ef) (a : Act) (w : World) (ι : Iota) (Fr : Nat → Nat → Prop), Rel g s a w ι Fr → (∀ id, atSites (dstsOf cx.nt r) id = true → FreshId s id) →
      runOps cx ops r s es K → wpOps P ops.toArray Q (List.range' pre.length r.length) a w
  | [], pre, _, s, es, a, w, ι, Fr, h, _, hr => hK _ _ _ _ _ _ hr h
  | o :: r, pre, hops, s, es, a, w, ι, Fr, h, hf, hr => by
    have ho : ops.toArray[pre.length]? = some o := by subst hops; simp
    rw [List.length_cons, wpOps_range, ho]
    simp only [runOps] at hr
    split at hr
    · rename_i e he
      split at hr
      · rename_i hoff
        obtain ⟨hob, hr⟩ := obs_all hr
        replace hr := nameB_at hr
        have hnames : ∀ id, atSites (dstsOf cx.nt r) id = true → id ∉ e.names := by
          intro id hid hm
          have := (List.all_eq_true.1 hoff) id hm
          rw [hid] at this; simp at this
        have hfr : ∀ id, id / 64 = dstN cx.nt o + 1 → FreshId s id := fun id hid => hf id (by unfold atSites dstsOf mem; simp [hid])
        have hnext : ∀ a' w' ι' Fr', Rel g (s.app o.dst e) a' w' ι' Fr' → wpOps P ops.toArray Q (List.range' (pre.length + 1) r.length) a' w' := by
          intro a' w' ι' Fr' h'
          have := region_text hnt hK r (pre ++ [o]) (by simp [hops]) (s.app o.dst e) (e :: es) a' w' ι' Fr' h' (fun id hid => (hf id (by
            unfold atSites dstsOf mem
            have : mem (id / 64) (dstsOf cx.nt r) = true := hid
            simp [this])).app (hnames id hid)) hr
          simpa using this
        have := oper_sim hT hD h (ops := ops) hnt hfr he hob (next := wpOps P ops.toArray Q (List.range' (pre.length + 1) r.length)) (Q := Q) hnext
        simp only []
        split
        · rename_i hw
          rw [hw, if_pos rfl] at this
          exact .inl this
        · rename_i hw
          rw [if_neg hw] at this
          exact this
      · exact hr.elim
    · exact hr.elim

end
end Go.Av
