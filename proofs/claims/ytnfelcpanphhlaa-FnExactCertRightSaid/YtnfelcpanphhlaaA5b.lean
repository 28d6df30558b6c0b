/- Behind a call: what the caller knows. -/
import Derived.Test.YtnfelcpanphhlaaA5
namespace Go.Av

theorem applyUpd_append : ∀ (a b : List (Nat × Option Blk)) (S : List (Nat × Blk)), applyUpd S (a ++ b) = applyUpd (applyUpd S a) b
  | [], _, _ => rfl
  | (id, some x) :: r, b, S => by simp only [List.cons_append, applyUpd]; exact applyUpd_append r b _
  | (id, none) :: r, b, S => by simp only [List.cons_append, applyUpd]; exact applyUpd_append r b _

theorem lk_newUpd (d : Nat) : ∀ (bs : List Blk) (k : Nat) (S : List (Nat × Blk)) (id : Nat),
    lk (applyUpd S (newUpd d k bs)) id = if site0 d + k ≤ id ∧ id < site0 d + k + bs.length then bs[id - (site0 d + k)]? else lk S id
  | [], k, S, id => by
    have : ¬ (site0 d + k ≤ id ∧ id < site0 d + k + ([] : List Blk).length) := by simp
    rw [if_neg this]; rfl
  | b :: r, k, S, id => by
    rw [newUpd, applyUpd, lk_newUpd d r (k + 1), lk_put]
    simp only [List.length_cons]
    by_cases h1 : id = site0 d + k
    · subst h1
      rw [if_neg (by omega), if_pos rfl, if_pos (by omega)]
      simp
    · by_cases h2 : site0 d + (k + 1) ≤ id ∧ id < site0 d + (k + 1) + r.length
      · rw [if_pos h2, if_pos (by omega)]
        have : id - (site0 d + k) = (id - (site0 d + (k + 1))) + 1 := by omega
        rw [this]; simp
      · rw [if_neg h2, if_neg h1, if_neg (by omega)]

theorem lk_backUpd (f : Nat → Nat) (d : Nat) : ∀ (ids : List Nat) (bs : List Blk) (S : List (Nat × Blk)), ids.Nodup → ids.length ≤ bs.length →
    (∀ j b, j < ids.length → bs[j]? = some b → lk (applyUpd S (backUpd f d ids bs)) (ids.getD j 0) = some ((b.ren f).retag d)) ∧ ∀ id, id ∉ ids → lk (applyUpd S (backUpd f d ids bs)) id = lk S id
  | [], bs, S, _, _ => ⟨fun j b h => by simp at h, fun id _ => by cases bs <;> rfl⟩
  | k :: r, b :: q, S, hn, hl => by
    rw [List.nodup_cons] at hn
    obtain ⟨ih1, ih2⟩ := lk_backUpd f d r q (put S k ((b.ren f).retag d)) hn.2 (by simpa using hl)
    rw [backUpd, applyUpd]
    refine ⟨fun j c hj hc => ?_, fun id hid => ?_⟩
    · cases j with
      | zero =>
        simp only [List.getElem?_cons_zero, Option.some.injEq] at hc
        subst hc
        rw [List.getD_cons_zero, ih2 k hn.1, lk_put, if_pos rfl]
      | succ j =>
        rw [List.getD_cons_succ]
        exact ih1 j c (by simpa using hj) (by simpa using hc)
    · simp only [List.mem_cons, not_or] at hid
      rw [ih2 id hid.2, lk_put, if_neg hid.1]
  | _ :: _, [], _, _, h => by simp at h

theorem idxOf_getD : ∀ {ids : List Nat} {j : Nat}, ids.Nodup → j < ids.length → idxOf (ids.getD j 0) ids = j
  | [], _, _, h => by simp at h
  | k :: r, 0, _, _ => by simp [idxOf]
  | k :: r, j + 1, hn, hj => by
    rw [List.nodup_cons] at hn
    have hj' : j < r.length := by simpa using hj
    have hmem : r.getD j 0 ∈ r := by
      have : r.getD j 0 = r[j] := by simp [List.getD, hj']
      rw [this]; exact List.getElem_mem hj'
    have hne : ¬ k = r.getD j 0 := fun e => hn.1 (e ▸ hmem)
    rw [List.getD_cons_succ, idxOf, natBeqF.2 hne]
    simp only
    rw [idxOf_getD hn.2 hj']

theorem nodup_iff : ∀ {l : List Nat}, nodupB l = true → l.Nodup
  | [], _ => List.nodup_nil
  | k :: r, h => by
    simp only [nodupB, Bool.and_eq_true, Bool.not_eq_true'] at h
    exact List.nodup_cons.2 ⟨mem_false.1 h.1, nodup_iff h.2⟩

theorem undup_nodup : ∀ (l : List Nat), (undup l).Nodup ∧ ∀ k, k ∈ undup l ↔ k ∈ l
  | [] => ⟨List.nodup_nil, fun _ => Iff.rfl⟩
  | k :: r => by
    obtain ⟨h1, h2⟩ := undup_nodup r
    rw [undup]
    split
    · rename_i hm
      refine ⟨h1, fun j => ?_⟩
      rw [h2, List.mem_cons]
      constructor
      · exact .inr
      · rintro (rfl | h)
        · exact mem_iff.1 hm
        · exact h
    · rename_i hm
      refine ⟨List.nodup_cons.2 ⟨fun hk => mem_false.1 hm ((h2 k).1 hk), h1⟩, fun j => ?_⟩
      rw [List.mem_cons, List.mem_cons, h2]

theorem mem_getD {ids : List Nat} {id : Nat} (h : id ∈ ids) : ∃ j, j < ids.length ∧ ids.getD j 0 = id := by
  obtain ⟨j, hj, rfl⟩ := List.mem_iff_getElem.1 h
  exact ⟨j, hj, by simp [List.getD, hj]⟩

theorem retag_ge {d t : Nat} (h : 2 ≤ t) (hS : t ≠ tagS) : retag d t = d + 200 := by
  unfold retag
  split
  · omega
  · omega
  · rw [natBeqF.2 hS]

theorem retag_S (d : Nat) : retag d tagS = tagS := rfl

mutual
theorem closed_tag {v : V} {w : World} {Fr Fr' : Nat → Nat → Prop} {ι : Iota} {x : Value} (hr : TRep w Fr ι v x) (hc : V.closed v = true) (h : ∀ t b, 2 ≤ t → Fr t b → Fr' t b) (hS : ∀ b, ¬ Fr tagS b) : TRep w Fr' ι v x := by
  cases hr with
  | atom hv hp =>
    cases hp with
    | int => exact .atom rfl (.int _ _)
    | bool => exact .atom rfl (.bool _)
    | str => exact .atom rfl (.str _)
    | nil => exact .atom rfl (.nil _)
    | sl0 => exact .atom rfl (.sl0 _ _ _ _)
    | sl cv hA hcap hsz hc' hr => exact .atom rfl ((PRep.sl cv hA hcap hsz hc' hr).weaken fun b hb => h _ b (Nat.le_of_ble_eq_true hc) hb)
    | ptr cv hA hc' hr => exact .atom rfl ((PRep.ptr cv hA hc' hr).weaken fun b hb => h _ b (Nat.le_of_ble_eq_true hc) hb)
    | agg => simp [isP] at hv
    | tup => simp [isP] at hv
    | fn => simp [isP] at hv
    | undef => exact .atom rfl (.undef _)
  | osl hi hn hc' hs hcs => exact .osl hi hn hc' hs hcs
  | osl0 a hi => exact .osl0 a hi
  | oref hi him => exact .oref hi him
  | agg arr hs hr => exact .agg arr hs fun j hj => closedL_tag (hr j hj) hj hc h hS
  | tup arr hs hr => exact .tup arr hs fun j hj => closedL_tag (hr j hj) hj hc h hS
  | fn arr hs hr => exact .fn arr hs fun j hj => closedL_tag (hr j hj) hj hc h hS
  | cnd ht hf => exact .cnd (fun hq => closed_tag (ht hq) hc h hS) hf
theorem closedL_tag {cs : List V} {j : Nat} {w : World} {Fr Fr' : Nat → Nat → Prop} {ι : Iota} {x : Value} (hr : TRep w Fr ι (cs.getD j .undef) x) (hj : j < cs.length) (hc : V.closedL cs = true) (h : ∀ t b, 2 ≤ t → Fr t b → Fr' t b) (hS : ∀ b, ¬ Fr tagS b) : TRep w Fr' ι (cs.getD j .undef) x := by
  match cs, j, hr, hj, hc with
  | c :: cs, 0, hr, _, hc =>
    simp only [V.closedL, Bool.and_eq_true] at hc
    simp only [List.getD_cons_zero] at hr ⊢
    exact closed_tag hr hc.1 h hS
  | c :: cs, j + 1, hr, hj, hc =>
    simp only [V.closedL, Bool.and_eq_true] at hc
    simp only [List.getD_cons_succ] at hr ⊢
    exact closedL_tag hr (by simpa using hj) hc.2 h hS
end

theorem allLt_iff {m : Nat} : ∀ {l : List Nat}, allLt m l = true → ∀ k ∈ l, k < m
  | [], _, _, h => by cases h
  | j :: r, h, k, hk => by
    simp only [allLt, Bool.and_eq_true] at h
    rcases List.mem_cons.1 hk with rfl | hk
    · exact Nat.le_of_ble_eq_true h.1
    · exact allLt_iff h.2 k hk

/-- What the caller has behind a call: its own blocks that the call might write, with what the call left in them; the new ones; the rest as it was. -/
theorem after_call {g : G} {s : AS} {a : Act} {w w' : World} {ι ι' ιc : Iota} {Fr Fr' : Nat → Nat → Prop} (h : Rel g s a w ι Fr) {d : Nat} (hfresh : ∀ id, id / 64 = d + 1 → FreshId s id)
    {ids : List Nat} (hnd : ids.Nodup) (hlk : ∀ id ∈ ids, ∃ blk, lk s.S id = some blk) {X0c io : Nat → Prop} {bout : List Blk} (hE : Ext w w' X0c io ιc ids.length bout ι' Fr')
    (hιc : ∀ j, j < ids.length → ιc j = ι (ids.getD j 0)) (hio : ∀ b, io b ↔ ∃ id ∈ ids, ∃ r, ι id = some r ∧ r.1 = b) (hX : ∀ b, g.X0 b → X0c b)
    (hlen : ids.length ≤ bout.length) (hfew : bout.length < 63) {r : V} {v : Value} (hrv : TRep w' Fr' ι' r v) (hrl : ∀ k ∈ r.ids, k < bout.length) (hbl : ∀ b ∈ bout, ∀ k ∈ b.ids, k < bout.length)
    (hcl : (∀ id blk q, id ∉ ids → lk s.S id = some blk → ι id = some q → X0c q.1) ∨ (V.closed r = true ∧ ∀ b ∈ bout, Blk.closed b = true)) :
    ∃ ι2 Fr2, Rel g { s with S := applyUpd s.S (backUpd (nmI d ids) d ids bout ++ newUpd d 0 ((bout.drop ids.length).map fun b => (b.ren (nmI d ids)).retag d)) } a w' ι2 Fr2 ∧
      TRep w' Fr2 ι2 ((r.ren (nmI d ids)).tag (retag d)) v := by
  -- blocks of the caller's own that the call did not get
  let Old : Nat → Prop := fun b => ∃ id, id ∉ ids ∧ ∃ blk q, lk s.S id = some blk ∧ ι id = some q ∧ q.1 = b
  let ι2 : Iota := fun id => if id / 64 = d + 1 then ι' (id - site0 d + ids.length) else ι id
  let Fr2 : Nat → Nat → Prop := fun t b => Fr t b ∨ (t = 0 ∧ Fr' 0 b ∧ ¬ Old b) ∨ (t = d + 200 ∧ ∃ t', 2 ≤ t' ∧ Fr' t' b)
  have hnoOld : ∀ t b, 2 ≤ t → Fr' t b → ¬ Old b := by
    rintro t b h2 hf ⟨id, _, blk, q, hl, hi, rfl⟩
    obtain ⟨b, sz, m⟩ := q
    have := hE.fr2 t _ h2 hf
    have := (h.own id blk b sz m hl hi).1.lt
    simp only at *; omega
  have hsite : ∀ id blk, lk s.S id = some blk → ¬ id / 64 = d + 1 := by
    intro id blk hl hq
    have := (hfresh id hq).no
    rw [hl] at this; cases this
  have hsid : ∀ j, j < 64 → (site0 d + j) / 64 = d + 1 := by
    intro j hj
    unfold site0
    rw [Nat.mul_add_div (by omega), Nat.div_eq_of_lt hj]
  have hmt : ∀ t v, lk s.T t = some v → V.ment (fun k => decide (k / 64 = d + 1)) v = false := by
    intro t v hv
    cases hm : V.ment (fun k => decide (k / 64 = d + 1)) v with
    | false => rfl
    | true =>
      exfalso
      have key : ∀ (v : V), V.ment (fun k => decide (k / 64 = d + 1)) v = true → ∃ id, id / 64 = d + 1 ∧ V.ment (fun k => Nat.beq k id) v = true := by
        intro v
        refine V.rec (motive_1 := fun v => V.ment (fun k => decide (k / 64 = d + 1)) v = true → ∃ id, id / 64 = d + 1 ∧ V.ment (fun k => Nat.beq k id) v = true)
          (motive_2 := fun l => V.mentL (fun k => decide (k / 64 = d + 1)) l = true → ∃ id, id / 64 = d + 1 ∧ V.mentL (fun k => Nat.beq k id) l = true)
          ?_ ?_ ?_ ?_ ?_ ?_ ?_ ?_ ?_ ?_ ?_ ?_ ?_ ?_ ?_ v
        · intro k n hq; simp [V.ment] at hq
        · intro b hq; simp [V.ment] at hq
        · intro s hq; simp [V.ment] at hq
        · intro hq; simp [V.ment] at hq
        · intro n g t _ hq; simp [V.ment] at hq
        · intro cs off t _ hq; simp [V.ment] at hq
        · intro cs ih hq; exact ih hq
        · intro cs ih hq; exact ih hq
        · intro f cs ih hq; exact ih hq
        · intro id n hq; exact ⟨id, by simpa [V.ment] using hq, by simp [V.ment]⟩
        · intro id i off hq; exact ⟨id, by simpa [V.ment] using hq, by simp [V.ment]⟩
        · intro c v ih hq; exact ih hq
        · intro hq; simp [V.ment] at hq
        · intro hq; simp [V.mentL] at hq
        · intro c l ih1 ih2 hq
          simp only [V.mentL, Bool.or_eq_true] at hq ⊢
          rcases hq with hq | hq
          · obtain ⟨id, h1, h2⟩ := ih1 hq; exact ⟨id, h1, .inl h2⟩
          · obtain ⟨id, h1, h2⟩ := ih2 hq; exact ⟨id, h1, .inr h2⟩
      obtain ⟨id, h1, h2⟩ := key v hm
      have := (hfresh id h1).T t v hv
      rw [h2] at this; cases this
  have hms : ∀ k blk, lk s.S k = some blk → blk.ment (fun k => decide (k / 64 = d + 1)) = false := by
    intro k blk hk
    cases blk with
    | arr => rfl
    | box cs =>
      cases hm : V.mentL (fun k => decide (k / 64 = d + 1)) cs with
      | false => exact hm
      | true =>
        exfalso
        have key : ∀ (l : List V), V.mentL (fun k => decide (k / 64 = d + 1)) l = true → ∃ id, id / 64 = d + 1 ∧ V.mentL (fun k => Nat.beq k id) l = true := by
          intro l
          refine V.rec_1 (motive_1 := fun v => V.ment (fun k => decide (k / 64 = d + 1)) v = true → ∃ id, id / 64 = d + 1 ∧ V.ment (fun k => Nat.beq k id) v = true)
            (motive_2 := fun l => V.mentL (fun k => decide (k / 64 = d + 1)) l = true → ∃ id, id / 64 = d + 1 ∧ V.mentL (fun k => Nat.beq k id) l = true)
            ?_ ?_ ?_ ?_ ?_ ?_ ?_ ?_ ?_ ?_ ?_ ?_ ?_ ?_ ?_ l
          · intro k n hq; simp [V.ment] at hq
          · intro b hq; simp [V.ment] at hq
          · intro s hq; simp [V.ment] at hq
          · intro hq; simp [V.ment] at hq
          · intro n g t _ hq; simp [V.ment] at hq
          · intro cs off t _ hq; simp [V.ment] at hq
          · intro cs ih hq; exact ih hq
          · intro cs ih hq; exact ih hq
          · intro f cs ih hq; exact ih hq
          · intro id n hq; exact ⟨id, by simpa [V.ment] using hq, by simp [V.ment]⟩
          · intro id i off hq; exact ⟨id, by simpa [V.ment] using hq, by simp [V.ment]⟩
          · intro c v ih hq; exact ih hq
          · intro hq; simp [V.ment] at hq
          · intro hq; simp [V.mentL] at hq
          · intro c l ih1 ih2 hq
            simp only [V.mentL, Bool.or_eq_true] at hq ⊢
            rcases hq with hq | hq
            · obtain ⟨id, h1, h2⟩ := ih1 hq; exact ⟨id, h1, .inl h2⟩
            · obtain ⟨id, h1, h2⟩ := ih2 hq; exact ⟨id, h1, .inr h2⟩
        obtain ⟨id, h1, h2⟩ := key cs hm
        have := (hfresh id h1).S k _ hk
        simp only [Blk.ment] at this
        rw [h2] at this; cases this
  have hι2 : ∀ id, decide (id / 64 = d + 1) = false → ι2 id = ι id := by
    intro id hid
    have : ¬ id / 64 = d + 1 := by simpa using hid
    show (if id / 64 = d + 1 then _ else _) = _
    rw [if_neg this]
  have hιid : ∀ id blk, lk s.S id = some blk → ι2 id = ι id := fun id blk hl => hι2 id (by simpa using hsite id blk hl)
  have hioOwn : ∀ b, io b → ∃ id blk r, lk s.S id = some blk ∧ ι id = some r ∧ r.1 = b := by
    intro b hb
    obtain ⟨id, hid, r, hr, rfl⟩ := (hio b).1 hb
    obtain ⟨blk, hl⟩ := hlk id hid
    exact ⟨id, blk, r, hl, hr, rfl⟩
  have hFold : ∀ t b, Fr t b → Fr2 t b ∧ w'.heap[b]? = w.heap[b]? := by
    intro t b hf
    refine ⟨.inl hf, hE.frame b (h.fr t b hf).1 fun hb => ?_⟩
    obtain ⟨id, blk, r, hl, hi, hr⟩ := hioOwn b hb
    exact (h.fr t b hf).2.2 id blk r hl hi hr
  -- names of what comes back
  have hnm : ∀ k, k < bout.length → ι2 (nmI d ids k) = ι' k := by
    intro k hk
    unfold nmI
    cases hb : Nat.blt k ids.length with
    | true =>
      have hk' : k < ids.length := Nat.le_of_ble_eq_true hb
      simp only
      have hmem : ids.getD k 0 ∈ ids := by
        have : ids.getD k 0 = ids[k] := by simp [List.getD, hk']
        rw [this]; exact List.getElem_mem hk'
      obtain ⟨blk, hl⟩ := hlk _ hmem
      rw [hιid _ blk hl, hE.same k hk', hιc k hk']
    | false =>
      have hk' : ¬ k < ids.length := by
        intro h'
        have : Nat.blt k ids.length = true := Nat.ble_eq_true_of_le h'
        rw [hb] at this; cases this
      simp only
      show (if (site0 d + (k - ids.length)) / 64 = d + 1 then _ else _) = _
      rw [if_pos (hsid _ (by omega))]
      congr 1; omega
  -- what the call told, in the caller's words
  have conv : ∀ (u : V) (x : Value), TRep w' Fr' ι' u x → (∀ k ∈ u.ids, k < bout.length) → ((∀ id blk q, id ∉ ids → lk s.S id = some blk → ι id = some q → X0c q.1) ∨ V.closed u = true) →
      TRep w' Fr2 ι2 ((u.ren (nmI d ids)).tag (retag d)) x := by
    intro u x hu hul hcase
    have main : ∀ (F : Nat → Nat → Prop), TRep w' F ι' u x → (∀ t b, F t b → Fr2 (retag d t) b) → (∀ b, ¬ F tagS b) → TRep w' Fr2 ι2 ((u.ren (nmI d ids)).tag (retag d)) x :=
      fun F hF h1 h2 => hF.renTag (fun id hid => hnm id (hul id hid)) (fun t b hb => ⟨h1 t b hb, rfl⟩) h2 (fun _ _ hs => hs)
    have big : ∀ t b, 2 ≤ t → Fr' t b → Fr2 (retag d t) b := by
      intro t b h2 hf
      have hS : t ≠ tagS := fun e => hE.frS b (e ▸ hf)
      rw [retag_ge h2 hS]
      exact .inr (.inr ⟨rfl, t, h2, hf⟩)
    rcases hcase with hx | hc
    · refine main Fr' hu (fun t b hf => ?_) hE.frS
      rcases Nat.lt_or_ge t 2 with h2 | h2
      · have e1 : retag d t = 0 := by
          match t, h2 with
          | 0, _ => rfl
          | 1, _ => rfl
        rw [e1]
        refine .inr (.inl ⟨rfl, hE.fr0 t b hf, ?_⟩)
        rintro ⟨id, hid, blk, q, hl, hi, rfl⟩
        exact (hE.fr t _ hf).2.1 (hx id blk q hid hl hi)
      · exact big t b h2 hf
    · exact main (fun t b => 2 ≤ t ∧ Fr' t b) (closed_tag hu hc (fun t b h2 hf => ⟨h2, hf⟩) hE.frS) (fun t b hf => big t b hf.1 hf.2) (fun b hf => hE.frS b hf.2)
  have convB : ∀ (id : Nat) (blk : Blk) (b sz m : Nat), bout[id]? = some blk → ι' id = some (b, sz, m) → OwnB w' Fr2 ι2 b sz m ((blk.ren (nmI d ids)).retag d) := by
    intro id blk b sz m hb hi
    have ho := (hE.own id blk b sz m hb hi).1
    have hmem : blk ∈ bout := List.mem_of_getElem? hb
    cases blk with
    | arr sz' n f te =>
      obtain ⟨q1, q2, cells, e, q3, q4, q5, q6⟩ := ho
      refine ⟨q1, q2, cells, e, q3, q4, q5, fun i j hi' hj => (q6 i j hi' hj).weaken fun k hk => ?_⟩
      rcases Nat.lt_or_ge te 2 with h2 | h2
      · have e1 : retag d te = 0 := by
          match te, h2 with
          | 0, _ => rfl
          | 1, _ => rfl
        rw [e1]
        refine .inr (.inl ⟨rfl, hE.fr0 te k hk, ?_⟩)
        rintro ⟨id', hid', blk', q, hl', hi2, rfl⟩
        rcases hcl with hx | ⟨_, hc⟩
        · exact (hE.fr te _ hk).2.1 (hx id' blk' q hid' hl' hi2)
        · have := hc _ hmem
          have : 2 ≤ te := Nat.le_of_ble_eq_true this
          omega
      · have hS : te ≠ tagS := fun e => hE.frS k (e ▸ hk)
        rw [retag_ge h2 hS]
        exact .inr (.inr ⟨rfl, te, h2, hk⟩)
    | box cs =>
      obtain ⟨cells, e, q3, q4, q6⟩ := ho
      refine ⟨cells, e, q3, by rw [tagL_length, renL_length]; exact q4, fun j hj => ?_⟩
      rw [tagL_length, renL_length] at hj
      rw [tagL_getD _ _ _ (by rw [renL_length]; exact hj), renL_getD _ _ _ hj]
      refine conv _ _ (q6 j hj) (fun k hk => hbl _ hmem k (idsL_getD hj k hk)) ?_
      rcases hcl with hx | ⟨_, hc⟩
      · exact .inl hx
      · right
        have := hc _ hmem
        simp only [Blk.closed] at this
        have key : ∀ (l : List V) (j : Nat), V.closedL l = true → j < l.length → V.closed (l.getD j .undef) = true := by
          intro l
          induction l with
          | nil => intro j _ h; simp at h
          | cons c l ih =>
            intro j hq hj
            simp only [V.closedL, Bool.and_eq_true] at hq
            cases j with
            | zero => simpa using hq.1
            | succ j => simpa using ih j hq.2 (by simpa using hj)
        exact key cs j this hj
  -- the lookups behind it
  have hback := lk_backUpd (nmI d ids) d ids bout s.S hnd hlen
  let S2 := applyUpd s.S (backUpd (nmI d ids) d ids bout ++ newUpd d 0 ((bout.drop ids.length).map fun b => (b.ren (nmI d ids)).retag d))
  have hS2 : ∀ id blk, lk S2 id = some blk → (∃ k c, k < bout.length ∧ bout[k]? = some c ∧ id = nmI d ids k ∧ blk = (c.ren (nmI d ids)).retag d) ∨ (id ∉ ids ∧ lk s.S id = some blk) := by
    intro id blk hq
    show _ ∨ _
    have hq' : lk (applyUpd (applyUpd s.S (backUpd (nmI d ids) d ids bout)) (newUpd d 0 ((bout.drop ids.length).map fun b => (b.ren (nmI d ids)).retag d))) id = some blk := by
      rw [← applyUpd_append]; exact hq
    rw [lk_newUpd] at hq'
    split at hq'
    · rename_i hr
      simp only [List.length_map, List.length_drop, Nat.add_zero] at hr hq'
      rw [List.getElem?_map, List.getElem?_drop] at hq'
      cases hc : bout[ids.length + (id - site0 d)]? with
      | none => rw [hc] at hq'; simp at hq'
      | some c =>
        rw [hc] at hq'
        simp only [Option.map_some, Option.some.injEq] at hq'
        have hk := (List.getElem?_eq_some_iff.1 hc).1
        refine .inl ⟨_, c, hk, hc, ?_, hq'.symm⟩
        unfold nmI
        have : Nat.blt (ids.length + (id - site0 d)) ids.length = false := by
          cases hb : Nat.blt (ids.length + (id - site0 d)) ids.length with
          | false => rfl
          | true => have : ids.length + (id - site0 d) + 1 ≤ ids.length := Nat.le_of_ble_eq_true hb; omega
        rw [this]
        simp only
        omega
    · by_cases hid : id ∈ ids
      · obtain ⟨j, hj, rfl⟩ := mem_getD hid
        have hjb : j < bout.length := by omega
        have hbj : bout[j]? = some bout[j] := List.getElem?_eq_getElem hjb
        rw [hback.1 j _ hj hbj] at hq'
        simp only [Option.some.injEq] at hq'
        refine .inl ⟨j, _, hjb, hbj, ?_, hq'.symm⟩
        unfold nmI
        have : Nat.blt j ids.length = true := Nat.ble_eq_true_of_le hj
        rw [this]
      · rw [hback.2 id hid] at hq'
        exact .inr ⟨hid, hq'⟩
  have hnmInj : ∀ k k', k < bout.length → k' < bout.length → nmI d ids k = nmI d ids k' → k = k' := by
    have split : ∀ k, k < bout.length → (k < ids.length ∧ nmI d ids k = ids.getD k 0 ∧ ¬ nmI d ids k / 64 = d + 1) ∨ (ids.length ≤ k ∧ nmI d ids k = site0 d + (k - ids.length) ∧ nmI d ids k / 64 = d + 1) := by
      intro k hk
      unfold nmI
      cases hb : Nat.blt k ids.length with
      | true =>
        have hk' : k < ids.length := Nat.le_of_ble_eq_true hb
        have hmem : ids.getD k 0 ∈ ids := by
          have : ids.getD k 0 = ids[k] := by simp [List.getD, hk']
          rw [this]; exact List.getElem_mem hk'
        obtain ⟨blk, hl⟩ := hlk _ hmem
        exact .inl ⟨hk', rfl, hsite _ blk hl⟩
      | false =>
        have hk' : ¬ k < ids.length := by
          intro h'
          have : Nat.blt k ids.length = true := Nat.ble_eq_true_of_le h'
          rw [hb] at this; cases this
        exact .inr ⟨by omega, rfl, hsid _ (by omega)⟩
    intro k k' hk hk' he
    rcases split k hk with ⟨h1, h2, h3⟩ | ⟨h1, h2, h3⟩ <;> rcases split k' hk' with ⟨h4, h5, h6⟩ | ⟨h4, h5, h6⟩
    · rw [h2, h5] at he
      have e1 := idxOf_getD hnd h1
      have e2 := idxOf_getD hnd h4
      rw [he, e2] at e1
      exact e1.symm
    · rw [he] at h3; exact absurd h6 h3
    · rw [he] at h3; exact absurd h3 h6
    · rw [h2, h5] at he; omega
  refine ⟨ι2, Fr2, ?_, conv r v hrv hrl (by rcases hcl with hx | ⟨hc, _⟩; exact .inl hx; exact .inr hc)⟩
  have hoa : ∀ id blk b sz m, id ∉ ids → lk s.S id = some blk → ι id = some (b, sz, m) → b < w.heap.size ∧ ¬ io b := by
    intro id blk b sz m hid hl hi
    refine ⟨(h.own id blk b sz m hl hi).1.lt, fun hb => ?_⟩
    obtain ⟨id', hid', r', hr', e1⟩ := (hio b).1 hb
    obtain ⟨blk', hl'⟩ := hlk id' hid'
    have := h.inj id id' blk blk' _ r' hl hl' hi hr' e1.symm
    exact hid (this ▸ hid')
  exact
    { h with
      tmp := fun t u hu => (h.tmp t u hu).mono (p := fun k => decide (k / 64 = d + 1)) hFold hι2 (hmt t u hu) (fun _ r e _ _ hs => hE.shape r.1 e hs)
      own := fun id blk b sz m hl hi => by
        rcases hS2 id blk hl with ⟨k, c, hk, hc, rfl, rfl⟩ | ⟨hid, hl'⟩
        · rw [hnm k hk] at hi
          refine ⟨convB k c b sz m hc hi, ?_⟩
          rcases (hE.own k c b sz m hc hi).2 with h1 | ⟨h1, h2⟩
          · exact .inl (Nat.le_trans h.hsize h1)
          · have hkm : ids.getD k 0 ∈ ids := by
              have : ids.getD k 0 = ids[k] := by simp [List.getD, h2]
              rw [this]; exact List.getElem_mem h2
            obtain ⟨blk', hl'⟩ := hlk _ hkm
            rw [hE.same k h2, hιc k h2] at hi
            have := (h.own _ blk' b sz m hl' hi).2
            have e1 : nmI d ids k = ids.getD k 0 := by
              unfold nmI
              have : Nat.blt k ids.length = true := Nat.ble_eq_true_of_le h2
              rw [this]
            rw [e1]; exact this
        · rw [hιid id blk hl'] at hi
          obtain ⟨h1, h2⟩ := h.own id blk b sz m hl' hi
          obtain ⟨h3, h4⟩ := hoa id blk b sz m hid hl' hi
          exact ⟨h1.mono (p := fun k => decide (k / 64 = d + 1)) (hE.frame b h3 h4) hFold hι2 (hms id blk hl') (fun _ r e _ _ hs => hE.shape r.1 e hs), h2⟩
      nob := fun id blk hl hi => by
        rcases hS2 id blk hl with ⟨k, c, hk, hc, rfl, rfl⟩ | ⟨hid, hl'⟩
        · rw [hnm k hk] at hi
          obtain ⟨sz, f, te, rfl⟩ := hE.nob k c hc hi
          exact ⟨sz, f, _, rfl⟩
        · rw [hιid id blk hl'] at hi
          exact h.nob id blk hl' hi
      inj := fun id id' blk blk' r1 r2 h1 h2 h3 h4 h5 => by
        rcases hS2 id blk h1 with ⟨k, c, hk, hc, rfl, rfl⟩ | ⟨hid, hl⟩ <;> rcases hS2 id' blk' h2 with ⟨k', c', hk', hc', rfl, rfl⟩ | ⟨hid', hl'⟩
        · rw [hnm k hk] at h3
          rw [hnm k' hk'] at h4
          rw [hE.inj k k' c c' r1 r2 hc hc' h3 h4 h5]
        · rw [hnm k hk] at h3
          rw [hιid _ _ hl'] at h4
          obtain ⟨b, sz, m⟩ := r1
          obtain ⟨b', sz', m'⟩ := r2
          simp only at h5
          subst h5
          obtain ⟨q1, q2⟩ := hoa _ _ _ _ _ hid' hl' h4
          rcases (hE.own k c b sz m hc h3).2 with q3 | ⟨q3, _⟩
          · omega
          · exact absurd q3 q2
        · rw [hnm k' hk'] at h4
          rw [hιid _ _ hl] at h3
          obtain ⟨b, sz, m⟩ := r1
          obtain ⟨b', sz', m'⟩ := r2
          simp only at h5
          subst h5
          obtain ⟨q1, q2⟩ := hoa _ _ _ _ _ hid hl h3
          rcases (hE.own k' c' b sz' m' hc' h4).2 with q3 | ⟨q3, _⟩
          · omega
          · exact absurd q3 q2
        · rw [hιid _ _ hl] at h3
          rw [hιid _ _ hl'] at h4
          exact h.inj id id' blk blk' r1 r2 hl hl' h3 h4 h5
      fr := fun t b hf => by
        have hnew : ∀ k c q, bout[k]? = some c → ι' k = some q → q.1 = b → w.heap.size ≤ b ∨ io b := by
          rintro k c ⟨b', sz, m⟩ hc hi rfl
          rcases (hE.own k c b' sz m hc hi).2 with q | ⟨q, _⟩
          · exact .inl q
          · exact .inr q
        rcases hf with hf | ⟨rfl, hf, hno⟩ | ⟨rfl, t', h2, hf⟩
        · refine ⟨Nat.lt_of_lt_of_le (h.fr t b hf).1 hE.hsize, (h.fr t b hf).2.1, fun id blk q hl hi e1 => ?_⟩
          rcases hS2 id blk hl with ⟨k, c, hk, hc, rfl, rfl⟩ | ⟨hid, hl'⟩
          · rw [hnm k hk] at hi
            rcases hnew k c q hc hi e1 with q1 | q1
            · have := (h.fr t b hf).1; omega
            · obtain ⟨id, blk, r, hl, hi, hr⟩ := hioOwn b q1
              exact (h.fr t b hf).2.2 id blk r hl hi hr
          · rw [hιid id blk hl'] at hi
            exact (h.fr t b hf).2.2 id blk q hl' hi e1
        · refine ⟨(hE.fr 0 b hf).1, fun hx => (hE.fr 0 b hf).2.1 (hX b hx), fun id blk q hl hi e1 => ?_⟩
          rcases hS2 id blk hl with ⟨k, c, hk, hc, rfl, rfl⟩ | ⟨hid, hl'⟩
          · rw [hnm k hk] at hi
            exact (hE.fr 0 b hf).2.2 k c q hc hi e1
          · rw [hιid id blk hl'] at hi
            exact hno ⟨id, hid, blk, q, hl', hi, e1⟩
        · refine ⟨(hE.fr t' b hf).1, fun hx => (hE.fr t' b hf).2.1 (hX b hx), fun id blk q hl hi e1 => ?_⟩
          rcases hS2 id blk hl with ⟨k, c, hk, hc, rfl, rfl⟩ | ⟨hid, hl'⟩
          · rw [hnm k hk] at hi
            exact (hE.fr t' b hf).2.2 k c q hc hi e1
          · rw [hιid id blk hl'] at hi
            exact hnoOld t' b h2 hf ⟨id, hid, blk, q, hl', hi, e1⟩
      frS := fun b hf => by
        rcases hf with hf | ⟨e1, _⟩ | ⟨e1, _⟩
        · exact h.frS b hf
        · exact absurd e1 (by decide)
        · have : tagS = 100 := rfl
          omega
      fr0 := fun t b hf => by
        rcases hf with hf | ⟨rfl, hf, hno⟩ | ⟨rfl, t', h2, hf⟩
        · exact .inl (h.fr0 t b hf)
        · exact .inr (.inl ⟨rfl, hf, hno⟩)
        · exact .inr (.inl ⟨rfl, hE.fr0 t' b hf, hnoOld t' b h2 hf⟩)
      fr2 := fun t b h2 hf => by
        rcases hf with hf | ⟨rfl, _⟩ | ⟨rfl, t', h2', hf⟩
        · exact h.fr2 t b h2 hf
        · omega
        · exact Nat.le_trans h.hsize (hE.fr2 t' b h2' hf)
      os := hE.os.trans h.os
      tape := hE.tape.trans h.tape
      output := hE.output.trans h.output
      hsize := Nat.le_trans h.hsize hE.hsize
      frame := fun b hlt hno => by
        refine (hE.frame b (Nat.lt_of_lt_of_le hlt h.hsize) fun hb => ?_).trans (h.frame b hlt hno)
        obtain ⟨id, blk, ⟨b', sz, m⟩, hl, hi, rfl⟩ := hioOwn b hb
        rcases (h.own id blk b' sz m hl hi).2 with q | ⟨q, _⟩
        · simp only at hlt; omega
        · exact hno q
      shape := fun b e he => hE.shape b e (h.shape b e he) }

end Go.Av
