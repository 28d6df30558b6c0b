/- States that tell less; loop heads. -/
import Derived.Test.YtnfelcpanphhlaaA6e
namespace Go.Av

/-- Wherever the first state tells the truth, the second does. -/
structure SLe (s s' : AS) : Prop where
  le : ∀ (g : G) (a : Act) (w : World) (ι : Iota) (Fr : Nat → Nat → Prop), Rel g s a w ι Fr → ∃ ι' Fr', Rel g s' a w ι' Fr'

theorem SLe.refl (s : AS) : SLe s s := ⟨fun _ _ _ ι Fr h => ⟨ι, Fr, h⟩⟩
theorem SLe.trans {s s' s'' : AS} (h : SLe s s') (h' : SLe s' s'') : SLe s s'' := ⟨fun g a w ι Fr hr => by
  obtain ⟨ι', Fr', hr'⟩ := h.le g a w ι Fr hr
  exact h'.le g a w ι' Fr' hr'⟩

theorem sle_purge (p : Nat → Bool) (s : AS) : SLe s (purge p s) := ⟨fun _ _ _ ι Fr h => ⟨ι, Fr, h.purge p⟩⟩

theorem TRep.ren {w : World} {Fr : Nat → Nat → Prop} {ι ι' : Iota} {f : Nat → Nat} {v : V} {x : Value} (h : TRep w Fr ι v x) (hι : ∀ id ∈ v.ids, ι' (f id) = ι id) : TRep w Fr ι' (v.ren f) x := by
  induction h with
  | atom hv hp =>
    rename_i v x
    cases v with
    | osl => simp [isP] at hv
    | oref => simp [isP] at hv
    | agg => simp [isP] at hv
    | tup => simp [isP] at hv
    | fn => simp [isP] at hv
    | cnd => simp [isP] at hv
    | _ => exact .atom hv hp
  | osl hi hn hc hs hcs => exact .osl (by rw [hι _ (by simp [V.ids])]; exact hi) hn hc hs hcs
  | osl0 a hi => exact .osl0 a (by rw [hι _ (by simp [V.ids])]; exact hi)
  | oref hi him => exact .oref (by rw [hι _ (by simp [V.ids])]; exact hi) him
  | agg arr hs _ ih =>
    refine .agg arr (by rw [renL_length]; exact hs) fun j hj => ?_
    rw [renL_length] at hj
    rw [renL_getD _ _ _ hj]
    exact ih j hj fun id hid => hι id (idsL_getD hj id hid)
  | tup arr hs _ ih =>
    refine .tup arr (by rw [renL_length]; exact hs) fun j hj => ?_
    rw [renL_length] at hj
    rw [renL_getD _ _ _ hj]
    exact ih j hj fun id hid => hι id (idsL_getD hj id hid)
  | fn arr hs _ ih =>
    refine .fn arr (by rw [renL_length]; exact hs) fun j hj => ?_
    rw [renL_length] at hj
    rw [renL_getD _ _ _ hj]
    exact ih j hj fun id hid => hι id (idsL_getD hj id hid)
  | cnd _ hf ih => exact .cnd (fun hc => ih hc hι) hf

theorem OwnB.ren {w : World} {Fr : Nat → Nat → Prop} {ι ι' : Iota} {f : Nat → Nat} {b sz m : Nat} {blk : Blk} (h : OwnB w Fr ι b sz m blk) (hι : ∀ id ∈ blk.ids, ι' (f id) = ι id) :
    OwnB w Fr ι' b sz m (blk.ren f) := by
  cases blk with
  | arr => exact h
  | box cs =>
    obtain ⟨cells, e, hh, hsz, hr⟩ := h
    refine ⟨cells, e, hh, by rw [renL_length]; exact hsz, fun j hj => ?_⟩
    rw [renL_length] at hj
    rw [renL_getD _ _ _ hj]
    exact (hr j hj).ren fun id hid => hι id (idsL_getD hj id hid)

/-- The one name for the other. -/
def swapTo (a b x : Nat) : Nat := match Nat.beq x a with
  | true => b
  | false => x

theorem lk_mapKey {α β : Type} {a b : Nat} (f : α → β) (hab : a ≠ b) : ∀ (l : List (Nat × α)) (k : Nat), lk l b = none →
    lk (l.map fun e => (swapTo a b e.1, f e.2)) k = if k = b then (lk l a).map f else if k = a then none else (lk l k).map f
  | [], k, _ => by simp [lk]
  | (j, x) :: r, k, h => by
    simp only [lk] at h
    cases hjb : Nat.beq j b with
    | true => rw [hjb] at h; simp at h
    | false =>
      rw [hjb] at h
      have ih := lk_mapKey f hab r k h
      have hjb' := natBeqF.1 hjb
      simp only [List.map, lk]
      cases hja : Nat.beq j a with
      | true =>
        have hj := natBeq.1 hja
        subst hj
        have e1 : swapTo j b j = b := by unfold swapTo; rw [hja]
        rw [e1]
        cases hkb : Nat.beq b k with
        | true =>
          have := natBeq.1 hkb
          subst this
          simp
        | false =>
          have hk : k ≠ b := fun e => natBeqF.1 hkb e.symm
          simp only [ih, hk, if_false]
          by_cases hkj : k = j
          · simp [hkj]
          · simp only [hkj, if_false]
            rw [natBeqF.2 (fun e => hkj e.symm)]
      | false =>
        have hja' := natBeqF.1 hja
        have e1 : swapTo a b j = j := by unfold swapTo; rw [hja]
        rw [e1]
        cases hjk : Nat.beq j k with
        | true =>
          have := natBeq.1 hjk
          subst this
          simp [hjb', hja']
        | false => simp only [ih]

theorem Rel.renId {g : G} {s : AS} {act : Act} {w : World} {ι : Iota} {Fr : Nat → Nat → Prop} (h : Rel g s act w ι Fr) {a b : Nat} (hab : a ≠ b) (ha : 64 ≤ a) (hf : FreshId s b) :
    Rel g (Go.Av.renId a b s) act w (fun k => if k = b then ι a else ι k) Fr := by
  have hren : Go.Av.renId a b s = ⟨s.T.map fun e => (e.1, e.2.ren (swapTo a b)), s.S.map fun e => (swapTo a b e.1, e.2.ren (swapTo a b))⟩ := rfl
  have hsw : ∀ id, id ≠ b → (fun k => if k = b then ι a else ι k) (swapTo a b id) = ι id := by
    intro id hid
    unfold swapTo
    cases hb : Nat.beq id a with
    | true => have := natBeq.1 hb; subst this; simp
    | false => simp [hid]
  have hnot : ∀ {v : V}, V.ment (fun k => Nat.beq k b) v = false → ∀ id ∈ v.ids, id ≠ b := fun {v} hm id hid e => by
    subst e
    rw [ids_ment v id hid (fun k => Nat.beq k id) (natBeq.2 rfl)] at hm; simp at hm
  have hnotB : ∀ {blk : Blk}, blk.ment (fun k => Nat.beq k b) = false → ∀ id ∈ blk.ids, id ≠ b := by
    intro blk hm id hid
    cases blk with
    | arr => simp [Blk.ids] at hid
    | box cs => exact hnot (v := .agg cs) hm id hid
  -- a block under its new name
  have hS : ∀ k blk, lk (Go.Av.renId a b s).S k = some blk → ∃ k0 blk0, lk s.S k0 = some blk0 ∧ blk = blk0.ren (swapTo a b) ∧ k0 ≠ b ∧ (if k = b then ι a else ι k) = ι k0 ∧ ((k = b ∧ k0 = a) ∨ (k = k0 ∧ k ≠ b ∧ k ≠ a)) := by
    intro k blk hl
    rw [hren] at hl
    simp only [] at hl
    rw [lk_mapKey (Blk.ren (swapTo a b)) hab _ _ hf.no] at hl
    split at hl
    · rename_i hk
      cases hla : lk s.S a with
      | none => rw [hla] at hl; simp at hl
      | some b0 => rw [hla] at hl; simp at hl; exact ⟨a, b0, hla, hl.symm, hab, by simp [hk], .inl ⟨hk, rfl⟩⟩
    · rename_i hk
      split at hl
      · simp at hl
      · rename_i hka
        cases hla : lk s.S k with
        | none => rw [hla] at hl; simp at hl
        | some b0 => rw [hla] at hl; simp at hl; exact ⟨k, b0, hla, hl.symm, hk, by simp [hk], .inr ⟨rfl, hk, hka⟩⟩
  refine
    { h with
      tmp := ?_, own := ?_, nob := ?_, inj := ?_, fr := ?_ }
  · intro t v ht
    rw [hren] at ht
    simp only [] at ht
    rw [lk_map (V.ren (swapTo a b))] at ht
    cases hl : lk s.T t with
    | none => rw [hl] at ht; simp at ht
    | some u =>
      rw [hl] at ht
      simp at ht
      subst ht
      exact (h.tmp t u hl).ren fun id hid => hsw id (hnot (hf.T t u hl) id hid)
  · intro k blk b' sz m hl hi
    obtain ⟨k0, blk0, hl0, rfl, hk0, hik, hor⟩ := hS k blk hl
    rw [hik] at hi
    obtain ⟨h1, h2⟩ := h.own k0 blk0 b' sz m hl0 hi
    refine ⟨h1.ren fun id hid => hsw id (hnotB (hf.S k0 blk0 hl0) id hid), ?_⟩
    rcases hor with ⟨_, rfl⟩ | ⟨rfl, _, _⟩
    · rcases h2 with h2 | h2
      · exact .inl h2
      · omega
    · exact h2
  · intro k blk hl hi
    obtain ⟨k0, blk0, hl0, rfl, hk0, hik, _⟩ := hS k blk hl
    rw [hik] at hi
    obtain ⟨sz, hh, te, rfl⟩ := h.nob k0 blk0 hl0 hi
    exact ⟨sz, hh, te, rfl⟩
  · intro k k' c c' r r' h1 h2 h3 h4 h5
    obtain ⟨k0, b0, hl0, _, hk0, hik, hor⟩ := hS k c h1
    obtain ⟨k1, b1, hl1, _, hk1, hik1, hor1⟩ := hS k' c' h2
    rw [hik] at h3
    rw [hik1] at h4
    have := h.inj k0 k1 b0 b1 r r' hl0 hl1 h3 h4 h5
    subst this
    rcases hor with ⟨rfl, e1⟩ | ⟨rfl, e1, e2⟩ <;> rcases hor1 with ⟨rfl, e3⟩ | ⟨rfl, e3, e4⟩
    · rfl
    · exact absurd e1 e4
    · exact absurd e3 e2
    · rfl
  · intro t k hfk
    refine ⟨(h.fr t k hfk).1, (h.fr t k hfk).2.1, ?_⟩
    intro k' c r hl hi
    obtain ⟨k0, b0, hl0, _, _, hik, _⟩ := hS k' c hl
    rw [hik] at hi
    exact (h.fr t k hfk).2.2 k0 b0 r hl0 hi

theorem sle_moveId (a b : Nat) (s : AS) : SLe s (moveId a b s) := by
  constructor
  intro g act w ι Fr h
  unfold moveId
  cases hab : Nat.beq a b with
  | true => exact ⟨ι, Fr, h⟩
  | false =>
    cases ha : Nat.blt a 64 with
    | true => exact ⟨ι, Fr, h⟩
    | false =>
      have ha' : 64 ≤ a := by
        rcases Nat.lt_or_ge a 64 with hlt | hge
        · have : Nat.blt a 64 = true := Nat.ble_eq_true_of_le hlt
          rw [this] at ha; simp at ha
        · exact hge
      exact ⟨_, Fr, (h.purge _).renId (natBeqF.1 hab) ha' (purge_fresh (natBeq.2 rfl))⟩

/-- A slot told anew. -/
theorem Rel.tell {g : G} {s : AS} {a : Act} {w : World} {ι : Iota} {Fr : Nat → Nat → Prop} (h : Rel g s a w ι Fr) {t : Nat} {v : V} (hv : TRep w Fr ι v (a.tmps.getD t Go.undef)) :
    Rel g { s with T := Go.Av.put s.T t v } a w ι Fr :=
  { h with
    tmp := fun k u hk => by
      simp only [lk_put] at hk
      split at hk
      · rename_i e
        have : v = u := Option.some.inj hk
        rw [e, ← this]; exact hv
      · exact h.tmp k u hk }

theorem nil_inv {w : World} {Fr : Nat → Nat → Prop} {ι : Iota} {x : Value} (h : TRep w Fr ι .nil x) : ∃ a, x = .slice a 0 0 := by
  cases h with
  | atom _ hp => cases hp; exact ⟨_, rfl⟩

theorem canonT_ge (t : Nat) : 64 ≤ canonT t := by unfold canonT; omega

theorem sle_ownT (t sz : Nat) (s : AS) : SLe s (ownT t sz s) := by
  constructor
  intro g a w ι Fr h
  unfold ownT
  split
  · exact (sle_moveId _ _ s).le g a w ι Fr h
  · rename_i hl
    obtain ⟨ad, hx⟩ := nil_inv (h.tmp t _ hl)
    have h1 := (h.purge (fun x => Nat.beq x (canonT t))).addNil (id := canonT t) (purge_fresh (natBeq.2 rfl)) (sz := sz) (te := tagS) (f := fun _ => .undef)
    exact ⟨_, _, h1.tell (t := t) (v := .osl (canonT t) 0) (by rw [hx]; exact .osl0 ad (by simp [updI]))⟩
  · exact ⟨ι, Fr, h⟩

theorem sle_ownB (id i sz : Nat) (s : AS) : SLe s (ownB id i sz s) := by
  constructor
  intro g a w ι Fr h
  unfold ownB
  split
  · rename_i cs hl
    split
    · exact (sle_moveId _ _ s).le g a w ι Fr h
    · rename_i hci
      have hp := h.purge (fun x => Nat.beq x (canonB id i))
      simp only []
      split
      · rename_i cs1 hl1
        have hfr := purge_fresh (p := fun x => Nat.beq x (canonB id i)) (s := s) (id := canonB id i) (natBeq.2 rfl)
        have hne : id ≠ canonB id i := fun e => by
          have := (lk_purgeS hl1).1
          rw [natBeq.2 e] at this; simp at this
        have h1 := hp.addNil (id := canonB id i) hfr (sz := sz) (te := tagS) (f := fun _ => .undef)
        have hl2 : lk (put (purge (fun x => Nat.beq x (canonB id i)) s).S (canonB id i) (.arr sz 0 (fun _ => .undef) tagS)) id = some (.box cs1) := by
          rw [lk_put]; simp [hne, hl1]
        cases hi : updI ι (canonB id i) none id with
        | none =>
          obtain ⟨_, _, _, hb⟩ := h1.nob id _ hl2 hi
          cases hb
        | some r =>
          obtain ⟨b, z, m⟩ := r
          obtain ⟨hown, _⟩ := h1.own id _ b z m hl2 hi
          obtain ⟨cells, e, hh, hsz, hr⟩ := hown
          have hcs1 : cs1[i]? = some .nil := by
            obtain ⟨_, b', hb', hc⟩ := lk_purgeS hl1
            rw [hl] at hb'
            have : Blk.box cs = b' := Option.some.inj hb'
            subst this
            have : cs1 = cs.map (offIf fun x => Nat.beq x (canonB id i)) := by injection hc
            rw [this]
            simp [hci, offIf, V.ment]
          have hilt : i < cs1.length := (List.getElem?_eq_some_iff.1 hcs1).1
          have hnew : OwnB w Fr (updI ι (canonB id i) none) b z m (.box (cs1.set i (.osl (canonB id i) 0))) := by
            refine ⟨cells, e, hh, by simpa using hsz, fun j hj => ?_⟩
            have hj' : j < cs1.length := by simpa using hj
            have hrj := hr j hj'
            by_cases hij : i = j
            · subst hij
              have e1 : (cs1.set i (.osl (canonB id i) 0)).getD i .undef = .osl (canonB id i) 0 := by simp [List.getD, hilt]
              have e2 : cs1.getD i .undef = .nil := by simp [List.getD, hcs1]
              rw [e1]
              rw [e2] at hrj
              obtain ⟨ad, hx⟩ := nil_inv hrj
              rw [hx]
              exact .osl0 ad (by simp [updI])
            · have e1 : (cs1.set i (.osl (canonB id i) 0)).getD j .undef = cs1.getD j .undef := by simp [List.getD, List.getElem?_set_ne hij]
              rw [e1]; exact hrj
          have h2 := h1.setOwn (w' := w) (new := .box (cs1.set i (.osl (canonB id i) 0))) hl2 hi rfl rfl rfl rfl (fun _ _ => rfl) (fun _ _ hs => hs) hnew
          refine ⟨_, _, h2.congr (fun _ => rfl) fun k => ?_⟩
          simp only [lk_put]
          by_cases hk : k = canonB id i
          · subst hk
            simp only [if_true]
            rw [if_neg (fun e => hne e.symm)]
          · simp only [hk, if_false]
      · exact ⟨ι, Fr, hp⟩
    · exact ⟨ι, Fr, h⟩
  · exact ⟨ι, Fr, h⟩

theorem sle_ownTs : ∀ (l : List (Nat × Option Nat)) (s : AS), SLe s (ownTs l s)
  | [], s => SLe.refl s
  | (t, some sz) :: r, s => (sle_ownT t sz s).trans (sle_ownTs r _)
  | (_, none) :: r, s => sle_ownTs r s

theorem sle_ownBs1 (id : Nat) : ∀ (l : List (Nat × Nat)) (s : AS), SLe s (ownBs1 id l s)
  | [], s => SLe.refl s
  | (i, sz) :: r, s => (sle_ownB id i sz s).trans (sle_ownBs1 id r _)

theorem sle_ownBs : ∀ (l : List (Nat × List (Nat × Nat))) (s : AS), SLe s (ownBs l s)
  | [], s => SLe.refl s
  | (id, l) :: r, s => (sle_ownBs1 id l s).trans (sle_ownBs r _)

theorem lk_pickT {T : List (Nat × V)} : ∀ {l : List (Nat × Option Nat)} {t : Nat} {v : V}, lk (pickT T l) t = some v → lk T t = some v
  | [], _, _, h => by simp [pickT, lk] at h
  | (k, _) :: r, t, v, h => by
    simp only [pickT] at h
    split at h
    · rename_i u hu
      simp only [lk] at h
      split at h
      · rename_i hk
        rw [← natBeq.1 hk, hu]; exact h
      · exact lk_pickT h
    · exact lk_pickT h

theorem lk_pickS {S : List (Nat × Blk)} : ∀ {l : List Nat} {t : Nat} {v : Blk}, lk (pickS S l) t = some v → lk S t = some v
  | [], _, _, h => by simp [pickS, lk] at h
  | k :: r, t, v, h => by
    simp only [pickS] at h
    split at h
    · rename_i u hu
      simp only [lk] at h
      split at h
      · rename_i hk
        rw [← natBeq.1 hk, hu]; exact h
      · exact lk_pickS h
    · exact lk_pickS h

theorem sle_maskTo (l : LK) (s : AS) : SLe s (maskTo l s) := by
  refine ((sle_ownTs l.ts s).trans (sle_ownBs l.bs _)).trans ⟨?_⟩
  intro g a w ι Fr h
  exact ⟨ι, Fr, h.less (fun _ _ ht => lk_pickT ht) fun _ _ hl => lk_pickS hl⟩

theorem sle_mask (cx : Cx) (c : Code) (s : AS) : SLe s (mask cx c s) := by
  unfold mask
  split
  · exact sle_maskTo _ s
  · exact SLe.refl s

end Go.Av
