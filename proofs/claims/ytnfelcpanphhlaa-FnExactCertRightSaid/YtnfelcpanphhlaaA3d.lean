/- Operations that leave memory alone, all of them in one statement. -/
import Derived.Test.YtnfelcpanphhlaaA3c
namespace Go.Av

section
variable {P : Program} {tt : TT} (hT : TabOk P tt)

/-- A bound of a slice expression, and what the machine has for it. -/
def BRep (lo : Option V) (v : Option Value) : Prop := ∀ b, boundV lo = some b → (v = none ∧ b = none) ∨ ∃ k i, v = some (.int k i) ∧ b = some i

theorem brep {w : World} {Fr : Nat → Nat → Prop} {ι : Iota} {x : Option Operand} {ρ : Operand → V} {ev : Operand → Value} (h : ∀ o, x = some o → TRep w Fr ι (ρ o) (ev o)) : BRep (x.map ρ) (x.map ev) := by
  intro b hb
  cases x with
  | none => simp only [Option.map_none, boundV, Option.some.injEq] at hb; exact .inl ⟨rfl, hb.symm⟩
  | some o =>
    have hr := h o rfl
    simp only [Option.map_some] at hb ⊢
    cases hv : ρ o with
    | int k i =>
      rw [hv] at hb hr
      simp only [boundV, Option.some.injEq] at hb
      exact .inr ⟨k, i, by rw [inv_int hr], hb.symm⟩
    | _ => rw [hv] at hb; simp [boundV] at hb

theorem run_bound {w : World} {k : IntKind} {i : Int} {y : Nat} {c : BoundsCode} (h0 : 0 ≤ i) (h1 : i ≤ (y : Int)) : (Instr.sliceBound (.int k i) y c).run P w = .ok i.toNat w := by
  unfold Instr.sliceBound asIntOf
  simp [h0, h1]

theorem run_bounds {w : World} {isS : Bool} {len cap : Nat} {lo hi : Option V} {vlo vhi : Option Value} {l h : Option Int} (h1 : boundV lo = some l) (h2 : boundV hi = some h)
    (r1 : BRep lo vlo) (r2 : BRep hi vhi) (hl : 0 ≤ l.getD 0) (hlh : l.getD 0 ≤ h.getD len) (hh : h.getD (len : Int) ≤ (cap : Int)) :
    (Instr.sliceBounds isS len cap vlo vhi none).run P w = .ok ((l.getD 0).toNat, (h.getD (len : Int)).toNat, cap) w := by
  unfold Instr.sliceBounds
  rcases r1 l h1 with ⟨rfl, rfl⟩ | ⟨k1, i1, rfl, rfl⟩ <;> rcases r2 h h2 with ⟨rfl, rfl⟩ | ⟨k2, i2, rfl, rfl⟩
  · simp
  · simp only [Option.getD_none, Option.getD_some] at *
    simp [run_bound (P := P) (w := w) (k := k2) (y := cap) hlh hh]
  · simp only [Option.getD_none, Option.getD_some] at *
    simp [run_bound (P := P) (w := w) (k := k1) (y := len) hl hlh]
  · simp only [Option.getD_some] at *
    have e2 := run_bound (P := P) (w := w) (k := k2) (i := i2) (y := cap) (c := if isS = true then .sliceAcap else .sliceAlen) (by omega) hh
    have e1 := run_bound (P := P) (w := w) (k := k1) (i := i1) (y := i2.toNat) (c := .sliceB) hl (by omega)
    simp [e1, e2]

include hT in
theorem slice_str {t : Nat} (ht : isStrT tt t = true) {w : World} {s : ByteArray} {lo hi : Option V} {vlo vhi : Option Value} {l h : Option Int} (h1 : boundV lo = some l) (h2 : boundV hi = some h)
    (r1 : BRep lo vlo) (r2 : BRep hi vhi) (hl : 0 ≤ l.getD 0) (hlh : l.getD 0 ≤ h.getD s.size) (hh : h.getD (s.size : Int) ≤ (s.size : Int)) :
    (Instr.sliceAt t (.string s) vlo vhi none).run P w = .ok (.string (s.extract (l.getD 0).toNat (h.getD (s.size : Int)).toNat)) w := by
  have hu := run_strT hT ht w
  unfold Instr.sliceAt Instr.slice
  simp only [Sem.run_bind, hu, Result.andThen_ok, Option.isSome_none, Bool.false_eq_true, if_false, Sem.run_pure, run_bounds (P := P) (w := w) (isS := false) h1 h2 r1 r2 hl hlh hh]

include hT in
theorem slice_sl {t : Nat} {ti : TI} (ht : elemTI tt t = some ti) {w : World} {a : Option Addr} {len cap : Nat} {lo hi : Option V} {vlo vhi : Option Value} {l h : Option Int}
    (h1 : boundV lo = some l) (h2 : boundV hi = some h) (r1 : BRep lo vlo) (r2 : BRep hi vhi) (hl : 0 ≤ l.getD 0) (hlh : l.getD 0 ≤ h.getD len) (hh : h.getD (len : Int) ≤ (cap : Int)) :
    (Instr.sliceAt t (.slice a len cap) vlo vhi none).run P w =
      .ok (.slice (if cap = (l.getD 0).toNat then a else a.map (·.add ((l.getD 0).toNat * ti.size))) ((h.getD (len : Int)).toNat - (l.getD 0).toNat) (cap - (l.getD 0).toNat)) w := by
  obtain ⟨e, hu, he⟩ := run_elem hT ht w
  have hsz := run_size hT he w
  unfold Instr.sliceAt Instr.slice
  simp only [Sem.run_bind, hu, Result.andThen_ok, Sem.run_pure, hsz, run_bounds (P := P) (w := w) (isS := true) h1 h2 r1 r2 hl hlh hh]

include hT in
theorem slice0 {t : Nat} {e : TypeId} {w : World} (hu : (underlying t).run P w = .ok (.slice e) w) {ti : TI} (he : lk tt e = some ti) {a : Option Addr} {len cap : Nat} {vlo : Option Value} {k1 k2 : IntKind} (hlo : vlo = none ∨ ∃ k, vlo = some (.int k 0)) :
    (Instr.sliceAt t (.slice a len cap) vlo (some (.int k1 0)) (some (.int k2 0))).run P w = .ok (.slice a 0 0) w := by
  have hsz := run_size hT he w
  have e1 := run_bound (P := P) (w := w) (k := k2) (i := 0) (y := cap) (c := .slice3Acap) (by omega) (by omega)
  have e2 := run_bound (P := P) (w := w) (k := k1) (i := 0) (y := 0) (c := .slice3B) (by omega) (by omega)
  unfold Instr.sliceAt Instr.slice Instr.sliceBounds
  rcases hlo with rfl | ⟨k, rfl⟩
  · simp [hu, e1, e2, hsz]
  · have e3 := run_bound (P := P) (w := w) (k := k) (i := 0) (y := 0) (c := .slice3C) (by omega) (by omega)
    simp [hu, e1, e2, e3, hsz]

include hT in
theorem sliceV_run {g : G} {s : AS} {ac : Act} {w : World} {Fr : Nat → Nat → Prop} {ι : Iota} (_h : Rel g s ac w ι Fr) {t : Nat} {x : V} {vx : Value} {lo hi mx : Option V} {vlo vhi vmx : Option Value} {e : Ef}
    (he : sliceV tt t x lo hi mx = some e) (ho : ∀ p ∈ e.ob, p) (hx : TRep w Fr ι x vx) (r1 : BRep lo vlo) (r2 : BRep hi vhi) (r3 : BRep mx vmx) (hm : mx = none → vmx = none) :
    e.upd = [] ∧ ∃ z, (Instr.sliceAt t vx vlo vhi vmx).run P w = .ok z w ∧ TRep w Fr ι e.v z := by
  unfold sliceV at he
  split at he
  · rename_i s l h h1 h2
    have := hm rfl
    subst this
    split at he
    · rename_i ht
      simp only [okO, Option.some.injEq] at he
      subst he
      have hob := ho _ (List.mem_singleton.2 rfl)
      have := inv_str hx
      subst this
      exact ⟨rfl, _, slice_str hT ht h1 h2 r1 r2 hob.1 hob.2.1 hob.2.2, .atom rfl (.str _)⟩
    · simp at he
  · rename_i n f tg l h h1 h2
    have := hm rfl
    subst this
    split at he
    · rename_i ti ht hti
      simp only [okO, Option.some.injEq] at he
      subst he
      have hob := ho _ (List.mem_cons_self ..)
      have hsz : sizedL ti.size n f := ho _ (List.mem_cons_of_mem _ (List.mem_singleton.2 rfl))
      cases hx with
      | atom _ hp =>
        generalize hl' : l.getD 0 = l' at hob
        generalize hh' : h.getD (n : Int) = h' at hob
        cases hp with
        | sl0 a cap =>
          have e1 : l' = 0 := by omega
          have e2 : h' = 0 := by omega
          have hrun := slice_sl (P := P) hT hti (w := w) (a := a) (len := 0) (cap := cap) h1 h2 r1 r2 (by rw [hl', e1]; omega) (by rw [hl', hh', e1, e2]; omega) (by rw [hh', e2]; omega)
          refine ⟨rfl, _, hrun, ?_⟩
          rw [hl', hh', e1, e2]
          exact .atom rfl (.sl0 _ _ _ _)
        | @sl _ _ _ b off cap sz cv hA hcap hlen hc hr =>
          have hrun := slice_sl (P := P) hT hti (w := w) (a := some ⟨b, off, none⟩) (len := n) (cap := cap) h1 h2 r1 r2 (by rw [hl']; omega) (by rw [hl', hh']; omega) (by rw [hh']; omega)
          refine ⟨rfl, _, hrun, ?_⟩
          rw [hl', hh']
          by_cases hz : h'.toNat - l'.toNat = 0
          · simp only [hz]; exact .atom rfl (.sl0 _ _ _ _)
          · have hne : ¬ cap = l'.toNat := by omega
            have hs1 : sz = ti.size := by rw [← hlen 0 (by omega)]; exact (hsz 0 (by omega)).1
            subst hs1
            simp only [hne, if_false, Option.map_some, add_none]
            have key : PRep w (Fr tg) (.sl (h'.toNat - l'.toNat) (dropg f l'.toNat) tg) (.slice (some ⟨b, off + l'.toNat * ti.size, none⟩) (h'.toNat - l'.toNat) (cap - l'.toNat)) := by
              refine .sl (sz := ti.size) (fun i j => cv (l'.toNat + i) j) hA (by omega) (fun i hi => hlen _ (by omega)) (fun i j hi hj => ?_) (fun i j hi hj => hr _ j (by omega) hj)
              have e : off + l'.toNat * ti.size + i * ti.size + j = off + (l'.toNat + i) * ti.size + j := by rw [Nat.add_mul]; omega
              rw [e]; exact hc _ j (by omega) hj
            cases l with
            | none =>
              simp only [Option.getD_none] at hl'
              subst hl'
              have : dropg f (0 : Int).toNat = f := by funext i; simp [dropg]
              rw [this] at key
              exact .atom rfl key
            | some l0 => exact .atom rfl key
    · simp at he
  · rename_i id n h h1 h2
    have := hm rfl
    subst this
    split at he
    · rename_i ht
      simp only [okO, Option.some.injEq] at he
      subst he
      have hob := ho _ (List.mem_singleton.2 rfl)
      obtain ⟨el, ti, hti, hu, hel⟩ := run_slT hT ht w
      cases hx with
      | atom hv _ => simp [isP] at hv
      | osl0 a hi =>
        have e2 : h = 0 := by omega
        subst e2
        have hrun := slice_sl (P := P) hT hti (w := w) (a := a) (len := 0) (cap := 0) h1 h2 r1 r2 (by simp) (by simp) (by simp)
        refine ⟨rfl, _, hrun, ?_⟩
        simp
        exact .osl0 _ hi
      | @osl _ _ b sz m cap c e1 hid hn hc hs hcs =>
        have hrun := slice_sl (P := P) hT hti (w := w) (a := some ⟨b, 0, none⟩) (len := n) (cap := cap) h1 h2 r1 r2 (by simp) (by simpa using hob.1) (by simp; omega)
        refine ⟨rfl, _, hrun, ?_⟩
        simp only [Option.getD_none, Option.getD_some, Int.toNat_zero, Nat.zero_mul, Nat.sub_zero, Option.map_some, add_none, Nat.add_zero, ite_self]
        exact .osl hid (by omega) (by omega) hs hcs
    · simp at he
  · rename_i h h1 h2
    have := hm rfl
    subst this
    split at he
    · rename_i ht
      simp only [okO, Option.some.injEq] at he
      subst he
      have e2 : h = 0 := ho _ (List.mem_singleton.2 rfl)
      subst e2
      obtain ⟨el, ti, hti, hu, hel⟩ := run_slT hT ht w
      cases hx with
      | atom _ hp =>
        cases hp with
        | nil a =>
          have hrun := slice_sl (P := P) hT hti (w := w) (a := a) (len := 0) (cap := 0) h1 h2 r1 r2 (by simp) (by simp) (by simp)
          refine ⟨rfl, _, hrun, ?_⟩
          simp
          exact .atom rfl (.nil _)
    · simp at he
  · rename_i x _ _ _ _ lo' k0 h1 h2
    obtain ⟨k1, hk1⟩ : ∃ k, vhi = some (.int k 0) := by
      rcases r2 _ h2 with ⟨_, h⟩ | ⟨k, i, hv, h⟩
      · cases h
      · cases h; exact ⟨k, hv⟩
    obtain ⟨k2, hk2⟩ : ∃ k, vmx = some (.int k 0) := by
      rcases r3 (some 0) rfl with ⟨_, h⟩ | ⟨k, i, hv, h⟩
      · cases h
      · cases h; exact ⟨k, hv⟩
    subst hk1 hk2
    have fin : ∀ a n c, vx = .slice a n c → isSlT tt t = true → (lo' = none ∨ lo' = some 0) → (Instr.sliceAt t vx vlo (some (.int k1 0)) (some (.int k2 0))).run P w = .ok (.slice a 0 0) w := by
      intro a n c hv ht hlo
      subst hv
      obtain ⟨el, ti, hti, hu, hel⟩ := run_slT hT ht w
      refine slice0 (P := P) hT hu hel ?_
      rcases r1 _ h1 with ⟨hv, _⟩ | ⟨k, i, hv, hb⟩
      · exact .inl hv
      · rcases hlo with rfl | rfl
        · cases hb
        · cases hb; exact .inr ⟨k, hv⟩
    have sl : ∀ n f tg, x = .sl n f tg → ∃ a c, vx = .slice a n c := by
      rintro n f tg rfl
      cases hx with
      | atom _ hp => cases hp <;> exact ⟨_, _, rfl⟩
    have osl : ∀ id n, x = .osl id n → ∃ a c, vx = .slice a n c := by
      rintro id n rfl
      cases hx with
      | atom hv _ => simp [isP] at hv
      | osl0 => exact ⟨_, _, rfl⟩
      | osl => exact ⟨_, _, rfl⟩
    have nl : x = .nil → ∃ a c, vx = .slice a 0 c := by
      rintro rfl
      cases hx with
      | atom _ hp => cases hp; exact ⟨_, _, rfl⟩
    split at he <;> simp only [ok, Option.some.injEq, reduceCtorEq] at he <;> subst he
    · rename_i ht; obtain ⟨a, c, hv⟩ := sl _ _ _ rfl; exact ⟨rfl, _, fin _ _ _ hv ht (.inl rfl), .atom rfl (.nil _)⟩
    · rename_i ht; obtain ⟨a, c, hv⟩ := osl _ _ rfl; exact ⟨rfl, _, fin _ _ _ hv ht (.inl rfl), .atom rfl (.nil _)⟩
    · rename_i ht; obtain ⟨a, c, hv⟩ := nl rfl; exact ⟨rfl, _, fin _ _ _ hv ht (.inl rfl), .atom rfl (.nil _)⟩
    · rename_i ht; obtain ⟨a, c, hv⟩ := sl _ _ _ rfl; exact ⟨rfl, _, fin _ _ _ hv ht (.inr rfl), .atom rfl (.nil _)⟩
    · rename_i ht; obtain ⟨a, c, hv⟩ := osl _ _ rfl; exact ⟨rfl, _, fin _ _ _ hv ht (.inr rfl), .atom rfl (.nil _)⟩
    · rename_i ht; obtain ⟨a, c, hv⟩ := nl rfl; exact ⟨rfl, _, fin _ _ _ hv ht (.inr rfl), .atom rfl (.nil _)⟩
  · simp at he


theorem maxV_run {w : World} {Fr : Nat → Nat → Prop} {ι : Iota} {x y z : V} {vx vy : Value} (h : maxV x y = some z) (hx : TRep w Fr ι x vx) (hy : TRep w Fr ι y vy) :
    ∃ u, (Builtin.max2 vx vy).run P w = .ok u w ∧ TRep w Fr ι z u := by
  unfold maxV at h
  split at h
  · have hx' := inv_int hx
    have hy' := inv_int hy
    subst hx' hy'
    split at h
    · simp only [Option.some.injEq] at h
      subst h
      exact ⟨_, rfl, .atom rfl (.int _ _)⟩
    · simp at h
  · simp at h

theorem minV_run {w : World} {Fr : Nat → Nat → Prop} {ι : Iota} {x y z : V} {vx vy : Value} (h : minV x y = some z) (hx : TRep w Fr ι x vx) (hy : TRep w Fr ι y vy) :
    ∃ u, (Builtin.min2 vx vy).run P w = .ok u w ∧ TRep w Fr ι z u := by
  unfold minV at h
  split at h
  · have hx' := inv_int hx
    have hy' := inv_int hy
    subst hx' hy'
    split at h
    · simp only [Option.some.injEq] at h
      subst h
      exact ⟨_, rfl, .atom rfl (.int _ _)⟩
    · simp at h
  · simp at h

theorem fold_run {w : World} {Fr : Nat → Nat → Prop} {ι : Iota} {f : V → V → Option V} {m : Value → Value → Sem Value}
    (hf : ∀ x y z vx vy, f x y = some z → TRep w Fr ι x vx → TRep w Fr ι y vy → ∃ u, (m vx vy).run P w = .ok u w ∧ TRep w Fr ι z u) :
    ∀ (l : List V) (vl : List Value) (x z : V) (vx : Value), foldV f x l = some z → TRep w Fr ι x vx → l.length = vl.length → (∀ j, j < l.length → TRep w Fr ι (l.getD j .undef) (vl.getD j Go.undef)) →
      ∃ u, (vl.foldlM m vx).run P w = .ok u w ∧ TRep w Fr ι z u
  | [], [], x, z, vx, h, hx, _, _ => by
    simp only [foldV, Option.some.injEq] at h
    subst h
    exact ⟨vx, by simp, hx⟩
  | y :: l, vy :: vl, x, z, vx, h, hx, hlen, hr => by
    unfold foldV at h
    split at h
    · rename_i t ht
      obtain ⟨u, hu, hur⟩ := hf _ _ _ _ _ ht hx (by simpa using hr 0 (by simp))
      obtain ⟨u', hu', hur'⟩ := fold_run hf l vl t z u h hur (by simpa using hlen) (fun j hj => by simpa using hr (j + 1) (by simpa using hj))
      exact ⟨u', by simp [hu, hu'], hur'⟩
    · simp at h
  | [], _ :: _, _, _, _, _, _, h, _ => by simp at h
  | _ :: _, [], _, _, _, _, _, h, _ => by simp at h

include hT in
theorem convV_run {w : World} {Fr : Nat → Nat → Prop} {ι : Iota} {src dst : Nat} {x : V} {vx : Value} {e : Ef} (he : convV tt src dst x = some e) (ho : ∀ p ∈ e.ob, p) (hx : TRep w Fr ι x vx) :
    e.upd = [] ∧ ∃ z, (convert src dst vx).run P w = .ok z w ∧ TRep w Fr ι e.v z := by
  unfold convV at he
  split at he
  · rename_i h1 h2
    simp only [okO, Option.some.injEq] at he
    subst he
    have hi := inv_int hx
    subst hi
    have hk := ho _ (List.mem_singleton.2 rfl)
    refine ⟨rfl, _, ?_, .atom rfl (.int _ _)⟩
    unfold convert
    simp only [Sem.run_bind, run_und hT h1, run_und hT h2, Result.andThen_ok, Conv.intToInt]
    rw [hk]; rfl
  · rename_i h1 h2
    simp only [ok, Option.some.injEq] at he
    subst he
    have hi := inv_str hx
    subst hi
    refine ⟨rfl, _, ?_, .atom rfl (.str _)⟩
    unfold convert
    simp [run_und hT h1, run_und hT h2]
  · simp at he

end
end Go.Av
