/- From the condition of a body to what is told of the call. -/
import Derived.Test.YtnfelcpanphhlaaA7b
namespace Go.Av

/-- Wherever the first value tells the truth, the second does. -/
structure VLe (v v' : V) : Prop where
  le : ∀ (w : World) (Fr : Nat → Nat → Prop) (ι : Iota) (x : Value), (∀ b, ¬ Fr tagS b) → (∀ t b, Fr t b → Fr 0 b) → TRep w Fr ι v x → TRep w Fr ι v' x

theorem VLe.refl (v : V) : VLe v v := ⟨fun _ _ _ _ _ _ h => h⟩
theorem VLe.trans {a b c : V} (h : VLe a b) (h' : VLe b c) : VLe a c := ⟨fun w Fr ι x h1 h2 h3 => h'.le w Fr ι x h1 h2 (h.le w Fr ι x h1 h2 h3)⟩

/-- The whole of a call: from its arguments to what it tells. (The elaborator leaves it closed; the kernel opens it.) -/
@[irreducible] def bodyP (cx : Cx) (fn : Func) (pol : Nat) (args : List V) (K : V → Prop) : Prop :=
  match fn.body with
  | some c => awp cx c (fun e s =>
      match e with
      | .normal => match resV cx.tt s fn.results.toList with
        | some r => K (exportV pol s r)
        | none => False
      | .ret => match resV cx.tt s fn.results.toList with
        | some r => K (exportV pol s r)
        | none => False
      | _ => False) ⟨enterT args 0, []⟩
  | none => False

/-! ### What is told of a result -/
theorem prep_free {w : World} {A A' : Nat → Prop} {u : V} {x : Value} (h : PRep w A u x) (ht : tagOfA u = none) (hp : isP u = true) : PRep w A' u x := by
  cases h with
  | int => exact .int _ _
  | bool => exact .bool _
  | str => exact .str _
  | nil => exact .nil _
  | sl0 => simp [tagOfA] at ht
  | sl => simp [tagOfA] at ht
  | ptr => simp [tagOfA] at ht
  | agg => simp [isP] at hp
  | tup => simp [isP] at hp
  | fn => simp [isP] at hp
  | undef => exact .undef _

section
variable {g : G} {s : AS} {a : Act} {w : World} {ι : Iota} {Fr : Nat → Nat → Prop} (h : Rel g s a w ι Fr) {A : Nat → Prop} {lim c : Nat} (hA : ∀ t b, lim ≤ t → Fr t b → A b)
  (hO : ∀ id blk r, 64 ≤ id → lk s.S id = some blk → ι id = some r → A r.1)
include h hA hO

theorem frzXA_prep {v : V} {x : Value} (hv : TRep w Fr ι v x) : PRep w A (frzXA s.S lim c v) x := by
  cases hv with
  | atom hp hr =>
    cases hr with
    | int => exact .int _ _
    | bool => exact .bool _
    | str => exact .str _
    | nil => exact .nil _
    | sl0 =>
      simp only [frzXA]
      split
      · exact .sl0 _ _ _ _
      · exact .undef _
    | sl cv hA' hcap hsz hc hr =>
      simp only [frzXA]
      split
      · rename_i hl
        exact (PRep.sl (t := c) cv hA' hcap hsz hc hr).weaken fun b hb => hA _ b (Nat.le_of_ble_eq_true hl) hb
      · exact .undef _
    | ptr cv hA' hc hr =>
      simp only [frzXA]
      split
      · rename_i hl
        exact (PRep.ptr (t := c) cv hA' hc hr).weaken fun b hb => hA _ b (Nat.le_of_ble_eq_true hl) hb
      · exact .undef _
    | agg => simp [isP] at hp
    | tup => simp [isP] at hp
    | fn => simp [isP] at hp
    | undef => exact .undef _
  | osl hi hn hc hs hcs =>
    rename_i id n b sz m cap cz e
    simp only [frzXA]
    split
    · rename_i sz' m' f te hl h64
      split
      · rename_i hlim
        obtain ⟨rfl, rfl, cells, e', hh, hsz, hlen, hr⟩ := (h.own id _ b sz m hl hi).1
        refine .sl (sz := sz') (off := 0) (fun i j => cells.getD (i * sz' + j) Go.undef) (hO id _ _ (Nat.le_of_ble_eq_true h64) hl hi) hc (fun i hin => hlen i (by omega)) (fun i j hin hj => ?_)
          (fun i j hin hj => (hr i j (by omega) hj).weaken (fun b hb => hA _ b (Nat.le_of_ble_eq_true hlim) hb))
        have e1 : i * sz' + sz' = (i + 1) * sz' := by rw [Nat.add_mul, Nat.one_mul]
        have e2 : (i + 1) * sz' ≤ m' * sz' := Nat.mul_le_mul_right _ (by omega)
        rw [Nat.zero_add]; exact cell_of hh (by omega)
      · exact .undef _
    · exact .undef _
  | osl0 a0 hi =>
    simp only [frzXA]
    split
    · split
      · exact .sl0 _ _ _ _
      · exact .undef _
    · exact .undef _
  | oref hi hin =>
    rename_i id i off b sz m
    simp only [frzXA]
    split
    · rename_i sz' m' f te hl h64
      split
      · rename_i hlim
        obtain ⟨rfl, rfl, cells, e', hh, hsz, hlen, hr⟩ := (h.own id _ b sz m hl hi).1
        refine .ptr (base := i * sz') (fun j => cells.getD (i * sz' + j) Go.undef) (hO id _ _ (Nat.le_of_ble_eq_true h64) hl hi) (fun j hj => ?_)
          (fun j hj => (hr i j hin (by rw [← hlen i hin]; exact hj)).weaken (fun b hb => hA _ b (Nat.le_of_ble_eq_true hlim) hb))
        have e1 : i * sz' + sz' = (i + 1) * sz' := by rw [Nat.add_mul, Nat.one_mul]
        have e2 : (i + 1) * sz' ≤ m' * sz' := Nat.mul_le_mul_right _ (by omega)
        rw [hlen i hin] at hj
        exact cell_of hh (by omega)
      · exact .undef _
    · exact .undef _
  | agg => exact .undef _
  | tup => exact .undef _
  | fn => exact .undef _
  | cnd => exact .undef _

omit h hA hO in
theorem frzXA_shape (S : List (Nat × Blk)) (lim c : Nat) (v : V) : isP (frzXA S lim c v) = true ∧ (tagOfA (frzXA S lim c v) = none ∨ tagOfA (frzXA S lim c v) = some c) := by
  cases v with
  | osl id n => simp only [frzXA]; split <;> (try split) <;> simp [isP, tagOfA]
  | oref id i off => simp only [frzXA]; split <;> (try split) <;> simp [isP, tagOfA]
  | sl n g t => simp only [frzXA]; split <;> simp [isP, tagOfA]
  | ptr cs o t => simp only [frzXA]; split <;> simp [isP, tagOfA]
  | _ => simp [frzXA, isP, tagOfA]

omit h hA hO in
theorem trep_of_prep {Fr' : Nat → Nat → Prop} {ι' : Iota} (hF : ∀ b, A b → Fr' c b) {u : V} {x : Value} (hp : isP u = true) (ht : tagOfA u = none ∨ tagOfA u = some c) (hr : PRep w A u x) : TRep w Fr' ι' u x := by
  refine .atom hp ?_
  rcases ht with ht | ht
  · exact prep_free hr ht hp
  · unfold tagD; rw [ht]; exact hr.weaken hF

theorem frzXA_rep {Fr' : Nat → Nat → Prop} {ι' : Iota} (hF : ∀ b, A b → Fr' c b) {v : V} {x : Value} (hv : TRep w Fr ι v x) : TRep w Fr' ι' (frzXA s.S lim c v) x :=
  trep_of_prep hF (frzXA_shape _ _ _ _).1 (frzXA_shape _ _ _ _).2 (frzXA_prep h hA hO hv)

theorem frzXB_rep {Fr' : Nat → Nat → Prop} {ι' : Iota} (hF : ∀ b, A b → Fr' c b) {v : V} {x : Value} (hv : TRep w Fr ι v x) : TRep w Fr' ι' (frzXB s.S lim c v) x := by
  have mp : ∀ {cs : List V} {j : Nat}, j < cs.length → (cs.map (frzXA s.S lim c)).getD j .undef = frzXA s.S lim c (cs.getD j .undef) := fun hj => by simp [List.getD, hj]
  cases v with
  | agg cs =>
    cases hv with
    | atom hp _ => simp [isP] at hp
    | agg arr hs hr =>
      refine .agg arr (by simpa using hs) fun j hj => ?_
      have hj' : j < cs.length := by simpa using hj
      rw [mp hj']
      exact frzXA_rep h hA hO hF (hr j hj')
  | fn f cs =>
    cases hv with
    | atom hp _ => simp [isP] at hp
    | fn arr hs hr =>
      refine .fn arr (by simpa using hs) fun j hj => ?_
      have hj' : j < cs.length := by simpa using hj
      rw [mp hj']
      exact frzXA_rep h hA hO hF (hr j hj')
  | oref id i off =>
    simp only [frzXB]
    split
    · rename_i cs hl h64
      split
      · cases hv with
        | atom hp _ => simp [isP] at hp
        | oref hi him =>
          rename_i b sz m
          obtain ⟨cells, e, hh, hsz, hr⟩ := (h.own id _ b sz m hl hi).1
          refine trep_of_prep (A := A) (c := c) hF rfl (.inr rfl) ?_
          rw [Nat.zero_mul]
          refine PRep.ptr (base := 0) (fun j => cells.getD j Go.undef) (hO id _ _ (Nat.le_of_ble_eq_true h64) hl hi) (fun j hj => ?_) (fun j hj => ?_)
          · have hj' : j < cs.length := by simpa using hj
            rw [Nat.zero_add]; exact cell_of hh (by omega)
          · have hj' : j < cs.length := by simpa using hj
            rw [mp hj']
            exact frzXA_prep h hA hO (hr j hj')
      · exact .atom rfl (.undef _)
    · exact frzXA_rep h hA hO hF hv
  | _ => exact frzXA_rep h hA hO hF hv

theorem frzX_rep {Fr' : Nat → Nat → Prop} {ι' : Iota} (hF : ∀ b, A b → Fr' c b) {v : V} {x : Value} (hv : TRep w Fr ι v x) : TRep w Fr' ι' (frzX s.S lim c v) x := by
  cases v with
  | tup vs =>
    cases hv with
    | atom hp _ => simp [isP] at hp
    | tup arr hs hr =>
      refine .tup arr (by simpa using hs) fun j hj => ?_
      have hj' : j < vs.length := by simpa using hj
      have e1 : (vs.map (frzXB s.S lim c)).getD j .undef = frzXB s.S lim c (vs.getD j .undef) := by simp [List.getD, hj']
      rw [e1]
      exact frzXB_rep h hA hO hF (hr j hj')
  | _ => exact frzXB_rep h hA hO hF hv

end

/-- What may be read behind a call without blocks: all that is not kept from it. -/
def outFr (w w' : World) (X0 : Nat → Prop) : Nat → Nat → Prop := fun t b => t ≠ tagS ∧ b < w'.heap.size ∧ ¬ X0 b ∧ (2 ≤ t → w.heap.size ≤ b)

theorem export_rep {g : G} {s : AS} {a : Act} {w : World} {ι : Iota} {Fr : Nat → Nat → Prop} (h : Rel g s a w ι Fr) (pol : Nat) {v : V} {x : Value} (hv : TRep w Fr ι v x) {ι' : Iota} :
    TRep w (outFr g.w0 w g.X0) ι' (exportV pol s v) x := by
  have hnx : ∀ b, g.w0.heap.size ≤ b → ¬ g.X0 b := fun b hb hx => by have := (h.x0 b hx).1; omega
  have hO : ∀ id blk r, 64 ≤ id → lk s.S id = some blk → ι id = some r → r.1 < w.heap.size ∧ ¬ g.X0 r.1 ∧ g.w0.heap.size ≤ r.1 := by
    intro id blk r h64 hl hi
    obtain ⟨b, sz, m⟩ := r
    obtain ⟨h1, h2⟩ := h.own id blk b sz m hl hi
    have hb : g.w0.heap.size ≤ b := by
      rcases h2 with h2 | h2
      · exact h2
      · omega
    exact ⟨h1.lt, hnx b hb, hb⟩
  unfold exportV
  split
  · refine frzX_rep h (A := fun b => b < w.heap.size ∧ ¬ g.X0 b) (fun t b _ hf => ⟨(h.fr t b hf).1, (h.fr t b hf).2.1⟩) (fun id blk r h64 hl hi => ⟨(hO id blk r h64 hl hi).1, (hO id blk r h64 hl hi).2.1⟩) ?_ hv
    intro b hb
    exact ⟨by decide, hb.1, hb.2, fun h2 => by omega⟩
  · refine frzX_rep h (A := fun b => b < w.heap.size ∧ ¬ g.X0 b ∧ g.w0.heap.size ≤ b) (fun t b ht hf => ⟨(h.fr t b hf).1, (h.fr t b hf).2.1, h.fr2 t b ht hf⟩) hO ?_ hv
    intro b hb
    exact ⟨by decide, hb.1, hb.2.1, fun _ => hb.2.2⟩

/-! ### Results -/
theorem resOne_run {P : Program} {cx : Cx} (hT : TabOk P cx.tt) {g : G} {s : AS} {a : Act} {w : World} {ι : Iota} {Fr : Nat → Nat → Prop} (h : Rel g s a w ι Fr) {F : ResultVar → Sem Value}
    (h1 : ∀ t, F (.tmp t) = pure (a.tmps.getD t Go.undef)) (h2 : ∀ b t, F (.cell b t) = do loadVar t (← asAddr (a.tmps.getD b Go.undef))) {x : ResultVar} {v : V} (hv : resOne cx.tt s x = some v) :
    ∃ y, (F x).run P w = .ok y w ∧ TRep w Fr ι v y := by
  have hval : ∀ t, TRep w Fr ι (aval s (.tmp t)) (a.tmps.getD t Go.undef) := fun t => by
    have := aval_rep h (.tmp t)
    simpa [Act.eval] using this
  cases x with
  | tmp t =>
    simp only [resOne, Option.some.injEq] at hv
    subst hv
    exact ⟨_, by rw [h1]; rfl, hval t⟩
  | cell b t =>
    simp only [resOne] at hv
    split at hv
    · rename_i ti hti
      split at hv
      · rename_i v' upd rd he
        simp only [Option.some.injEq] at hv
        subst hv
        obtain ⟨_, y, hy, hrep⟩ := load_sim (P := P) hT h hti he (fun q hq => by simp at hq) (hval b)
        refine ⟨y, ?_, hrep⟩
        have hp : ∃ ad, a.tmps.getD b Go.undef = .pointer (some ad) := by
          have hb := hval b
          generalize a.tmps.getD b Go.undef = xb at hb
          generalize aval s (.tmp b) = vb at hb he
          cases hb with
          | atom hv hr =>
            cases hr with
            | ptr => exact ⟨_, rfl⟩
            | agg => simp [isP] at hv
            | tup => simp [isP] at hv
            | fn => simp [isP] at hv
            | _ => simp [loadV] at he
          | oref => exact ⟨_, rfl⟩
          | _ => simp [loadV] at he
        obtain ⟨ad, had⟩ := hp
        rw [h2, had]
        rw [had] at hy
        simpa [Instr.loadAt, Instr.sureAddr, asAddr] using hy
      · simp at hv
    · simp at hv

theorem resL_run {P : Program} {cx : Cx} (hT : TabOk P cx.tt) {g : G} {s : AS} {a : Act} {w : World} {ι : Iota} {Fr : Nat → Nat → Prop} (h : Rel g s a w ι Fr) {F : ResultVar → Sem Value}
    (h1 : ∀ t, F (.tmp t) = pure (a.tmps.getD t Go.undef)) (h2 : ∀ b t, F (.cell b t) = do loadVar t (← asAddr (a.tmps.getD b Go.undef))) : ∀ {l : List ResultVar} {vs : List V}, resL cx.tt s l = some vs →
    ∃ ys, (l.mapM F).run P w = .ok ys w ∧ ys.length = vs.length ∧ ∀ j, j < vs.length → TRep w Fr ι (vs.getD j .undef) (ys.getD j Go.undef)
  | [], vs, hv => by
    simp only [resL, Option.some.injEq] at hv
    subst hv
    exact ⟨[], rfl, rfl, fun j hj => by simp at hj⟩
  | x :: r, vs, hv => by
    simp only [resL] at hv
    split at hv
    · rename_i v l hx hl
      simp only [Option.some.injEq] at hv
      subst hv
      obtain ⟨y, hy, hyr⟩ := resOne_run hT h h1 h2 hx
      obtain ⟨ys, hys, hlen, hr⟩ := resL_run hT h h1 h2 hl
      refine ⟨y :: ys, by simp only [List.mapM_cons, Sem.run_bind, Sem.run_pure, Result.andThen_ok, hy, hys], by simp [hlen], fun j hj => ?_⟩
      cases j with
      | zero => simpa using hyr
      | succ j => simpa using hr j (by simpa using hj)
    · simp at hv

theorem resV_run {P : Program} {cx : Cx} (hT : TabOk P cx.tt) {g : G} {s : AS} {a : Act} {w : World} {ι : Iota} {Fr : Nat → Nat → Prop} (h : Rel g s a w ι Fr) {fn : Func} {r : V} (hr : resV cx.tt s fn.results.toList = some r) :
    ∃ v, (results fn a.tmps).run P w = .ok v w ∧ TRep w Fr ι r v := by
  unfold resV at hr
  cases hl : resL cx.tt s fn.results.toList with
  | none => rw [hl] at hr; simp at hr
  | some vs =>
    have key : ∀ F : ResultVar → Sem Value, (∀ t, F (.tmp t) = pure (a.tmps.getD t Go.undef)) → (∀ b t, F (.cell b t) = do loadVar t (← asAddr (a.tmps.getD b Go.undef))) →
        ∃ v, ((((fn.results.toList.mapM F).run P w).andThen fun a w' => Result.ok a.toArray w').andThen fun a w' => (pure (if h : a.size = 1 then a[0] else Value.tuple a) : Sem Value).run P w') = .ok v w ∧ TRep w Fr ι r v := by
      intro F h1 h2
      obtain ⟨ys, hys, hlen, hrep⟩ := resL_run hT h h1 h2 hl
      refine ⟨if hh : ys.toArray.size = 1 then ys.toArray[0] else .tuple ys.toArray, by rw [hys]; rfl, ?_⟩
      rw [hl] at hr
      split at hr
      · rename_i v e1
        simp only [Option.some.injEq] at hr e1
        subst e1; subst hr
        match ys, hlen, hrep with
        | [y], _, hrep => simpa using hrep 0 (by simp)
      · rename_i l hne e1
        simp only [Option.some.injEq] at hr e1
        subst e1; subst hr
        have hlen1 : vs.length ≠ 1 := fun e => by
          match vs, e with
          | [t], _ => exact hne t rfl
        rw [dif_neg (by simpa [hlen] using hlen1)]
        refine .tup _ (by simp [hlen]) fun j hj => ?_
        have := hrep j hj
        have e2 : ys.toArray.getD j Go.undef = ys.getD j Go.undef := by simp [Array.getD_eq_getD_getElem?, List.getD]
        rw [e2]; exact this
      · simp at hr
    unfold results
    rw [Array.mapM_eq_mapM_toList]
    simp only [Sem.run_bind, Sem.run_map]
    exact key _ (fun _ => rfl) (fun _ _ => rfl)

end Go.Av
