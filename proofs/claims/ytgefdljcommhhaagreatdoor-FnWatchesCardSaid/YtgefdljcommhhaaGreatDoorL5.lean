/- From the condition of a body to what is told of a call; the law's opening. -/
import Derived.Test.YtgefdljcommhhaaGreatDoorL4
import Derived.Lib.Bytealg
import Derived.DataReads
import Derived.Deep.Slices
import Derived.Below
/- From the condition of a body to what is told of the call. -/
namespace Go.Av

/-- Wherever the first value tells the truth, the second does. -/
structure VLe (v v' : V) : Prop where
  le : ∀ (w : World) (Fr : Nat → Nat → Prop) (ι : Iota) (x : Value), (∀ b, ¬ Fr tagS b) → (∀ t b, Fr t b → Fr 0 b) → TRep w Fr ι v x → TRep w Fr ι v' x

theorem VLe.refl (v : V) : VLe v v := ⟨fun _ _ _ _ _ _ h => h⟩
theorem VLe.trans {a b c : V} (h : VLe a b) (h' : VLe b c) : VLe a c := ⟨fun w Fr ι x h1 h2 h3 => h'.le w Fr ι x h1 h2 (h.le w Fr ι x h1 h2 h3)⟩

/-- The whole of a call: from its arguments to what it tells. (The elaborator leaves it closed; the kernel opens it.) -/
@[irreducible] def bodyP (cx : Cx) (fn : Func) (pol : Nat) (args : List V) (K : V → Prop) : Prop :=
  match fn.body with
  | some c => awp cx c (fun e s =>
      match e with
      | .normal => match resV cx.tt s fn.results.toList with
        | some r => K (exportV pol s r)
        | none => False
      | .ret => match resV cx.tt s fn.results.toList with
        | some r => K (exportV pol s r)
        | none => False
      | _ => False) ⟨enterT args 0, []⟩
  | none => False

/-! ### What is told of a result -/
theorem prep_free {w : World} {A A' : Nat → Prop} {u : V} {x : Value} (h : PRep w A u x) (ht : tagOfA u = none) (hp : isP u = true) : PRep w A' u x := by
  cases h with
  | int => exact .int _ _
  | bool => exact .bool _
  | str => exact .str _
  | nil => exact .nil _
  | sl0 => simp [tagOfA] at ht
  | sl => simp [tagOfA] at ht
  | ptr => simp [tagOfA] at ht
  | agg => simp [isP] at hp
  | tup => simp [isP] at hp
  | fn => simp [isP] at hp
  | undef => exact .undef _

section
variable {g : G} {s : AS} {a : Act} {w : World} {ι : Iota} {Fr : Nat → Nat → Prop} (h : Rel g s a w ι Fr) {A : Nat → Prop} {lim c : Nat} (hA : ∀ t b, lim ≤ t → Fr t b → A b)
  (hO : ∀ id blk r, 64 ≤ id → lk s.S id = some blk → ι id = some r → isC blk = true → A r.1)
include h hA hO

theorem frzXA_prep {v : V} {x : Value} (hv : TRep w Fr ι v x) : PRep w A (frzXA s.S lim c v) x := by
  cases hv with
  | atom hp hr =>
    cases hr with
    | int => exact .int _ _
    | bool => exact .bool _
    | str => exact .str _
    | nil => exact .nil _
    | sl0 =>
      simp only [frzXA]
      split
      · exact .sl0 _ _ _ _
      · exact .undef _
    | sl cv hA' hcap hsz hc hr =>
      simp only [frzXA]
      split
      · rename_i hl
        exact (PRep.sl (t := c) cv hA' hcap hsz hc hr).weaken fun b hb => hA _ b (Nat.le_of_ble_eq_true hl) hb
      · exact .undef _
    | ptr cv hA' hc hr =>
      simp only [frzXA]
      split
      · rename_i hl
        exact (PRep.ptr (t := c) cv hA' hc hr).weaken fun b hb => hA _ b (Nat.le_of_ble_eq_true hl) hb
      · exact .undef _
    | agg => simp [isP] at hp
    | tup => simp [isP] at hp
    | fn => simp [isP] at hp
    | undef => exact .undef _
  | osl hi hn hc hs hcs =>
    rename_i id n b sz m cap cz e
    simp only [frzXA]
    split
    · rename_i sz' m' f te hl h64
      split
      · rename_i hlim
        obtain ⟨rfl, rfl, cells, e', hh, hsz, hlen, hr⟩ := (h.own id _ b sz m hl hi).1
        refine .sl (sz := sz') (off := 0) (fun i j => cells.getD (i * sz' + j) Go.undef) (hO id _ _ (Nat.le_of_ble_eq_true h64) hl hi rfl) hc (fun i hin => hlen i (by omega)) (fun i j hin hj => ?_)
          (fun i j hin hj => (hr i j (by omega) hj).weaken (fun b hb => hA _ b (Nat.le_of_ble_eq_true hlim) hb))
        have e1 : i * sz' + sz' = (i + 1) * sz' := by rw [Nat.add_mul, Nat.one_mul]
        have e2 : (i + 1) * sz' ≤ m' * sz' := Nat.mul_le_mul_right _ (by omega)
        rw [Nat.zero_add]; exact cell_of hh (by omega)
      · exact .undef _
    · exact .undef _
  | osl0 a0 hi =>
    simp only [frzXA]
    split
    · split
      · exact .sl0 _ _ _ _
      · exact .undef _
    · exact .undef _
  | oref hi hin =>
    rename_i id i off b sz m
    simp only [frzXA]
    split
    · rename_i sz' m' f te hl h64
      split
      · rename_i hlim
        obtain ⟨rfl, rfl, cells, e', hh, hsz, hlen, hr⟩ := (h.own id _ b sz m hl hi).1
        refine .ptr (base := i * sz') (fun j => cells.getD (i * sz' + j) Go.undef) (hO id _ _ (Nat.le_of_ble_eq_true h64) hl hi rfl) (fun j hj => ?_)
          (fun j hj => (hr i j hin (by rw [← hlen i hin]; exact hj)).weaken (fun b hb => hA _ b (Nat.le_of_ble_eq_true hlim) hb))
        have e1 : i * sz' + sz' = (i + 1) * sz' := by rw [Nat.add_mul, Nat.one_mul]
        have e2 : (i + 1) * sz' ≤ m' * sz' := Nat.mul_le_mul_right _ (by omega)
        rw [hlen i hin] at hj
        exact cell_of hh (by omega)
      · exact .undef _
    · exact .undef _
  | omap => exact .undef _
  | agg => exact .undef _
  | tup => exact .undef _
  | fn => exact .undef _
  | cnd => exact .undef _

omit h hA hO in
theorem frzXA_shape (S : List (Nat × Blk)) (lim c : Nat) (v : V) : isP (frzXA S lim c v) = true ∧ (tagOfA (frzXA S lim c v) = none ∨ tagOfA (frzXA S lim c v) = some c) := by
  cases v with
  | osl id n => simp only [frzXA]; split <;> (try split) <;> simp [isP, tagOfA]
  | oref id i off => simp only [frzXA]; split <;> (try split) <;> simp [isP, tagOfA]
  | sl n g t => simp only [frzXA]; split <;> simp [isP, tagOfA]
  | ptr cs o t => simp only [frzXA]; split <;> simp [isP, tagOfA]
  | _ => simp [frzXA, isP, tagOfA]

omit h hA hO in
theorem trep_of_prep {Fr' : Nat → Nat → Prop} {ι' : Iota} (hF : ∀ b, A b → Fr' c b) {u : V} {x : Value} (hp : isP u = true) (ht : tagOfA u = none ∨ tagOfA u = some c) (hr : PRep w A u x) : TRep w Fr' ι' u x := by
  refine .atom hp ?_
  rcases ht with ht | ht
  · exact prep_free hr ht hp
  · unfold tagD; rw [ht]; exact hr.weaken hF

theorem frzXA_rep {Fr' : Nat → Nat → Prop} {ι' : Iota} (hF : ∀ b, A b → Fr' c b) {v : V} {x : Value} (hv : TRep w Fr ι v x) : TRep w Fr' ι' (frzXA s.S lim c v) x :=
  trep_of_prep hF (frzXA_shape _ _ _ _).1 (frzXA_shape _ _ _ _).2 (frzXA_prep h hA hO hv)

theorem frzXB_rep {Fr' : Nat → Nat → Prop} {ι' : Iota} (hF : ∀ b, A b → Fr' c b) {v : V} {x : Value} (hv : TRep w Fr ι v x) : TRep w Fr' ι' (frzXB s.S lim c v) x := by
  have mp : ∀ {cs : List V} {j : Nat}, j < cs.length → (cs.map (frzXA s.S lim c)).getD j .undef = frzXA s.S lim c (cs.getD j .undef) := fun hj => by simp [List.getD, hj]
  cases v with
  | agg cs =>
    cases hv with
    | atom hp _ => simp [isP] at hp
    | agg arr hs hr =>
      refine .agg arr (by simpa using hs) fun j hj => ?_
      have hj' : j < cs.length := by simpa using hj
      rw [mp hj']
      exact frzXA_rep h hA hO hF (hr j hj')
  | fn f cs =>
    cases hv with
    | atom hp _ => simp [isP] at hp
    | fn arr hs hr =>
      refine .fn arr (by simpa using hs) fun j hj => ?_
      have hj' : j < cs.length := by simpa using hj
      rw [mp hj']
      exact frzXA_rep h hA hO hF (hr j hj')
  | oref id i off =>
    simp only [frzXB]
    split
    · rename_i cs hl h64
      split
      · cases hv with
        | atom hp _ => simp [isP] at hp
        | oref hi him =>
          rename_i b sz m
          obtain ⟨cells, e, hh, hsz, hr⟩ := (h.own id _ b sz m hl hi).1
          refine trep_of_prep (A := A) (c := c) hF rfl (.inr rfl) ?_
          rw [Nat.zero_mul]
          refine PRep.ptr (base := 0) (fun j => cells.getD j Go.undef) (hO id _ _ (Nat.le_of_ble_eq_true h64) hl hi rfl) (fun j hj => ?_) (fun j hj => ?_)
          · have hj' : j < cs.length := by simpa using hj
            rw [Nat.zero_add]; exact cell_of hh (by omega)
          · have hj' : j < cs.length := by simpa using hj
            rw [mp hj']
            exact frzXA_prep h hA hO (hr j hj')
      · exact .atom rfl (.undef _)
    · exact frzXA_rep h hA hO hF hv
  | _ => exact frzXA_rep h hA hO hF hv

theorem frzX_rep {Fr' : Nat → Nat → Prop} {ι' : Iota} (hF : ∀ b, A b → Fr' c b) {v : V} {x : Value} (hv : TRep w Fr ι v x) : TRep w Fr' ι' (frzX s.S lim c v) x := by
  cases v with
  | tup vs =>
    cases hv with
    | atom hp _ => simp [isP] at hp
    | tup arr hs hr =>
      refine .tup arr (by simpa using hs) fun j hj => ?_
      have hj' : j < vs.length := by simpa using hj
      have e1 : (vs.map (frzXB s.S lim c)).getD j .undef = frzXB s.S lim c (vs.getD j .undef) := by simp [List.getD, hj']
      rw [e1]
      exact frzXB_rep h hA hO hF (hr j hj')
  | _ => exact frzXB_rep h hA hO hF hv

end

/-- What may be read behind a call without blocks: all that is not kept from it. -/
def outFr (w w' : World) (X0 : Nat → Prop) : Nat → Nat → Prop := fun t b => t ≠ tagS ∧ b < w'.heap.size ∧ ¬ X0 b ∧ (2 ≤ t → w.heap.size ≤ b ∧ ∃ arr e, w'.heap[b]? = some (.cells arr e (0, 0)))

theorem export_rep {g : G} {s : AS} {a : Act} {w : World} {ι : Iota} {Fr : Nat → Nat → Prop} (h : Rel g s a w ι Fr) (pol : Nat) {v : V} {x : Value} (hv : TRep w Fr ι v x) {ι' : Iota} :
    TRep w (outFr g.w0 w g.X0) ι' (exportV pol s v) x := by
  have hnx : ∀ b, g.w0.heap.size ≤ b → ¬ g.X0 b := fun b hb hx => by have := (h.x0 b hx).1; omega
  have hO : ∀ id blk r, 64 ≤ id → lk s.S id = some blk → ι id = some r → isC blk = true → r.1 < w.heap.size ∧ ¬ g.X0 r.1 ∧ g.w0.heap.size ≤ r.1 ∧ ∃ arr e, w.heap[r.1]? = some (.cells arr e (0, 0)) := by
    intro id blk r h64 hl hi hcc
    obtain ⟨b, sz, m⟩ := r
    obtain ⟨h1, h2⟩ := h.own id blk b sz m hl hi
    have hb : g.w0.heap.size ≤ b := by
      rcases h2 with h2 | h2
      · exact h2
      · omega
    exact ⟨h1.lt, hnx b hb, hb, h1.cl hcc⟩
  unfold exportV
  split
  · refine frzX_rep h (A := fun b => b < w.heap.size ∧ ¬ g.X0 b) (fun t b _ hf => ⟨(h.fr t b hf).1, (h.fr t b hf).2.1⟩) (fun id blk r h64 hl hi hcc => ⟨(hO id blk r h64 hl hi hcc).1, (hO id blk r h64 hl hi hcc).2.1⟩) ?_ hv
    intro b hb
    exact ⟨by decide, hb.1, hb.2, fun h2 => by omega⟩
  · refine frzX_rep h (A := fun b => b < w.heap.size ∧ ¬ g.X0 b ∧ g.w0.heap.size ≤ b ∧ ∃ arr e, w.heap[b]? = some (.cells arr e (0, 0))) (fun t b ht hf => ⟨(h.fr t b hf).1, (h.fr t b hf).2.1, h.fr2 t b ht hf, h.cl t b ht hf⟩) hO ?_ hv
    intro b hb
    exact ⟨by decide, hb.1, hb.2.1, fun _ => hb.2.2⟩

/-! ### Results -/
theorem resOne_run {P : Program} {cx : Cx} (hT : TabOk P cx.tt) {g : G} {s : AS} {a : Act} {w : World} {ι : Iota} {Fr : Nat → Nat → Prop} (h : Rel g s a w ι Fr) {F : ResultVar → Sem Value}
    (h1 : ∀ t, F (.tmp t) = pure (a.tmps.getD t Go.undef)) (h2 : ∀ b t, F (.cell b t) = do loadVar t (← asAddr (a.tmps.getD b Go.undef))) {x : ResultVar} {v : V} (hv : resOne cx.tt s x = some v) :
    ∃ y, (F x).run P w = .ok y w ∧ TRep w Fr ι v y := by
  have hval : ∀ t, TRep w Fr ι (aval s (.tmp t)) (a.tmps.getD t Go.undef) := fun t => by
    have := aval_rep h (.tmp t)
    simpa [Act.eval] using this
  cases x with
  | tmp t =>
    simp only [resOne, Option.some.injEq] at hv
    subst hv
    exact ⟨_, by rw [h1]; rfl, hval t⟩
  | cell b t =>
    simp only [resOne] at hv
    split at hv
    · rename_i ti hti
      split at hv
      · rename_i v' upd rd he
        simp only [Option.some.injEq] at hv
        subst hv
        obtain ⟨_, y, hy, hrep⟩ := load_sim (P := P) hT h hti he (fun q hq => by simp at hq) (hval b)
        refine ⟨y, ?_, hrep⟩
        have hp : ∃ ad, a.tmps.getD b Go.undef = .pointer (some ad) := by
          have hb := hval b
          generalize a.tmps.getD b Go.undef = xb at hb
          generalize aval s (.tmp b) = vb at hb he
          cases hb with
          | atom hv hr =>
            cases hr with
            | ptr => exact ⟨_, rfl⟩
            | agg => simp [isP] at hv
            | tup => simp [isP] at hv
            | fn => simp [isP] at hv
            | _ => simp [loadV] at he
          | oref => exact ⟨_, rfl⟩
          | _ => simp [loadV] at he
        obtain ⟨ad, had⟩ := hp
        rw [h2, had]
        rw [had] at hy
        simpa [Instr.loadAt, Instr.sureAddr, asAddr] using hy
      · simp at hv
    · simp at hv

theorem resL_run {P : Program} {cx : Cx} (hT : TabOk P cx.tt) {g : G} {s : AS} {a : Act} {w : World} {ι : Iota} {Fr : Nat → Nat → Prop} (h : Rel g s a w ι Fr) {F : ResultVar → Sem Value}
    (h1 : ∀ t, F (.tmp t) = pure (a.tmps.getD t Go.undef)) (h2 : ∀ b t, F (.cell b t) = do loadVar t (← asAddr (a.tmps.getD b Go.undef))) : ∀ {l : List ResultVar} {vs : List V}, resL cx.tt s l = some vs →
    ∃ ys, (l.mapM F).run P w = .ok ys w ∧ ys.length = vs.length ∧ ∀ j, j < vs.length → TRep w Fr ι (vs.getD j .undef) (ys.getD j Go.undef)
  | [], vs, hv => by
    simp only [resL, Option.some.injEq] at hv
    subst hv
    exact ⟨[], rfl, rfl, fun j hj => by simp at hj⟩
  | x :: r, vs, hv => by
    simp only [resL] at hv
    split at hv
    · rename_i v l hx hl
      simp only [Option.some.injEq] at hv
      subst hv
      obtain ⟨y, hy, hyr⟩ := resOne_run hT h h1 h2 hx
      obtain ⟨ys, hys, hlen, hr⟩ := resL_run hT h h1 h2 hl
      refine ⟨y :: ys, by simp only [List.mapM_cons, Sem.run_bind, Sem.run_pure, Result.andThen_ok, hy, hys], by simp [hlen], fun j hj => ?_⟩
      cases j with
      | zero => simpa using hyr
      | succ j => simpa using hr j (by simpa using hj)
    · simp at hv

theorem resV_run {P : Program} {cx : Cx} (hT : TabOk P cx.tt) {g : G} {s : AS} {a : Act} {w : World} {ι : Iota} {Fr : Nat → Nat → Prop} (h : Rel g s a w ι Fr) {fn : Func} {r : V} (hr : resV cx.tt s fn.results.toList = some r) :
    ∃ v, (results fn a.tmps).run P w = .ok v w ∧ TRep w Fr ι r v := by
  unfold resV at hr
  cases hl : resL cx.tt s fn.results.toList with
  | none => rw [hl] at hr; simp at hr
  | some vs =>
    have key : ∀ F : ResultVar → Sem Value, (∀ t, F (.tmp t) = pure (a.tmps.getD t Go.undef)) → (∀ b t, F (.cell b t) = do loadVar t (← asAddr (a.tmps.getD b Go.undef))) →
        ∃ v, ((((fn.results.toList.mapM F).run P w).andThen fun a w' => Result.ok a.toArray w').andThen fun a w' => (pure (if h : a.size = 1 then a[0] else Value.tuple a) : Sem Value).run P w') = .ok v w ∧ TRep w Fr ι r v := by
      intro F h1 h2
      obtain ⟨ys, hys, hlen, hrep⟩ := resL_run hT h h1 h2 hl
      refine ⟨if hh : ys.toArray.size = 1 then ys.toArray[0] else .tuple ys.toArray, by rw [hys]; rfl, ?_⟩
      rw [hl] at hr
      split at hr
      · rename_i v e1
        simp only [Option.some.injEq] at hr e1
        subst e1; subst hr
        match ys, hlen, hrep with
        | [y], _, hrep => simpa using hrep 0 (by simp)
      · rename_i l hne e1
        simp only [Option.some.injEq] at hr e1
        subst e1; subst hr
        have hlen1 : vs.length ≠ 1 := fun e => by
          match vs, e with
          | [t], _ => exact hne t rfl
        rw [dif_neg (by simpa [hlen] using hlen1)]
        refine .tup _ (by simp [hlen]) fun j hj => ?_
        have := hrep j hj
        have e2 : ys.toArray.getD j Go.undef = ys.getD j Go.undef := by simp [Array.getD_eq_getD_getElem?, List.getD]
        rw [e2]; exact this
      · simp at hr
    unfold results
    rw [Array.mapM_eq_mapM_toList]
    simp only [Sem.run_bind, Sem.run_map]
    exact key _ (fun _ => rfl) (fun _ _ => rfl)

end Go.Av

/- A function whose body fits does what is told of it. -/
namespace Go.Av

theorem lk_enterT : ∀ {args : List V} {k t : Nat} {v : V}, lk (enterT args k) t = some v → ∃ j, t = k + j ∧ args[j]? = some v
  | [], _, _, _, h => by simp [enterT, lk] at h
  | x :: r, k, t, v, h => by
    simp only [enterT, lk] at h
    split at h
    · rename_i hk
      refine ⟨0, ?_, ?_⟩
      · have := natBeq.1 hk; omega
      · simpa using h
    · obtain ⟨j, hj, hv⟩ := lk_enterT h
      exact ⟨j + 1, by omega, by simpa using hv⟩

/-- Arguments that tell no more. -/
def ArgsLe (args args' : List V) : Prop := args'.length = args.length ∧ ∀ j, j < args.length → VLe (args.getD j .undef) (args'.getD j .undef)

theorem ArgsLe.refl (args : List V) : ArgsLe args args := ⟨rfl, fun _ _ => VLe.refl _⟩

theorem enters_of {P : Program} {f : Nat} {fn : Func} {c : Code} (hf : P.funcs[f]? = some fn) (hb : fn.body = some c) (hn : (fn.name == "runtime.NumGoroutine") = false) (vals : Array Value) (w : World) :
    (callFunc f vals).run P w = .ok (.enter f vals) w := by
  have hn' : ¬ fn.name = "runtime.NumGoroutine" := by simpa using hn
  unfold callFunc
  simp [hf, hb, hn']

theorem sound_of_body {P : Program} (hm : P.follows .mixedOrders = true) {f : Nat} {fn : Func} {c : Code} {D : FSpec} {pol : Nat}
    (hf : P.funcs[f]? = some fn) (hb : fn.body = some c) (hn : (fn.name == "runtime.NumGoroutine") = false)
    (hbody : ∀ args bin ob r bout, D args bin = some (ob, r, bout) → ob → bin = [] ∧ bout = [] ∧ args.length ≤ fn.ntmps ∧
      ∃ cx : Cx, TabOk P cx.tt ∧ SoundAll P cx.D ∧ SoundAllM P cx.M ∧ cx.nt = fn.ntmps ∧ ∃ args', ArgsLe args args' ∧ bodyP cx fn pol args' (fun r' => VLe r' r)) : Sound P f D := by
  refine ⟨?_⟩
  intro args bin ob r bout hDe hob vals w X0 io ι Fr hE hsize hvals
  refine .inl ⟨enters_of hf hb hn _ _, ?_⟩
  obtain ⟨rfl, rfl, hlen, cx, hT, hD, hM, hnt, args', ⟨hl', hle⟩, hp⟩ := hbody args bin ob r bout hDe hob
  let g : G := ⟨w, X0, io, fn.ntmps, ι⟩
  have hrel : Rel g ⟨enterT args' 0, []⟩ { tmps := vals ++ Array.replicate (fn.ntmps - vals.size) Go.undef, defers := [] } w ι Fr := by
    refine
      { defers := rfl
        size := by show (vals ++ Array.replicate (fn.ntmps - vals.size) Go.undef).size = fn.ntmps; simp; omega
        tmp := ?_
        own := fun id blk b sz m hl => by simp [lk] at hl
        nob := fun id blk hl => by simp [lk] at hl
        inj := fun id id' blk blk' r r' hl => by simp [lk] at hl
        fr := fun t b hb => ⟨(hE.fr t b hb).1, (hE.fr t b hb).2.1, fun id blk r hl => by simp [lk] at hl⟩
        frS := hE.frS
        fr0 := hE.fr0
        fr2 := fun t b h2 hb => absurd hb (hE.fr2 t b h2)
        fr1 := fun b hb => (hE.fr 1 b hb).1
        cl := fun t b h2 hb => absurd hb (hE.fr2 t b h2)
        low := fun _ _ => rfl
        x0 := hE.x0
        io0 := hE.io0
        os := rfl, tape := rfl, output := rfl, hsize := Nat.le_refl _, frame := fun _ _ _ => rfl, shape := fun _ _ h => h }
    intro t v ht
    obtain ⟨j, rfl, hj⟩ := lk_enterT ht
    rw [Nat.zero_add]
    have hj' : j < args'.length := (List.getElem?_eq_some_iff.1 hj).1
    have e1 : args'.getD j .undef = v := by simp [List.getD, hj]
    have e2 : (vals ++ Array.replicate (fn.ntmps - vals.size) Go.undef).getD j Go.undef = vals.getD j Go.undef := by
      have hjv : j < vals.size := by omega
      simp only [Array.getD_eq_getD_getElem?]
      rw [Array.getElem?_append_left hjv]
    have := (hle j (by omega)).le w Fr ι _ hE.frS hE.fr0 (hvals j (by omega))
    rw [e1] at this
    show TRep w Fr ι v ((vals ++ Array.replicate (fn.ntmps - vals.size) Go.undef).getD j Go.undef)
    rw [e2]; exact this
  have hfin : ∀ (s : AS) (a : Act) (w' : World) (ι' : Iota) (Fr' : Nat → Nat → Prop), Rel g s a w' ι' Fr' → (∃ r0, resV cx.tt s fn.results.toList = some r0 ∧ VLe (exportV pol s r0) r) →
      a.defers = [] ∧ ∃ v, (results fn a.tmps).run P w' = .ok v w' ∧ ∃ v' ι'' Fr'', Ending.returned v = .returned v' ∧ TRep w' Fr'' ι'' r v' ∧ Ext w w' X0 io ι 0 [] ι'' Fr'' := by
    rintro s a w' ι' Fr' hr ⟨r0, hr0, hv⟩
    obtain ⟨v, hrun, hrep⟩ := resV_run (P := P) hT hr hr0
    have hex := export_rep hr pol hrep (ι' := ι')
    have hS : ∀ b, ¬ outFr w w' X0 tagS b := fun b hb => hb.1 rfl
    have h0 : ∀ t b, outFr w w' X0 t b → outFr w w' X0 0 b := fun t b hb => ⟨by decide, hb.2.1, hb.2.2.1, fun h2 => by omega⟩
    refine ⟨hr.defers, v, hrun, v, ι', outFr w w' X0, rfl, hv.le w' _ ι' v hS h0 hex, ?_⟩
    exact
      { own := fun id blk b sz k hl => by simp at hl
        nob := fun id blk hl => by simp at hl
        inj := fun id id' blk blk' r r' hl => by simp at hl
        fr := fun t b hb => ⟨hb.2.1, hb.2.2.1, fun id blk r hl => by simp at hl⟩
        frS := hS
        fr0 := h0
        fr2 := fun t b h2 hb => (hb.2.2.2 h2).1
        cl := fun t b h2 hb => (hb.2.2.2 h2).2
        same := fun id hid => by omega
        os := hr.os, tape := hr.tape, output := hr.output, hsize := hr.hsize, frame := hr.frame, shape := hr.shape }
  unfold bodyP at hp
  rw [hb] at hp
  refine calls_of_wp hf hb (awp_sound hT hD hM hm (g := g) (hnt.trans rfl) c _ _ ?_ _ _ w ι Fr hp hrel)
  intro e s a w' ι' Fr' he hr
  cases e with
  | normal =>
    simp only [] at he
    split at he
    · rename_i r0 hr0
      exact hfin s a w' ι' Fr' hr ⟨r0, hr0, he⟩
    · exact he.elim
  | ret =>
    simp only [] at he
    split at he
    · rename_i r0 hr0
      exact hfin s a w' ι' Fr' hr ⟨r0, hr0, he⟩
    · exact he.elim
  | _ => exact he.elim

end Go.Av

/- Functions that the machine answers itself; callees that are not reached. -/
namespace Go.Av

theorem ext_id {w : World} {X0 io : Nat → Prop} {ι : Iota} {Fr : Nat → Nat → Prop} (hE : Ent w X0 io [] ι Fr) : Ext w w X0 io ι 0 [] ι Fr :=
  { own := fun id blk b sz k hb => by simp at hb
    nob := fun id blk hb => by simp at hb
    inj := fun id id' blk blk' r r' hb => by simp at hb
    fr := fun t b hf => ⟨(hE.fr t b hf).1, (hE.fr t b hf).2.1, fun id blk r hb => by simp at hb⟩
    frS := hE.frS
    fr0 := hE.fr0
    fr2 := fun t b h2 hf => absurd hf (hE.fr2 t b h2)
    cl := fun t b h2 hf => absurd hf (hE.fr2 t b h2)
    same := fun id h => by omega
    os := rfl, tape := rfl, output := rfl, hsize := Nat.le_refl _
    frame := fun _ _ _ => rfl
    shape := fun _ _ h => h }

/-- A callee that is not reached. -/
def noD (v : V) : FSpec := fun _ _ => some (False, v, [])
theorem no_sound {P : Program} {f : Nat} {v : V} : Sound P f (noD v) := ⟨fun args bin ob r bout h hob => by
  unfold noD at h
  cases h
  exact hob.elim⟩

theorem sound_extern {P : Program} {f : Nat} {fn : Func} {D : FSpec} {e : Array Value → Sem Value} (hf : P.funcs[f]? = some fn) (hname : (fn.name == "runtime.NumGoroutine") = false)
    (hb : fn.body.isNone = true) (hn : Extern.findNext fn = none) (he : Extern.find fn = some e)
    (h : ∀ args bin ob r bout, D args bin = some (ob, r, bout) → ob → bin = [] ∧ bout = [] ∧ ∀ (vals : Array Value) (w : World) (ι : Iota) (Fr : Nat → Nat → Prop), vals.size = args.length →
      (∀ j, j < args.length → TRep w Fr ι (args.getD j .undef) (vals.getD j Go.undef)) → ∃ v, (e vals).run P w = .ok v w ∧ TRep w Fr ι r v) : Sound P f D := by
  refine ⟨?_⟩
  intro args bin ob r bout hDe hob vals w X0 io ι Fr hE hsize hvals
  obtain ⟨rfl, rfl, hx⟩ := h args bin ob r bout hDe hob
  obtain ⟨v, hv, hr⟩ := hx vals w ι Fr hsize hvals
  refine .inr ⟨v, ?_, v, ι, Fr, rfl, hr, ext_id hE⟩
  rw [run_callFunc_extern hf hname hb hn he, hv]
  rfl

def countD : FSpec := fun args bin => match args, bin with
  | [.str s, .int .u8 c], [] => some (True, .int .i64 ((Lib.countByte s.data.toList c.toNat.toUInt8 : Nat) : Int), [])
  | _, _ => none
def indexByteD : FSpec := fun args bin => match args, bin with
  | [.str s, .int .u8 c], [] => some (True, .int .i64 (Lib.indexByte s.data.toList c.toNat.toUInt8), [])
  | _, _ => none
def compareD : FSpec := fun args bin => match args, bin with
  | [.str a, .str b], [] => some (True, .int .i64 (Lib.compareBytes a.data.toList b.data.toList), [])
  | _, _ => none

theorem vals2 {vals : Array Value} {a b : Value} (h : vals.size = 2) (h0 : vals.getD 0 Go.undef = a) (h1 : vals.getD 1 Go.undef = b) : vals = #[a, b] := by
  apply Array.ext
  · simpa using h
  · intro i hi1 hi2
    have hi : i < 2 := by simpa using hi2
    match i, hi with
    | 0, _ => rw [← h0]; simp [h]
    | 1, _ => rw [← h1]; simp [h]

section
variable {P : Program} {f : Nat} {fn : Func} (hf : P.funcs[f]? = some fn) (hname : (fn.name == "runtime.NumGoroutine") = false) (hb : fn.body.isNone = true) (hn : Extern.findNext fn = none)
include hf hname hb hn
theorem count_sound (he : Extern.find fn = some Extern.BytealgCount.count) : Sound P f countD :=
  sound_extern hf hname hb hn he fun args bin ob r bout hD _ => by
    unfold countD at hD
    split at hD
    · rename_i s c
      cases hD
      refine ⟨rfl, rfl, fun vals w ι Fr hs hv => ?_⟩
      have h0 := inv_str (hv 0 (by simp))
      have h1 := inv_int (hv 1 (by simp))
      rw [vals2 hs h0 h1, Lib.run_countString]
      exact ⟨_, rfl, .atom rfl (.int _ _)⟩
    · cases hD
theorem indexByte_sound (he : Extern.find fn = some Extern.BytealgIndexByte.indexByte) : Sound P f indexByteD :=
  sound_extern hf hname hb hn he fun args bin ob r bout hD _ => by
    unfold indexByteD at hD
    split at hD
    · rename_i s c
      cases hD
      refine ⟨rfl, rfl, fun vals w ι Fr hs hv => ?_⟩
      have h0 := inv_str (hv 0 (by simp))
      have h1 := inv_int (hv 1 (by simp))
      rw [vals2 hs h0 h1, Lib.run_indexByteString]
      exact ⟨_, rfl, .atom rfl (.int _ _)⟩
    · cases hD
theorem compare_sound (he : Extern.find fn = some Extern.BytealgCompare.compare) : Sound P f compareD :=
  sound_extern hf hname hb hn he fun args bin ob r bout hD _ => by
    unfold compareD at hD
    split at hD
    · rename_i a b
      cases hD
      refine ⟨rfl, rfl, fun vals w ι Fr hs hv => ?_⟩
      have h0 := inv_str (hv 0 (by simp))
      have h1 := inv_str (hv 1 (by simp))
      rw [vals2 hs h0 h1, Lib.run_compareString]
      exact ⟨_, rfl, .atom rfl (.int _ _)⟩
    · cases hD
end

end Go.Av

/- The seat's types, as a table made from the program. -/
namespace Go.Av

def zeroV : Value → V
  | .agg cs => .agg (cs.toList.map ofCell)
  | v => ofCell v

def isAggV' : Value → Bool
  | .agg _ => true
  | _ => false

def flatC : V → Bool
  | .agg cs => cs.all flatA
  | v => flatA v

def cmpOk (P : Program) (t : Nat) (d : TypeDesc) : Bool :=
  !(P.stoodInHeld t) && !(P.eqGuardType P.depth t) && (match d with
    | .struct fs => fs.toList.all fun f => !(f.name == "_")
    | _ => true)

def tiOf (P : Program) (t : Nat) : Option TI :=
  match P.underlying t, P.info? t with
  | some d, some i => match i.zero with
    | some z => match Nat.beq (zeroV z).cells.length i.size && Nat.beq z.cells.size i.size && (isAggD d == isAggV' z) with
      | true => some ⟨d, i.size, i.bytes, zeroV z, flatC (zeroV z), cmpOk P t d⟩
      | false => none
    | none => none
  | _, _ => none

def tabOf (P : Program) : List Nat → TT
  | [] => []
  | t :: r => match tiOf P t with
    | some ti => (t, ti) :: tabOf P r
    | none => tabOf P r

theorem lk_tabOf {P : Program} : ∀ {ids : List Nat} {t : Nat} {ti : TI}, lk (tabOf P ids) t = some ti → tiOf P t = some ti
  | [], _, _, h => by simp [tabOf, lk] at h
  | k :: r, t, ti, h => by
    simp only [tabOf] at h
    split at h
    · rename_i u hu
      simp only [lk] at h
      split at h
      · rename_i hk
        rw [← natBeq.1 hk, hu]; exact h
      · exact lk_tabOf h
    · exact lk_tabOf h

theorem ofCell_prep (w : World) (v : Value) : PRep w (fun _ => False) (ofCell v) v := by
  unfold ofCell
  split
  · exact .int _ _
  · exact .bool _
  · exact .str _
  · exact .nil _
  · exact .undef _

theorem zeroV_prep (w : World) (z : Value) : PRep w (fun _ => False) (zeroV z) z := by
  unfold zeroV
  split
  · rename_i cs
    refine .agg cs (by simp) fun j hj => ?_
    have hj' : j < cs.size := by simpa using hj
    have e1 : (cs.toList.map ofCell).getD j .undef = ofCell cs[j] := by simp [List.getD, hj']
    have e2 : cs.getD j Go.undef = cs[j] := by simp [hj']
    rw [e1, e2]
    exact ofCell_prep w _
  · exact ofCell_prep w _

theorem tabOk_of (P : Program) (ids : List Nat) : TabOk P (tabOf P ids) := by
  have key : ∀ t ti, lk (tabOf P ids) t = some ti → ∃ d i z, P.underlying t = some d ∧ P.info? t = some i ∧ i.zero = some z ∧ (zeroV z).cells.length = i.size ∧ z.cells.size = i.size ∧ isAggD d = isAggV' z ∧
      ti = ⟨d, i.size, i.bytes, zeroV z, flatC (zeroV z), cmpOk P t d⟩ := by
    intro t ti h
    have h := lk_tabOf h
    unfold tiOf at h
    split at h
    · rename_i d i hd hi
      split at h
      · rename_i z hz
        split at h
        · rename_i hb
          simp only [Bool.and_eq_true] at hb
          exact ⟨d, i, z, hd, hi, hz, natBeq.1 hb.1.1, natBeq.1 hb.1.2, by simpa using hb.2, (Option.some.inj h).symm⟩
        · simp at h
      · simp at h
    · simp at h
  constructor
  · intro t ti h
    obtain ⟨d, i, z, hd, _, _, _, _, _, rfl⟩ := key t ti h
    exact hd
  · intro t ti h hc
    obtain ⟨d, i, z, hd, _, _, _, _, _, rfl⟩ := key t ti h
    simp only [cmpOk, Bool.and_eq_true, Bool.not_eq_true'] at hc
    refine ⟨hc.1.1, hc.1.2, fun fs hfs f hf => ?_⟩
    have h3 := hc.2
    simp only [] at hfs
    rw [hfs] at h3
    have := List.all_eq_true.1 h3 f hf
    simpa using this
  · intro t ti h
    obtain ⟨d, i, z, hd, hi, hz, h1, h2, h3, rfl⟩ := key t ti h
    refine ⟨i, hi, rfl, rfl, z, hz, fun w => zeroV_prep w z, h1, h2, ?_⟩
    rw [h3]
    cases z with
    | agg cs => simp [isAggV', zeroV]
    | _ => simp only [isAggV', zeroV, ofCell] <;> (try split) <;> simp

end Go.Av

/- Values, blocks, states told anew. -/
namespace Go.Av

/-- Frozen cells that tell no more, wherever they lie. -/
structure PLe (v v' : V) : Prop where
  le : ∀ (w : World) (A : Nat → Prop) (x : Value), PRep w A v x → PRep w A v' x

theorem PLe.refl (v : V) : PLe v v := ⟨fun _ _ _ h => h⟩
theorem PLe.of_eq {v v' : V} (h : v = v') : PLe v v' := h ▸ PLe.refl v
theorem ple_undef (v : V) : PLe v .undef := ⟨fun _ _ _ _ => .undef _⟩
theorem ple_nil (g : Nat → V) (t : Nat) : PLe .nil (.sl 0 g t) := ⟨fun w A x h => by cases h; exact .sl0 _ _ _ _⟩

/-- Elements cell by cell. -/
structure ELe (v v' : V) : Prop where
  len : v'.cells.length = v.cells.length
  cell : ∀ j, j < v.cells.length → PLe (v.cells.getD j .undef) (v'.cells.getD j .undef)

theorem ELe.refl (v : V) : ELe v v := ⟨rfl, fun _ _ => PLe.refl _⟩
theorem ELe.of_eq {v v' : V} (h : v = v') : ELe v v' := h ▸ ELe.refl v

theorem ple_sl {n : Nat} {g g' : Nat → V} {t t' : Nat} (h : ∀ i, i < n → ELe (g i) (g' i)) : PLe (.sl n g t) (.sl n g' t') := ⟨fun w A x hx => by
  cases hx with
  | sl0 => exact .sl0 _ _ _ _
  | sl cv hA hcap hsz hc hr =>
    refine .sl cv hA hcap (fun i hi => by rw [(h i hi).len]; exact hsz i hi) hc fun i j hi hj => ((h i hi).cell j (by rw [hsz i hi]; exact hj)).le _ _ _ (hr i j hi hj)⟩

theorem ple_sl_eq {n : Nat} {g g' : Nat → V} {t t' : Nat} (h : ∀ i, i < n → g i = g' i) : PLe (.sl n g t) (.sl n g' t') := ple_sl fun i hi => ELe.of_eq (h i hi)

theorem ple_ptr {cs cs' : List V} {off t t' : Nat} (hl : cs'.length = cs.length) (h : ∀ j, j < cs.length → PLe (cs.getD j .undef) (cs'.getD j .undef)) : PLe (.ptr cs off t) (.ptr cs' off t') := ⟨fun w A x hx => by
  cases hx with
  | ptr cv hA hc hr => exact .ptr cv hA (fun j hj => hc j (by omega)) fun j hj => (h j (by omega)).le _ _ _ (hr j (by omega))⟩

/-! ### Values -/
theorem VLe.of_eq {v v' : V} (h : v = v') : VLe v v' := h ▸ VLe.refl v
theorem vle_undef (v : V) : VLe v .undef := ⟨fun _ _ _ _ _ _ _ => .atom rfl (.undef _)⟩
theorem vle_nil (g : Nat → V) (t : Nat) : VLe .nil (.sl 0 g t) := ⟨fun w Fr ι x _ _ h => by
  obtain ⟨a, rfl⟩ := nil_inv h
  exact .atom rfl (.sl0 _ _ _ _)⟩

theorem vle_of_ple {v v' : V} (h : PLe v v') (hp : isP v = true) (hp' : isP v' = true) (ht : tagD v' = tagD v ∨ tagD v' = 0) : VLe v v' := ⟨fun w Fr ι x _ h0 hx => by
  cases hx with
  | atom _ hr =>
    refine .atom hp' (h.le _ _ _ ?_)
    rcases ht with ht | ht
    · rw [ht]; exact hr
    · rw [ht]; exact hr.weaken fun b hb => h0 _ b hb
  | osl => simp [isP] at hp
  | osl0 => simp [isP] at hp
  | oref => simp [isP] at hp
  | omap => simp [isP] at hp
  | agg => simp [isP] at hp
  | tup => simp [isP] at hp
  | fn => simp [isP] at hp
  | cnd => simp [isP] at hp⟩

theorem vle_sl {n : Nat} {g g' : Nat → V} {t t' : Nat} (h : ∀ i, i < n → ELe (g i) (g' i)) (ht : t' = t ∨ t' = 0) : VLe (.sl n g t) (.sl n g' t') :=
  vle_of_ple (ple_sl h) rfl rfl (by simpa [tagD, tagOfA] using ht)

theorem vle_sl_eq {n : Nat} {g g' : Nat → V} {t t' : Nat} (h : ∀ i, i < n → g i = g' i) (ht : t' = t ∨ t' = 0) : VLe (.sl n g t) (.sl n g' t') := vle_sl (fun i hi => ELe.of_eq (h i hi)) ht

theorem vle_ptr {cs cs' : List V} {off t t' : Nat} (hl : cs'.length = cs.length) (h : ∀ j, j < cs.length → PLe (cs.getD j .undef) (cs'.getD j .undef)) (ht : t' = t ∨ t' = 0) : VLe (.ptr cs off t) (.ptr cs' off t') :=
  vle_of_ple (ple_ptr hl h) rfl rfl (by simpa [tagD, tagOfA] using ht)

/-- Lists cell by cell. -/
def VLes : List V → List V → Prop
  | [], [] => True
  | v :: r, v' :: r' => VLe v v' ∧ VLes r r'
  | _, _ => False

theorem vles_len : ∀ {l l' : List V}, VLes l l' → l'.length = l.length
  | [], [], _ => rfl
  | _ :: _, _ :: _, h => by simp [vles_len h.2]
  | [], _ :: _, h => h.elim
  | _ :: _, [], h => h.elim

theorem vles_at : ∀ {l l' : List V}, VLes l l' → ∀ j, j < l.length → VLe (l.getD j .undef) (l'.getD j .undef)
  | [], [], _, _, hj => by simp at hj
  | _ :: _, _ :: _, h, 0, _ => by simpa using h.1
  | _ :: r, _ :: r', h, j + 1, hj => by simpa using vles_at h.2 j (by simpa using hj)
  | [], _ :: _, h, _, _ => h.elim
  | _ :: _, [], h, _, _ => h.elim

theorem vles_refl : ∀ l : List V, VLes l l
  | [] => trivial
  | v :: r => ⟨VLe.refl v, vles_refl r⟩

theorem vle_agg {cs cs' : List V} (h : VLes cs cs') : VLe (.agg cs) (.agg cs') := ⟨fun w Fr ι x hS h0 hx => by
  cases hx with
  | atom hp _ => simp [isP] at hp
  | agg arr hs hr =>
    have hl := vles_len h
    exact .agg arr (by omega) fun j hj => (vles_at h j (by omega)).le _ _ _ _ hS h0 (hr j (by omega))⟩

theorem vle_tup {cs cs' : List V} (h : VLes cs cs') : VLe (.tup cs) (.tup cs') := ⟨fun w Fr ι x hS h0 hx => by
  cases hx with
  | atom hp _ => simp [isP] at hp
  | tup arr hs hr =>
    have hl := vles_len h
    exact .tup arr (by omega) fun j hj => (vles_at h j (by omega)).le _ _ _ _ hS h0 (hr j (by omega))⟩

theorem vle_fn {f : Nat} {cs cs' : List V} (h : VLes cs cs') : VLe (.fn f cs) (.fn f cs') := ⟨fun w Fr ι x hS h0 hx => by
  cases hx with
  | atom hp _ => simp [isP] at hp
  | fn arr hs hr =>
    have hl := vles_len h
    exact .fn arr (by omega) fun j hj => (vles_at h j (by omega)).le _ _ _ _ hS h0 (hr j (by omega))⟩

theorem args_of_vles {l l' : List V} (h : VLes l l') : ArgsLe l l' := ⟨vles_len h, vles_at h⟩

/-! ### Blocks of one's own -/
structure BLe (b b' : Blk) : Prop where
  le : ∀ (w : World) (Fr : Nat → Nat → Prop) (ι : Iota) (bb sz m : Nat), (∀ b, ¬ Fr tagS b) → (∀ t b, Fr t b → Fr 0 b) → OwnB w Fr ι bb sz m b → OwnB w Fr ι bb sz m b'
  nob : (∃ sz h te, b = .arr sz 0 h te) → ∃ sz h te, b' = .arr sz 0 h te

theorem BLe.refl (b : Blk) : BLe b b := ⟨fun _ _ _ _ _ _ _ _ h => h, fun h => h⟩

theorem ble_arr {sz n : Nat} {g g' : Nat → V} {te te' : Nat} (h : ∀ i, i < n → ELe (g i) (g' i)) (ht : te' = te ∨ te' = 0 ∨ te = tagS ∨ n = 0) : BLe (.arr sz n g te) (.arr sz n g' te') := by
  constructor
  · rintro w Fr ι bb sz' m hS h0 ⟨h1, h2, cells, e, hh, hsz, hlen, hr⟩
    refine ⟨h1, h2, cells, e, hh, hsz, fun i hi => by rw [(h i hi).len]; exact hlen i hi, fun i j hi hj => ?_⟩
    refine ((h i hi).cell j (by rw [hlen i hi]; exact hj)).le _ _ _ ?_
    have := hr i j hi hj
    rcases ht with ht | ht | ht | ht
    · rw [ht]; exact this
    · rw [ht]; exact this.weaken fun b hb => h0 _ b hb
    · rw [ht] at this; exact this.weaken fun b hb => absurd hb (hS b)
    · omega
  · rintro ⟨sz', h', te', he⟩
    injection he with _ hn
    subst hn
    exact ⟨_, _, _, rfl⟩

theorem ble_box {cs cs' : List V} (h : VLes cs cs') : BLe (.box cs) (.box cs') := by
  constructor
  · rintro w Fr ι bb sz m hS h0 ⟨cells, e, hh, hsz, hr⟩
    have hl := vles_len h
    exact ⟨cells, e, hh, by omega, fun j hj => (vles_at h j (by omega)).le _ _ _ _ hS h0 (hr j (by omega))⟩
  · rintro ⟨_, _, _, he⟩
    cases he

/-! ### States -/
def TLe : List (Nat × V) → List (Nat × V) → Prop
  | [], [] => True
  | (t, v) :: r, (t', v') :: r' => t = t' ∧ VLe v v' ∧ TLe r r'
  | _, _ => False

def BLes : List (Nat × Blk) → List (Nat × Blk) → Prop
  | [], [] => True
  | (t, v) :: r, (t', v') :: r' => t = t' ∧ BLe v v' ∧ BLes r r'
  | _, _ => False

theorem tle_lk : ∀ {T T' : List (Nat × V)}, TLe T T' → ∀ {t : Nat} {v' : V}, lk T' t = some v' → ∃ v, lk T t = some v ∧ VLe v v'
  | [], [], _, _, _, h => by simp [lk] at h
  | (k, v) :: r, (k', v') :: r', hh, t, u, h => by
    obtain ⟨rfl, h1, h2⟩ := hh
    simp only [lk] at h ⊢
    split at h
    · have : v' = u := Option.some.inj h
      subst this
      exact ⟨v, rfl, h1⟩
    · exact tle_lk h2 h
  | [], _ :: _, h, _, _, _ => h.elim
  | _ :: _, [], h, _, _, _ => h.elim

theorem bles_lk : ∀ {S S' : List (Nat × Blk)}, BLes S S' → ∀ {t : Nat} {v' : Blk}, lk S' t = some v' → ∃ v, lk S t = some v ∧ BLe v v'
  | [], [], _, _, _, h => by simp [lk] at h
  | (k, v) :: r, (k', v') :: r', hh, t, u, h => by
    obtain ⟨rfl, h1, h2⟩ := hh
    simp only [lk] at h ⊢
    split at h
    · have : v' = u := Option.some.inj h
      subst this
      exact ⟨v, rfl, h1⟩
    · exact bles_lk h2 h
  | [], _ :: _, h, _, _, _ => h.elim
  | _ :: _, [], h, _, _, _ => h.elim

theorem sle_of {T T' : List (Nat × V)} {S S' : List (Nat × Blk)} (hT : TLe T T') (hS : BLes S S') : SLe ⟨T, S⟩ ⟨T', S'⟩ := ⟨fun g a w ι Fr h => ⟨ι, Fr,
  { h with
    tmp := fun t v ht => by
      obtain ⟨u, hu, hle⟩ := tle_lk hT ht
      exact hle.le _ _ _ _ h.frS h.fr0 (h.tmp t u hu)
    own := fun id blk b sz m hl hi => by
      obtain ⟨u, hu, hle⟩ := bles_lk hS hl
      obtain ⟨h1, h2⟩ := h.own id u b sz m hu hi
      exact ⟨hle.le _ _ _ _ _ _ h.frS h.fr0 h1, h2⟩
    nob := fun id blk hl hi => by
      obtain ⟨u, hu, hle⟩ := bles_lk hS hl
      exact hle.nob (h.nob id u hu hi)
    inj := fun id id' blk blk' r r' h1 h2 => by
      obtain ⟨u, hu, _⟩ := bles_lk hS h1
      obtain ⟨u', hu', _⟩ := bles_lk hS h2
      exact h.inj id id' u u' r r' hu hu'
    fr := fun t b hb => ⟨(h.fr t b hb).1, (h.fr t b hb).2.1, fun id blk r hl => by
      obtain ⟨u, hu, _⟩ := bles_lk hS hl
      exact (h.fr t b hb).2.2 id u r hu⟩ }⟩⟩

end Go.Av

/- Bodies that are handed blocks for writing, and results whose rows are the caller's own. -/
namespace Go.Av
set_option linter.unusedVariables false
set_option linter.unusedSimpArgs false

/-- The tag under which a row of one's own leaves the call. -/
def outTag (te : Nat) : Option Nat := match Nat.beq te tagS with
  | true => some tagS
  | false => match Nat.ble 2 te with
    | true => some 2
    | false => none

/-- A cell of a result that stays frozen. -/
def expA : V → V
  | .sl n g t => match Nat.ble 2 t with
    | true => .sl n g 2
    | false => .undef
  | .ptr cs o t => match Nat.ble 2 t with
    | true => .ptr cs o 2
    | false => .undef
  | .int k n => .int k n
  | .bool b => .bool b
  | .str s => .str s
  | .nil => .nil
  | _ => .undef

/-- The cells of a result that are rows of the caller's own: where they stand, the cells of an element; k: the name of the first. -/
def ownCells (S : List (Nat × Blk)) : Nat → List (Nat × Nat) → List V → Option (List V × List Blk × List (Option (Nat × Nat)))
  | _, [], cs => some (cs, [], [])
  | k, (p, sz) :: r, cs => match cs[p]?, ownCells S (k + 1) r cs with
    | some (.osl id n), some (out, bl, src) => match lk S id, Nat.ble 64 id with
      | some (.arr sz' _ g te), true => match Nat.beq sz' sz, outTag te with
        | true, some t => some (out.set p (.osl k n), .arr sz n g t :: bl, some (id, n) :: src)
        | _, _ => none
      | _, _ => none
    | some .nil, some (out, bl, src) => some (out.set p (.osl k 0), .arr sz 0 (fun _ => .undef) tagS :: bl, none :: src)
    | _, _ => none

/-- The blocks that were handed in, as they are at the end; what a box reaches is frozen. -/
def handTag (te : Nat) : Nat := match Nat.beq te tagS with
  | true => tagS
  | false => 1
def handed (S : List (Nat × Blk)) : Nat → Option (List Blk)
  | 0 => some []
  | m + 1 => match handed S m, lk S m with
    | some l, some (.arr sz n g te) => some (l ++ [.arr sz n g (handTag te)])
    | some l, some (.box cs) => some (l ++ [.box (cs.map (frzXA [] 0 1))])
    | _, _ => none

def srcIds : List (Option (Nat × Nat)) → List Nat
  | [] => []
  | some (id, _) :: r => id :: srcIds r
  | none :: r => srcIds r

/-- The cells of a result: of a struct, of several results, or the one. -/
def cellsF : V → List V
  | .agg l => l
  | v => [v]
def cellsT : V → List V
  | .tup cs => cs.flatMap cellsF
  | v => v.cells
/-- The flat cells of several results, as the results again. -/
def regroup : List V → List V → List V
  | [], _ => []
  | .agg l :: r, out => .agg (out.take l.length) :: regroup r (out.drop l.length)
  | _ :: r, out => out.headD .undef :: regroup r (out.drop 1)
def elemT : V → List V → V
  | .tup cs, out => .tup (regroup cs out)
  | r, out => elemV (isAggV r) out

/-- The cells behind: those of the template as they are told, any other frozen (what leaves as a row of one's own is not looked at). -/
def finC (S : List (Nat × Blk)) (ps : List Nat) : Nat → List V → List V → List V
  | i, c :: cs, o :: os => (match mem i ps with
    | true => o
    | false => frzXA S 2 2 c) :: finC S ps (i + 1) cs os
  | _, _, _ => []
def restS (S : List (Nat × Blk)) (ids : List Nat) : List (Nat × Blk) := S.filter fun e => !(mem e.1 ids)

def exportO (tpl : List (Nat × Nat)) (m : Nat) (S : List (Nat × Blk)) (r : V) : Option (V × List Blk) :=
  match handed S m, ownCells S m tpl (cellsT r) with
  | some hb, some (out, bl, src) => match nodupB (srcIds src) with
    | true => some (elemT r (finC (restS S (srcIds src)) (tpl.map fun q => q.1) 0 (cellsT r) out), hb ++ bl)
    | false => none
  | _, _ => none

def BinLe : List Blk → List Blk → Prop
  | [], [] => True
  | b :: r, b' :: r' => BLe b b' ∧ BinLe r r'
  | _, _ => False

theorem BinLe.refl : ∀ l : List Blk, BinLe l l
  | [] => trivial
  | b :: r => ⟨BLe.refl b, BinLe.refl r⟩

theorem BinLe.len : ∀ {l l' : List Blk}, BinLe l l' → l'.length = l.length
  | [], [], _ => rfl
  | _ :: _, _ :: _, h => by simp [BinLe.len h.2]
  | [], _ :: _, h => h.elim
  | _ :: _, [], h => h.elim

theorem BinLe.at : ∀ {l l' : List Blk}, BinLe l l' → ∀ {j : Nat} {b' : Blk}, l'[j]? = some b' → ∃ b, l[j]? = some b ∧ BLe b b'
  | [], [], _, _, _, h => by simp at h
  | b :: r, c :: r', h, 0, b', hb => by
    simp at hb
    subst hb
    exact ⟨b, by simp, h.1⟩
  | b :: r, c :: r', h, j + 1, b', hb => by
    obtain ⟨x, hx, hle⟩ := BinLe.at h.2 (j := j) (by simpa using hb)
    exact ⟨x, by simpa using hx, hle⟩
  | [], _ :: _, h, _, _, _ => h.elim
  | _ :: _, [], h, _, _, _ => h.elim

/-- The whole of a call that is handed blocks, or tells rows of the caller's own. -/
@[irreducible] def bodyO (cx : Cx) (fn : Func) (tpl : List (Nat × Nat)) (args : List V) (bin : List Blk) (K : V → List Blk → Prop) : Prop :=
  match fn.body with
  | some c => awp cx c (fun e s =>
      match e with
      | .normal => match resV cx.tt s fn.results.toList with
        | some r => match exportO tpl bin.length s.S r with
          | some (r', bs) => K r' bs
          | none => False
        | none => False
      | .ret => match resV cx.tt s fn.results.toList with
        | some r => match exportO tpl bin.length s.S r with
          | some (r', bs) => K r' bs
          | none => False
        | none => False
      | _ => False) ⟨enterT args 0, enterS bin 0⟩
  | none => False

theorem lk_enterS : ∀ {l : List Blk} {k t : Nat} {v : Blk}, lk (enterS l k) t = some v → ∃ j, t = k + j ∧ l[j]? = some v
  | [], _, _, _, h => by simp [enterS, lk] at h
  | x :: r, k, t, v, h => by
    simp only [enterS, lk] at h
    split at h
    · rename_i hk
      refine ⟨0, ?_, ?_⟩
      · have := natBeq.1 hk; omega
      · simpa using h
    · obtain ⟨j, hj, hv⟩ := lk_enterS h
      exact ⟨j + 1, by omega, by simpa using hv⟩

def HandAt (blk out : Blk) : Prop := (∃ sz n g te, blk = .arr sz n g te ∧ out = .arr sz n g (handTag te)) ∨ ∃ cs, blk = .box cs ∧ out = .box (cs.map (frzXA [] 0 1))

theorem handed_at {S : List (Nat × Blk)} : ∀ {m : Nat} {l : List Blk}, handed S m = some l → l.length = m ∧ ∀ j, j < m → ∃ blk out, lk S j = some blk ∧ l[j]? = some out ∧ HandAt blk out
  | 0, l, h => by
    simp only [handed, Option.some.injEq] at h
    subst h
    exact ⟨rfl, fun j hj => by omega⟩
  | m + 1, l, h => by
    simp only [handed] at h
    have step : ∀ (l0 : List Blk) (blk out : Blk), handed S m = some l0 → lk S m = some blk → HandAt blk out → l = l0 ++ [out] →
        l.length = m + 1 ∧ ∀ j, j < m + 1 → ∃ blk out, lk S j = some blk ∧ l[j]? = some out ∧ HandAt blk out := by
      intro l0 blk out h0 hl hh e
      subst e
      obtain ⟨h1, h2⟩ := handed_at h0
      refine ⟨by simp [h1], fun j hj => ?_⟩
      rcases Nat.lt_or_ge j m with hj' | hj'
      · obtain ⟨b1, o1, q1, q2, q3⟩ := h2 j hj'
        exact ⟨b1, o1, q1, by rw [List.getElem?_append_left (by omega)]; exact q2, q3⟩
      · have : j = m := by omega
        subst this
        exact ⟨blk, out, hl, by rw [List.getElem?_append_right (by omega)]; simp [h1], hh⟩
    split at h
    · rename_i l0 sz n g te h0 hl
      exact step l0 _ _ h0 hl (.inl ⟨sz, n, g, te, rfl, rfl⟩) (Option.some.inj h).symm
    · rename_i l0 cs h0 hl
      exact step l0 _ _ h0 hl (.inr ⟨cs, rfl, rfl⟩) (Option.some.inj h).symm
    · simp at h

/-- What is known of the k-th row that leaves. -/
def OutOk (S : List (Nat × Blk)) (src : Option (Nat × Nat)) (b : Blk) : Prop :=
  match src with
  | some (id, n) => ∃ sz n' g te t, lk S id = some (.arr sz n' g te) ∧ 64 ≤ id ∧ b = .arr sz n g t ∧ ((te = tagS ∧ t = tagS) ∨ (2 ≤ te ∧ t = 2))
  | none => ∃ sz, b = .arr sz 0 (fun _ => .undef) tagS

theorem outTag_or {te t : Nat} (h : outTag te = some t) : (te = tagS ∧ t = tagS) ∨ (2 ≤ te ∧ t = 2) := by
  unfold outTag at h
  split at h
  · rename_i h1
    exact .inl ⟨natBeq.1 h1, (Option.some.inj h).symm⟩
  · split at h
    · rename_i h2
      exact .inr ⟨Nat.le_of_ble_eq_true h2, (Option.some.inj h).symm⟩
    · simp at h

/-- The cell of the result that the j-th row stands in, ahead and behind. -/
def SrcAt (k : Nat) (q : Option (Nat × Nat)) (c o : V) : Prop :=
  match q with
  | some (id, n) => c = .osl id n ∧ o = .osl k n
  | none => c = .nil ∧ o = .osl k 0

/-- The cells behind: each stands frozen, or is a row of the caller's own. -/
theorem ownCells_at {S : List (Nat × Blk)} : ∀ {tpl : List (Nat × Nat)} {k : Nat} {cs out : List V} {bl : List Blk} {src : List (Option (Nat × Nat))}, ownCells S k tpl cs = some (out, bl, src) →
    out.length = cs.length ∧ bl.length = src.length ∧ (∀ (j : Nat) (b : Blk), bl[j]? = some b → ∃ q, src[j]? = some q ∧ OutOk S q b) ∧
      ∀ p, p < cs.length → mem p (tpl.map fun q => q.1) = false ∨ ∃ (j : Nat) (q : Option (Nat × Nat)), src[j]? = some q ∧ SrcAt (k + j) q (cs.getD p .undef) (out.getD p .undef)
  | [], k, cs, out, bl, src, h => by
    simp only [ownCells, Option.some.injEq, Prod.mk.injEq] at h
    obtain ⟨rfl, rfl, rfl⟩ := h
    exact ⟨rfl, rfl, fun j b hb => by simp at hb, fun p hp => .inl rfl⟩
  | (p0, sz) :: r, k, cs, out, bl, src, h => by
    simp only [ownCells] at h
    have setg : ∀ (l : List V) (i p : Nat) (x : V), i < l.length → (l.set i x).getD p .undef = if p = i then x else l.getD p .undef := by
      intro l i p x hi
      by_cases e : p = i
      · subst e; simp [hi]
      · have : i ≠ p := fun e' => e e'.symm
        simp [e, List.getElem?_set_ne this]
    split at h
    · rename_i id n out1 bl1 src1 hc ho
      split at h
      · rename_i sz' n' g te hl h64
        split at h
        · rename_i t hsz ht
          have := natBeq.1 hsz
          subst this
          simp only [Option.some.injEq, Prod.mk.injEq] at h
          obtain ⟨rfl, rfl, rfl⟩ := h
          obtain ⟨h1, h2, h3, h4⟩ := ownCells_at ho
          have hp0 : p0 < cs.length := (List.getElem?_eq_some_iff.1 hc).1
          refine ⟨by simpa using h1, by simp [h2], fun j b hb => ?_, fun p hp => ?_⟩
          · cases j with
            | zero =>
              simp at hb
              subst hb
              exact ⟨some (id, n), by simp, sz', n', g, te, t, hl, Nat.le_of_ble_eq_true h64, rfl, outTag_or ht⟩
            | succ j =>
              obtain ⟨q, hq, ho⟩ := h3 j b (by simpa using hb)
              exact ⟨q, by simpa using hq, ho⟩
          · rw [setg _ _ _ _ (by omega)]
            by_cases e : p = p0
            · subst e
              right
              exact ⟨0, some (id, n), by simp, by simp [List.getD, hc], by simp⟩
            · rw [if_neg e]
              rcases h4 p hp with h5 | ⟨j, q, hq, h6⟩
              · exact .inl (by simp only [List.map_cons, mem, natBeqF.2 (fun e2 => e e2.symm : p0 ≠ p), Bool.false_or]; exact h5)
              · refine .inr ⟨j + 1, q, by simpa using hq, ?_⟩
                rw [show k + (j + 1) = k + 1 + j by omega]
                exact h6
        · simp at h
      · simp at h
    · rename_i out1 bl1 src1 hc ho
      simp only [Option.some.injEq, Prod.mk.injEq] at h
      obtain ⟨rfl, rfl, rfl⟩ := h
      obtain ⟨h1, h2, h3, h4⟩ := ownCells_at ho
      have hp0 : p0 < cs.length := (List.getElem?_eq_some_iff.1 hc).1
      refine ⟨by simpa using h1, by simp [h2], fun j b hb => ?_, fun p hp => ?_⟩
      · cases j with
        | zero =>
          simp at hb
          subst hb
          exact ⟨none, by simp, sz, rfl⟩
        | succ j =>
          obtain ⟨q, hq, ho⟩ := h3 j b (by simpa using hb)
          exact ⟨q, by simpa using hq, ho⟩
      · rw [setg _ _ _ _ (by omega)]
        by_cases e : p = p0
        · subst e
          right
          exact ⟨0, none, by simp, by simp [List.getD, hc], by simp⟩
        · rw [if_neg e]
          rcases h4 p hp with h5 | ⟨j, q, hq, h6⟩
          · exact .inl (by simp only [List.map_cons, mem, natBeqF.2 (fun e2 => e e2.symm : p0 ≠ p), Bool.false_or]; exact h5)
          · refine .inr ⟨j + 1, q, by simpa using hq, ?_⟩
            rw [show k + (j + 1) = k + 1 + j by omega]
            exact h6
    · simp at h

theorem finC_at {S : List (Nat × Blk)} {ps : List Nat} : ∀ {i : Nat} {cs out : List V}, out.length = cs.length → (finC S ps i cs out).length = cs.length ∧
    ∀ p, p < cs.length → (finC S ps i cs out).getD p .undef = match mem (i + p) ps with
      | true => out.getD p .undef
      | false => frzXA S 2 2 (cs.getD p .undef)
  | i, [], out, h => by cases out <;> simp [finC]
  | i, c :: cs, [], h => by simp at h
  | i, c :: cs, o :: os, h => by
    obtain ⟨h1, h2⟩ := finC_at (S := S) (ps := ps) (i := i + 1) (cs := cs) (out := os) (by simpa using h)
    refine ⟨by simp [finC, h1], fun p hp => ?_⟩
    cases p with
    | zero => simp only [finC, List.getD_cons_zero, Nat.add_zero]
    | succ p =>
      simp only [finC, List.getD_cons_succ]
      rw [h2 p (by simpa using hp), show i + (p + 1) = i + 1 + p by omega]
theorem lk_restS {S : List (Nat × Blk)} {ids : List Nat} {k : Nat} {b : Blk} (h : lk (restS S ids) k = some b) : lk S k = some b ∧ mem k ids = false := by
  unfold restS at h
  rw [lk_filter (fun k => !(mem k ids))] at h
  cases hm : mem k ids with
  | true => rw [hm] at h; simp at h
  | false => rw [hm] at h; exact ⟨by simpa using h, rfl⟩

/-- Each row that leaves stands somewhere in the result. -/
theorem ownCells_src {S : List (Nat × Blk)} : ∀ {tpl : List (Nat × Nat)} {k : Nat} {cs out : List V} {bl : List Blk} {src : List (Option (Nat × Nat))}, ownCells S k tpl cs = some (out, bl, src) →
    ∀ {j id n : Nat}, src[j]? = some (some (id, n)) → ∃ p, p < cs.length ∧ cs.getD p .undef = .osl id n
  | [], k, cs, out, bl, src, h, j, id, n, hj => by
    simp only [ownCells, Option.some.injEq, Prod.mk.injEq] at h
    obtain ⟨rfl, rfl, rfl⟩ := h
    simp at hj
  | (p0, sz) :: r, k, cs, out, bl, src, h, j, id, n, hj => by
    simp only [ownCells] at h
    split at h
    · rename_i id1 n1 out1 bl1 src1 hc ho
      split at h
      · split at h
        · simp only [Option.some.injEq, Prod.mk.injEq] at h
          obtain ⟨rfl, rfl, rfl⟩ := h
          cases j with
          | zero =>
            simp at hj
            obtain ⟨rfl, rfl⟩ := hj
            exact ⟨p0, (List.getElem?_eq_some_iff.1 hc).1, by simp [List.getD, hc]⟩
          | succ j => exact ownCells_src ho (j := j) (by simpa using hj)
        · simp at h
      · simp at h
    · rename_i out1 bl1 src1 hc ho
      simp only [Option.some.injEq, Prod.mk.injEq] at h
      obtain ⟨rfl, rfl, rfl⟩ := h
      cases j with
      | zero => simp at hj
      | succ j => exact ownCells_src ho (j := j) (by simpa using hj)
    · simp at h

theorem expA_rep {w : World} {Fr Fr' : Nat → Nat → Prop} {ι ι' : Iota} {v : V} {x : Value} (h : TRep w Fr ι v x) (hF : ∀ t b, 2 ≤ t → Fr t b → Fr' 2 b) : TRep w Fr' ι' (expA v) x := by
  cases h with
  | atom hv hp =>
    cases hp with
    | int => exact .atom rfl (.int _ _)
    | bool => exact .atom rfl (.bool _)
    | str => exact .atom rfl (.str _)
    | nil => exact .atom rfl (.nil _)
    | sl0 =>
      simp only [expA]
      split
      · exact .atom rfl (.sl0 _ _ _ _)
      · exact .atom rfl (.undef _)
    | sl cv hA hcap hsz hc hr =>
      simp only [expA]
      split
      · rename_i h2
        exact .atom rfl ((PRep.sl (t := 2) cv hA hcap hsz hc hr).weaken fun b hb => hF _ b (Nat.le_of_ble_eq_true h2) hb)
      · exact .atom rfl (.undef _)
    | ptr cv hA hc hr =>
      simp only [expA]
      split
      · rename_i h2
        exact .atom rfl ((PRep.ptr (t := 2) cv hA hc hr).weaken fun b hb => hF _ b (Nat.le_of_ble_eq_true h2) hb)
      · exact .atom rfl (.undef _)
    | agg => simp [isP] at hv
    | tup => simp [isP] at hv
    | fn => simp [isP] at hv
    | undef => exact .atom rfl (.undef _)
  | _ => exact .atom rfl (.undef _)

theorem srcIds_mem : ∀ {src : List (Option (Nat × Nat))} {j id n : Nat}, src[j]? = some (some (id, n)) → id ∈ srcIds src
  | [], j, _, _, h => by simp at h
  | q :: r, 0, id, n, h => by
    simp at h
    subst h
    exact List.mem_cons_self ..
  | q :: r, j + 1, id, n, h => by
    have := srcIds_mem (src := r) (j := j) (by simpa using h)
    cases q with
    | none => exact this
    | some p => exact List.mem_cons_of_mem _ this

theorem srcIds_inj : ∀ {src : List (Option (Nat × Nat))}, nodupB (srcIds src) = true → ∀ {j j' id n n' : Nat}, src[j]? = some (some (id, n)) → src[j']? = some (some (id, n')) → j = j'
  | [], _, j, _, _, _, _, h, _ => by simp at h
  | none :: r, hn, j, j', id, n, n', h, h' => by
    cases j with
    | zero => simp at h
    | succ j => cases j' with
      | zero => simp at h'
      | succ j' => rw [srcIds_inj (src := r) hn (j := j) (j' := j') (by simpa using h) (by simpa using h')]
  | some (a, b) :: r, hn, j, j', id, n, n', h, h' => by
    simp only [srcIds, nodupB, Bool.and_eq_true, Bool.not_eq_true'] at hn
    have hna := mem_false.1 hn.1
    cases j with
    | zero =>
      cases j' with
      | zero => rfl
      | succ j' =>
        simp at h
        obtain ⟨rfl, rfl⟩ := h
        exact absurd (srcIds_mem (src := r) (j := j') (by simpa using h')) hna
    | succ j =>
      cases j' with
      | zero =>
        simp at h'
        obtain ⟨rfl, rfl⟩ := h'
        exact absurd (srcIds_mem (src := r) (j := j) (by simpa using h)) hna
      | succ j' => rw [srcIds_inj (src := r) hn.2 (j := j) (j' := j') (by simpa using h) (by simpa using h')]

/-- Where the rows lie, as the caller calls them. -/
def outI (ι : Iota) (m : Nat) (src : List (Option (Nat × Nat))) : Iota := fun k =>
  match Nat.blt k m with
  | true => ι k
  | false => match src[k - m]? with
    | some (some (id, n)) => (ι id).map fun q => (q.1, q.2.1, n)
    | _ => none

theorem outI_lt {ι : Iota} {m k : Nat} {src : List (Option (Nat × Nat))} (h : k < m) : outI ι m src k = ι k := by
  unfold outI
  rw [show Nat.blt k m = true from Nat.ble_eq_true_of_le h]

theorem outI_ge {ι : Iota} {m j : Nat} {src : List (Option (Nat × Nat))} : outI ι m src (m + j) = match src[j]? with
    | some (some (id, n)) => (ι id).map fun q => (q.1, q.2.1, n)
    | _ => none := by
  unfold outI
  have : Nat.blt (m + j) m = false := by
    cases hb : Nat.blt (m + j) m with
    | false => rfl
    | true => have := Nat.le_of_ble_eq_true hb; omega
  rw [this, Nat.add_sub_cancel_left]

theorem cellsF_rep {w : World} {Fr : Nat → Nat → Prop} {ι : Iota} : ∀ {cs : List V} {f : Nat → Value}, (∀ j, j < cs.length → TRep w Fr ι (cs.getD j .undef) (f j)) → ∀ p, p < (cs.flatMap cellsF).length → ∃ y, TRep w Fr ι ((cs.flatMap cellsF).getD p .undef) y
  | [], f, h, p, hp => by simp at hp
  | c :: r, f, h, p, hp => by
    rw [List.flatMap_cons] at hp ⊢
    rcases Nat.lt_or_ge p (cellsF c).length with hlt | hge
    · have e : (cellsF c ++ r.flatMap cellsF).getD p .undef = (cellsF c).getD p .undef := by simp [List.getD, List.getElem?_append_left hlt]
      rw [e]
      have h0 : TRep w Fr ι c (f 0) := by simpa using h 0 (by simp)
      generalize f 0 = v0 at h0
      by_cases hag : ∃ l, c = .agg l
      · obtain ⟨l, rfl⟩ := hag
        cases h0 with
        | atom hv _ => simp [isP] at hv
        | agg arr hs hrr => exact ⟨_, hrr p hlt⟩
      · have e2 : cellsF c = [c] := by cases c <;> first | rfl | exact absurd ⟨_, rfl⟩ hag
        rw [e2] at hlt ⊢
        have : p = 0 := by simpa using hlt
        subst this
        exact ⟨_, by simpa using h0⟩
    · have e : (cellsF c ++ r.flatMap cellsF).getD p .undef = (r.flatMap cellsF).getD (p - (cellsF c).length) .undef := by simp [List.getD, List.getElem?_append_right hge]
      rw [e]
      exact cellsF_rep (f := fun j => f (j + 1)) (fun j hj => by simpa using h (j + 1) (by simpa using hj)) _ (by rw [List.length_append] at hp; omega)

theorem cellT_rep {w : World} {Fr : Nat → Nat → Prop} {ι : Iota} {r : V} {x : Value} (hr : TRep w Fr ι r x) (p : Nat) (hp : p < (cellsT r).length) : ∃ y, TRep w Fr ι ((cellsT r).getD p .undef) y := by
  have one : cellsT r = [r] → ∃ y, TRep w Fr ι ((cellsT r).getD p .undef) y := fun e => by
    rw [e] at hp ⊢
    have h0 : p = 0 := by simpa using hp
    subst h0
    exact ⟨x, by simpa using hr⟩
  by_cases hag : ∃ cs, r = .agg cs
  · obtain ⟨cs, rfl⟩ := hag
    cases hr with
    | atom hv _ => simp [isP] at hv
    | agg arr hs hrr => exact ⟨_, hrr p hp⟩
  by_cases htu : ∃ cs, r = .tup cs
  · obtain ⟨cs, rfl⟩ := htu
    cases hr with
    | atom hv _ => simp [isP] at hv
    | tup arr hs hrr => exact cellsF_rep (f := fun j => arr.getD j Go.undef) hrr p hp
  · refine one ?_
    cases r <;> first | rfl | exact absurd ⟨_, rfl⟩ hag | exact absurd ⟨_, rfl⟩ htu

theorem regroup_len : ∀ (cs out : List V), (regroup cs out).length = cs.length
  | [], _ => rfl
  | c :: r, out => by cases c <;> simp [regroup, regroup_len r]

theorem regroup_rep {w : World} {Fr Fr' : Nat → Nat → Prop} {ι ι' : Iota} : ∀ {cs out : List V}, out.length = (cs.flatMap cellsF).length →
    (∀ p, p < (cs.flatMap cellsF).length → ∀ y, TRep w Fr ι ((cs.flatMap cellsF).getD p .undef) y → TRep w Fr' ι' (out.getD p .undef) y) →
    ∀ j, j < cs.length → ∀ y, TRep w Fr ι (cs.getD j .undef) y → TRep w Fr' ι' ((regroup cs out).getD j .undef) y
  | [], out, hl, hc, j, hj, y, hy => by simp at hj
  | c :: r, out, hl, hc, j, hj, y, hy => by
    rw [List.flatMap_cons] at hl hc
    rw [List.length_append] at hl hc
    have rest : ∀ k, k = (cellsF c).length → ∀ j, j < r.length → ∀ y, TRep w Fr ι (r.getD j .undef) y → TRep w Fr' ι' ((regroup r (out.drop k)).getD j .undef) y := by
      intro k hk
      subst hk
      refine regroup_rep (by rw [List.length_drop]; omega) fun p hp y hy => ?_
      have e1 : (out.drop (cellsF c).length).getD p .undef = out.getD ((cellsF c).length + p) .undef := by simp [List.getD, List.getElem?_drop]
      rw [e1]
      refine hc _ (by omega) y ?_
      have e2 : (cellsF c ++ r.flatMap cellsF).getD ((cellsF c).length + p) .undef = (r.flatMap cellsF).getD p .undef := by simp [List.getD, List.getElem?_append_right]
      rw [e2]
      exact hy
    have here : ∀ p, p < (cellsF c).length → ∀ y, TRep w Fr ι ((cellsF c).getD p .undef) y → TRep w Fr' ι' (out.getD p .undef) y := by
      intro p hp y hy
      refine hc p (by omega) y ?_
      have e : (cellsF c ++ r.flatMap cellsF).getD p .undef = (cellsF c).getD p .undef := by simp [List.getD, List.getElem?_append_left hp]
      rw [e]
      exact hy
    by_cases hag : ∃ l, c = .agg l
    · obtain ⟨l, rfl⟩ := hag
      cases j with
      | zero =>
        simp only [regroup, List.getD_cons_zero] at hy ⊢
        cases hy with
        | atom hv _ => simp [isP] at hv
        | agg arr hs hrr =>
          have hll : (cellsF (.agg l)).length = l.length := rfl
          refine .agg arr (by rw [List.length_take]; omega) fun i hi => ?_
          rw [List.length_take] at hi
          have e : (out.take l.length).getD i .undef = out.getD i .undef := by
            have : i < l.length := by omega
            simp [List.getD, List.getElem?_take, this]
          rw [e]
          exact here i (by omega) _ (hrr i (by omega))
      | succ j =>
        simp only [regroup, List.getD_cons_succ] at hy ⊢
        exact rest l.length rfl j (by simpa using hj) y hy
    · have e2 : cellsF c = [c] := by cases c <;> first | rfl | exact absurd ⟨_, rfl⟩ hag
      have e3 : regroup (c :: r) out = out.headD .undef :: regroup r (out.drop 1) := by cases c <;> first | rfl | exact absurd ⟨_, rfl⟩ hag
      rw [e3]
      cases j with
      | zero =>
        simp only [List.getD_cons_zero] at hy ⊢
        have := here 0 (by rw [e2]; simp) y (by rw [e2]; simpa using hy)
        cases out with
        | nil => simpa using this
        | cons o os => simpa using this
      | succ j =>
        simp only [List.getD_cons_succ] at hy ⊢
        exact rest 1 (by rw [e2]; rfl) j (by simpa using hj) y hy

theorem elemT_rep {w : World} {Fr Fr' : Nat → Nat → Prop} {ι ι' : Iota} {r : V} {x : Value} {out : List V} (hr : TRep w Fr ι r x) (hl : out.length = (cellsT r).length)
    (hc : ∀ p, p < (cellsT r).length → ∀ y, TRep w Fr ι ((cellsT r).getD p .undef) y → TRep w Fr' ι' (out.getD p .undef) y) : TRep w Fr' ι' (elemT r out) x := by
  by_cases hag : ∃ cs, r = .agg cs
  · obtain ⟨cs, rfl⟩ := hag
    cases hr with
    | atom hv _ => simp [isP] at hv
    | agg arr hs hrr =>
      refine .agg arr (by rw [hl]; exact hs) fun j hj => ?_
      rw [hl] at hj
      exact hc j hj _ (hrr j hj)
  by_cases htu : ∃ cs, r = .tup cs
  · obtain ⟨cs, rfl⟩ := htu
    cases hr with
    | atom hv _ => simp [isP] at hv
    | tup arr hs hrr =>
      refine .tup arr (by rw [regroup_len]; exact hs) fun j hj => ?_
      rw [regroup_len] at hj
      exact regroup_rep hl hc j hj _ (hrr j hj)
  · have h2 : cellsT r = [r] := by
      cases r <;> first | rfl | exact absurd ⟨_, rfl⟩ hag | exact absurd ⟨_, rfl⟩ htu
    have h1 : elemT r out = out.headD .undef := by
      cases r <;> first | rfl | exact absurd ⟨_, rfl⟩ hag | exact absurd ⟨_, rfl⟩ htu
    have h3 := hc 0 (by rw [h2]; simp) x (by rw [h2]; simpa using hr)
    rw [h1]
    have h4 : out.length = 1 := by rw [hl, h2]; rfl
    match out, h4 with
    | [c], _ => simpa using h3

section
variable {g : G} {s : AS} {a : Act} {w : World} {ι : Iota} {Fr : Nat → Nat → Prop} (h : Rel g s a w ι Fr)
include h

/-- What leaves a call: the result, the blocks, and that all is as it was else. -/
theorem exportO_rep {tpl : List (Nat × Nat)} {m : Nat} {r r' : V} {bs : List Blk} {x : Value} (hm : m < 64) (he : exportO tpl m s.S r = some (r', bs)) (hr : TRep w Fr ι r x) :
    ∃ ι' Fr', TRep w Fr' ι' r' x ∧ Ext g.w0 w g.X0 g.io g.ι0 m bs ι' Fr' := by
  unfold exportO at he
  split at he
  case h_2 => simp at he
  case h_1 hb out bl src hh hc =>
    split at he
    case h_2 => simp at he
    case h_1 hn =>
      simp only [Option.some.injEq, Prod.mk.injEq] at he
      obtain ⟨rfl, rfl⟩ := he
      obtain ⟨hbl, hbat⟩ := handed_at hh
      obtain ⟨c1, c2, c3, c4⟩ := ownCells_at hc
      have hnx : ∀ b, g.w0.heap.size ≤ b → ¬ g.X0 b := fun b hb hx => by have := (h.x0 b hx).1; omega
      -- the blocks that leave
      have hat : ∀ k blk, (hb ++ bl)[k]? = some blk → (k < m ∧ ∃ blk0, lk s.S k = some blk0 ∧ HandAt blk0 blk) ∨ (∃ j q, k = m + j ∧ src[j]? = some q ∧ OutOk s.S q blk) := by
        intro k blk hk
        rcases Nat.lt_or_ge k m with hlt | hge
        · obtain ⟨blk0, out, h1, h2, h3⟩ := hbat k hlt
          rw [List.getElem?_append_left (by omega), h2] at hk
          have := Option.some.inj hk
          subst this
          exact .inl ⟨hlt, blk0, h1, h3⟩
        · rw [List.getElem?_append_right (by omega)] at hk
          obtain ⟨q, hq, ho⟩ := c3 _ blk hk
          exact .inr ⟨k - hb.length, q, by omega, hq, ho⟩
      let Out : Nat → Prop := fun b => ∃ k blk q, (hb ++ bl)[k]? = some blk ∧ outI ι m src k = some q ∧ q.1 = b
      let Fr' : Nat → Nat → Prop := fun t b => outFr g.w0 w g.X0 t b ∧ ¬ Out b
      -- each of them is a block of one's own in the state
      have hown : ∀ k blk q, (hb ++ bl)[k]? = some blk → outI ι m src k = some q → ∃ id blk0 q0, lk s.S id = some blk0 ∧ ι id = some q0 ∧ q0.1 = q.1 ∧
          ((k < m ∧ id = k) ∨ (64 ≤ id ∧ ∃ j n, k = m + j ∧ src[j]? = some (some (id, n)))) := by
        intro k blk q hk hq
        rcases hat k blk hk with ⟨hlt, blk0, hl, hh⟩ | ⟨j, p, rfl, hp, ho⟩
        · rw [outI_lt hlt] at hq
          exact ⟨k, _, q, hl, hq, rfl, .inl ⟨hlt, rfl⟩⟩
        · rw [outI_ge, hp] at hq
          cases p with
          | none => simp at hq
          | some p =>
            obtain ⟨id, n⟩ := p
            obtain ⟨sz, n', f, te, t, hl, h64, _, _⟩ := ho
            simp only [Option.map_eq_some_iff] at hq
            obtain ⟨q0, hq0, rfl⟩ := hq
            exact ⟨id, _, q0, hl, hq0, rfl, .inr ⟨h64, j, n, rfl, hp⟩⟩
      have hFr : ∀ t b, Fr t b → 2 ≤ t → Fr' 2 b := by
        intro t b hf h2
        refine ⟨⟨by decide, (h.fr t b hf).1, (h.fr t b hf).2.1, fun _ => ⟨h.fr2 t b h2 hf, h.cl t b h2 hf⟩⟩, ?_⟩
        rintro ⟨k, blk, q, hk, hq, rfl⟩
        obtain ⟨id, blk0, q0, hl, hi, e, _⟩ := hown k blk q hk hq
        exact (h.fr t _ hf).2.2 id blk0 q0 hl hi e
      have hF1 : ∀ t b, Fr t b → Fr' 1 b := by
        intro t b hf
        refine ⟨⟨by decide, (h.fr t b hf).1, (h.fr t b hf).2.1, fun h2 => by omega⟩, ?_⟩
        rintro ⟨k, blk, q, hk, hq, rfl⟩
        obtain ⟨id, blk0, q0, hl, hi, e, _⟩ := hown k blk q hk hq
        exact (h.fr t _ hf).2.2 id blk0 q0 hl hi e
      have h' : Rel g { s with S := [] } a w ι Fr := h.less (fun _ _ q => q) (fun k b q => by simp [lk] at q)
      obtain ⟨f1, f2⟩ := finC_at (S := restS s.S (srcIds src)) (ps := tpl.map fun q => q.1) (i := 0) c1
      have hR : Rel g { s with S := restS s.S (srcIds src) } a w ι Fr := h.less (fun _ _ q => q) (fun k b q => (lk_restS q).1)
      have hcell : ∀ p, p < (cellsT r).length → ∀ y, TRep w Fr ι ((cellsT r).getD p .undef) y → TRep w Fr' (outI ι m src) ((finC (restS s.S (srcIds src)) (tpl.map fun q => q.1) 0 (cellsT r) out).getD p .undef) y := by
        intro p hp y hy
        rw [f2 p hp, Nat.zero_add]
        cases hmp : mem p (tpl.map fun q => q.1) with
        | false =>
          simp only []
          refine frzXA_rep hR (A := fun b => Fr' 2 b) (fun t b h2 hf => hFr t b hf h2) (fun id blk q h64 hl hi hcc => ?_) (fun b hb => hb) hy
          obtain ⟨b, sz, nn⟩ := q
          obtain ⟨hl', hns⟩ := lk_restS hl
          obtain ⟨h1, h2⟩ := h.own id blk b sz nn hl' hi
          have hb : g.w0.heap.size ≤ b := by
            rcases h2 with h2 | h2
            · exact h2
            · omega
          refine ⟨⟨by decide, h1.lt, hnx b hb, fun _ => ⟨hb, h1.cl hcc⟩⟩, ?_⟩
          rintro ⟨k, blk2, q2, hk2, hq2, e2⟩
          obtain ⟨id2, blk3, q3, hl3, hi3, e3, ho3⟩ := hown k blk2 q2 hk2 hq2
          have hid := h.inj id id2 blk blk3 _ q3 hl' hl3 hi hi3 (by rw [e3, e2])
          subst hid
          rcases ho3 with ⟨hlt, rfl⟩ | ⟨_, j, n, _, hj⟩
          · omega
          · have := srcIds_mem hj
            rw [mem_iff.2 this] at hns
            cases hns
        | true =>
        simp only []
        rcases c4 p hp with h5 | ⟨j, q, hq, h6⟩
        · rw [hmp] at h5; cases h5
        · cases q with
          | none =>
            obtain ⟨h7, h8⟩ := h6
            rw [h7] at hy
            rw [h8]
            obtain ⟨ad, rfl⟩ := nil_inv hy
            exact .osl0 ad (by rw [outI_ge, hq])
          | some q =>
            obtain ⟨id, n⟩ := q
            obtain ⟨h7, h8⟩ := h6
            rw [h7] at hy
            rw [h8]
            cases hy with
            | atom hv _ => simp [isP] at hv
            | osl hi hn' hcap hsh hcs => exact .osl (by rw [outI_ge, hq]; simp only []; rw [hi]; rfl) (Nat.le_refl _) hcap hsh hcs
            | osl0 ad hi => exact .osl0 ad (by rw [outI_ge, hq]; simp only []; rw [hi]; rfl)
      have hrep : TRep w Fr' (outI ι m src) (elemT r (finC (restS s.S (srcIds src)) (tpl.map fun q => q.1) 0 (cellsT r) out)) x := elemT_rep hr f1 hcell
      refine ⟨outI ι m src, Fr', hrep, ?_⟩
      have hS : ∀ b, ¬ Fr' tagS b := fun b hb => hb.1.1 rfl
      exact
        { own := fun k blk b sz n hk hi => by
            rcases hat k blk hk with ⟨hlt, blk0, hl, hh⟩ | ⟨j, p, rfl, hp, ho⟩
            · rw [outI_lt hlt] at hi
              obtain ⟨h1, h2⟩ := h.own k _ b sz n hl hi
              refine ⟨?_, h2.imp id fun h2 => ⟨h2.1, hlt⟩⟩
              rcases hh with ⟨sz1, n1, f, te, rfl, rfl⟩ | ⟨cs, rfl, rfl⟩
              · obtain ⟨e1, e2, cells, e, q1, q2, q3, q4⟩ := h1
                refine ⟨e1, e2, cells, e, q1, q2, q3, fun i j hi hj => (q4 i j hi hj).weaken fun b hb => ?_⟩
                unfold handTag
                split
                · rename_i ht
                  rw [natBeq.1 ht] at hb
                  exact absurd hb (h.frS b)
                · exact hF1 te b hb
              · obtain ⟨cells, e, hh, hsz, hr⟩ := h1
                refine ⟨cells, e, hh, by simpa using hsz, fun j hj => ?_⟩
                have hj' : j < cs.length := by simpa using hj
                have e1 : (cs.map (frzXA [] 0 1)).getD j .undef = frzXA [] 0 1 (cs.getD j .undef) := by simp [List.getD, hj']
                rw [e1]
                exact frzXA_rep (s := { s with S := [] }) (lim := 0) h' (A := fun b => Fr' 1 b) (fun t b _ hf => hF1 t b hf) (fun id blk r _ q => by simp [lk] at q) (fun b hb => hb) (hr j hj')
            · rw [outI_ge, hp] at hi
              cases p with
              | none => simp at hi
              | some p =>
                obtain ⟨id, nn⟩ := p
                obtain ⟨sz1, n1, f, te, t, hl, h64, rfl, htag⟩ := ho
                simp only [Option.map_eq_some_iff] at hi
                obtain ⟨⟨b0, sz0, m0⟩, hq0, e⟩ := hi
                simp only [Prod.mk.injEq] at e
                obtain ⟨rfl, rfl, rfl⟩ := e
                obtain ⟨h1, h2⟩ := h.own id _ b0 sz0 m0 hl hq0
                obtain ⟨rfl, rfl, cells, e, q1, q2, q3, q4⟩ := h1
                have hb0 : g.w0.heap.size ≤ b0 := by
                  rcases h2 with h2 | ⟨_, h2⟩
                  · exact h2
                  · omega
                -- how long the slice is
                have hle : nn ≤ n1 := by
                  -- the cell of the result says so
                  obtain ⟨p, hp1, hp2⟩ : ∃ p, p < (cellsT r).length ∧ (cellsT r).getD p .undef = .osl id nn := ownCells_src hc hp
                  have : ∃ y, TRep w Fr ι (.osl id nn) y := by
                    have := cellT_rep hr p hp1
                    rwa [hp2] at this
                  obtain ⟨y, hy⟩ := this
                  cases hy with
                  | atom hv _ => simp [isP] at hv
                  | osl hi hn' hcap hsh hcs =>
                    rw [hq0] at hi
                    simp only [Option.some.injEq, Prod.mk.injEq] at hi
                    obtain ⟨_, _, rfl⟩ := hi
                    exact hn'
                  | osl0 ad hi => exact Nat.zero_le _
                refine ⟨⟨rfl, rfl, cells, e, q1, ?_, fun i hi => q3 i (by omega), fun i j hi hj => ?_⟩, .inl hb0⟩
                · have := Nat.mul_le_mul_right sz1 hle
                  omega
                · have h9 := q4 i j (by omega) hj
                  rcases htag with ⟨rfl, rfl⟩ | ⟨h2t, rfl⟩
                  · exact h9.weaken fun b hb => absurd hb (h.frS b)
                  · exact h9.weaken fun b hb => hFr te b hb h2t
          nob := fun k blk hk hi => by
            rcases hat k blk hk with ⟨hlt, blk0, hl, hh⟩ | ⟨j, p, rfl, hp, ho⟩
            · rw [outI_lt hlt] at hi
              obtain ⟨sz, f, te, e⟩ := h.nob k _ hl hi
              rcases hh with ⟨sz1, n1, f1, te1, rfl, rfl⟩ | ⟨cs, rfl, rfl⟩
              · simp only [Blk.arr.injEq] at e
                obtain ⟨rfl, rfl, rfl, rfl⟩ := e
                exact ⟨_, _, _, rfl⟩
              · cases e
            · cases p with
              | none =>
                obtain ⟨sz, rfl⟩ := ho
                exact ⟨_, _, _, rfl⟩
              | some p =>
                obtain ⟨id, nn⟩ := p
                obtain ⟨sz1, n1, f, te, t, hl, h64, rfl, htag⟩ := ho
                rw [outI_ge, hp] at hi
                simp only [Option.map_eq_none_iff] at hi
                obtain ⟨p, hp1, hp2⟩ : ∃ p, p < (cellsT r).length ∧ (cellsT r).getD p .undef = .osl id nn := ownCells_src hc hp
                have : ∃ y, TRep w Fr ι (.osl id nn) y := by
                  have := cellT_rep hr p hp1
                  rwa [hp2] at this
                obtain ⟨y, hy⟩ := this
                cases hy with
                | atom hv _ => simp [isP] at hv
                | osl hi' => rw [hi] at hi'; cases hi'
                | osl0 ad hi' => exact ⟨_, _, _, rfl⟩
          inj := fun k k' blk blk' q q' h1 h2 h3 h4 h5 => by
            obtain ⟨id, b0, q0, hl, hi, e, ho⟩ := hown k blk q h1 h3
            obtain ⟨id', b0', q0', hl', hi', e', ho'⟩ := hown k' blk' q' h2 h4
            have hid := h.inj id id' b0 b0' q0 q0' hl hl' hi hi' (by rw [e, e', h5])
            subst hid
            rcases ho with ⟨_, rfl⟩ | ⟨h64, j, n, rfl, hj⟩ <;> rcases ho' with ⟨hlt', e1⟩ | ⟨h64', j', n', rfl, hj'⟩
            · exact e1
            · omega
            · omega
            · rw [srcIds_inj hn hj hj']
          fr := fun t b hb' => ⟨hb'.1.2.1, hb'.1.2.2.1, fun k blk q hk hq e => hb'.2 ⟨k, blk, q, hk, hq, e⟩⟩
          frS := hS
          fr0 := fun t b hb' => ⟨⟨by decide, hb'.1.2.1, hb'.1.2.2.1, fun h2 => by omega⟩, hb'.2⟩
          fr2 := fun t b h2 hb' => (hb'.1.2.2.2 h2).1
          cl := fun t b h2 hb' => (hb'.1.2.2.2 h2).2
          same := fun k hk => by rw [outI_lt hk]; exact h.low k (by omega)
          os := h.os, tape := h.tape, output := h.output, hsize := h.hsize, frame := h.frame, shape := h.shape }

end

theorem binle_ext {w w' : World} {X0 io : Nat → Prop} {ι ι' : Iota} {m : Nat} {bs bout : List Blk} {Fr : Nat → Nat → Prop} (h : Ext w w' X0 io ι m bs ι' Fr) (hle : BinLe bs bout) : Ext w w' X0 io ι m bout ι' Fr :=
  { h with
    own := fun id blk b sz k hk hi => by
      obtain ⟨c, hc, hl⟩ := hle.at hk
      obtain ⟨h1, h2⟩ := h.own id c b sz k hc hi
      exact ⟨hl.le _ _ _ _ _ _ h.frS h.fr0 h1, h2⟩
    nob := fun id blk hk hi => by
      obtain ⟨c, hc, hl⟩ := hle.at hk
      exact hl.nob (h.nob id c hc hi)
    inj := fun id id' blk blk' r r' h1 h2 => by
      obtain ⟨c, hc, _⟩ := hle.at h1
      obtain ⟨c', hc', _⟩ := hle.at h2
      exact h.inj id id' c c' r r' hc hc'
    fr := fun t b hb => ⟨(h.fr t b hb).1, (h.fr t b hb).2.1, fun id blk r hk => by
      obtain ⟨c, hc, _⟩ := hle.at hk
      exact (h.fr t b hb).2.2 id c r hc⟩ }

theorem sound_of_bodyO {P : Program} (hm : P.follows .mixedOrders = true) {f : Nat} {fn : Func} {c : Code} {D : FSpec} {tpl : List (Nat × Nat)}
    (hf : P.funcs[f]? = some fn) (hb : fn.body = some c) (hn : (fn.name == "runtime.NumGoroutine") = false)
    (hbody : ∀ args bin ob r bout, D args bin = some (ob, r, bout) → ob → args.length ≤ fn.ntmps ∧
      ∃ cx : Cx, TabOk P cx.tt ∧ SoundAll P cx.D ∧ SoundAllM P cx.M ∧ cx.nt = fn.ntmps ∧ ∃ args' bin', ArgsLe args args' ∧ BinLe bin bin' ∧ bodyO cx fn tpl args' bin' (fun r' bs => VLe r' r ∧ BinLe bs bout)) : Sound P f D := by
  refine ⟨?_⟩
  intro args bin ob r bout hDe hob vals w X0 io ι Fr hE hsize hvals
  refine .inl ⟨enters_of hf hb hn _ _, ?_⟩
  obtain ⟨hlen, cx, hT, hD, hM, hnt, args', bin', ⟨hl', hle⟩, hbin, hp⟩ := hbody args bin ob r bout hDe hob
  have hbl := hbin.len
  let g : G := ⟨w, X0, io, fn.ntmps, ι⟩
  have hS : ∀ id blk, lk (enterS bin' 0) id = some blk → ∃ c, bin[id]? = some c ∧ BLe c blk ∧ id < 64 := by
    intro id blk hl
    obtain ⟨j, rfl, hj⟩ := lk_enterS hl
    rw [Nat.zero_add]
    obtain ⟨c, hc, hle⟩ := hbin.at hj
    have h1 := (List.getElem?_eq_some_iff.1 hc).1
    have h2 := hE.few
    exact ⟨c, hc, hle, by omega⟩
  have hrel : Rel g ⟨enterT args' 0, enterS bin' 0⟩ { tmps := vals ++ Array.replicate (fn.ntmps - vals.size) Go.undef, defers := [] } w ι Fr := by
    refine
      { defers := rfl
        size := by show (vals ++ Array.replicate (fn.ntmps - vals.size) Go.undef).size = fn.ntmps; simp; omega
        tmp := ?_
        own := fun id blk b sz m hl hi => by
          obtain ⟨c, hc, hle, h64⟩ := hS id blk hl
          obtain ⟨h1, h2⟩ := hE.own id c b sz m hc hi
          exact ⟨hle.le _ _ _ _ _ _ hE.frS hE.fr0 h1, .inr ⟨h2, h64⟩⟩
        nob := fun id blk hl hi => by
          obtain ⟨c, hc, hle, h64⟩ := hS id blk hl
          exact hle.nob (hE.nob id c hc hi)
        inj := fun id id' blk blk' r r' h1 h2 => by
          obtain ⟨c, hc, _⟩ := hS id blk h1
          obtain ⟨c', hc', _⟩ := hS id' blk' h2
          exact hE.inj id id' c c' r r' hc hc'
        fr := fun t b hb => ⟨(hE.fr t b hb).1, (hE.fr t b hb).2.1, fun id blk r hl => by
          obtain ⟨c, hc, _⟩ := hS id blk hl
          exact (hE.fr t b hb).2.2 id c r hc⟩
        frS := hE.frS
        fr0 := hE.fr0
        fr2 := fun t b h2 hb => absurd hb (hE.fr2 t b h2)
        fr1 := fun b hb => (hE.fr 1 b hb).1
        cl := fun t b h2 hb => absurd hb (hE.fr2 t b h2)
        low := fun _ _ => rfl
        x0 := hE.x0
        io0 := hE.io0
        os := rfl, tape := rfl, output := rfl, hsize := Nat.le_refl _, frame := fun _ _ _ => rfl, shape := fun _ _ h => h }
    intro t v ht
    obtain ⟨j, rfl, hj⟩ := lk_enterT ht
    rw [Nat.zero_add]
    have hj' : j < args'.length := (List.getElem?_eq_some_iff.1 hj).1
    have e1 : args'.getD j .undef = v := by simp [List.getD, hj]
    have e2 : (vals ++ Array.replicate (fn.ntmps - vals.size) Go.undef).getD j Go.undef = vals.getD j Go.undef := by
      have hjv : j < vals.size := by omega
      simp only [Array.getD_eq_getD_getElem?]
      rw [Array.getElem?_append_left hjv]
    have := (hle j (by omega)).le w Fr ι _ hE.frS hE.fr0 (hvals j (by omega))
    rw [e1] at this
    show TRep w Fr ι v ((vals ++ Array.replicate (fn.ntmps - vals.size) Go.undef).getD j Go.undef)
    rw [e2]; exact this
  have hfin : ∀ (s : AS) (a : Act) (w' : World) (ι' : Iota) (Fr' : Nat → Nat → Prop), Rel g s a w' ι' Fr' → (∃ r0 r1 bs, resV cx.tt s fn.results.toList = some r0 ∧ exportO tpl bin'.length s.S r0 = some (r1, bs) ∧ VLe r1 r ∧ BinLe bs bout) →
      a.defers = [] ∧ ∃ v, (results fn a.tmps).run P w' = .ok v w' ∧ ∃ v' ι'' Fr'', Ending.returned v = .returned v' ∧ TRep w' Fr'' ι'' r v' ∧ Ext w w' X0 io ι bin.length bout ι'' Fr'' := by
    rintro s a w' ι' Fr' hr ⟨r0, r1, bs, hr0, hex, hv, hbs⟩
    obtain ⟨v, hrun, hrep⟩ := resV_run (P := P) hT hr hr0
    obtain ⟨ι2, Fr2, h1, h2⟩ := exportO_rep hr (by have := hE.few; omega) hex hrep
    rw [hbl] at h2
    exact ⟨hr.defers, v, hrun, v, ι2, Fr2, rfl, hv.le w' _ ι2 v h2.frS h2.fr0 h1, binle_ext h2 hbs⟩
  unfold bodyO at hp
  rw [hb] at hp
  refine calls_of_wp hf hb (awp_sound hT hD hM hm (g := g) (hnt.trans rfl) c _ _ ?_ _ _ w ι Fr hp hrel)
  intro e s a w' ι' Fr' he hr
  cases e with
  | normal =>
    simp only [] at he
    split at he
    · rename_i r0 hr0
      split at he
      · rename_i r1 bs hex
        exact hfin s a w' ι' Fr' hr ⟨r0, r1, bs, hr0, hex, he⟩
      · exact he.elim
    · exact he.elim
  | ret =>
    simp only [] at he
    split at he
    · rename_i r0 hr0
      split at he
      · rename_i r1 bs hex
        exact hfin s a w' ι' Fr' hr ⟨r0, r1, bs, hr0, hex, he⟩
      · exact he.elim
    · exact he.elim
  | _ => exact he.elim

end Go.Av

/- Bodies that are handed boxes and tell frozen results; bodies that tell a box of their own. -/
namespace Go.Av
set_option linter.unusedVariables false
set_option linter.unusedSimpArgs false

/-! ### A box of one's own as the result -/
@[irreducible] def bodyB (cx : Cx) (fn : Func) (args : List V) (K : List V → Prop) : Prop :=
  match fn.body with
  | some c => awp cx c (fun e s =>
      match e with
      | .normal => match resV cx.tt s fn.results.toList with
        | some (.oref id i off) => match Nat.beq i 0 && Nat.beq off 0 && Nat.ble 64 id, lk s.S id with
          | true, some (.box cs) => K (cs.map (frzXA (del s.S id) 0 1))
          | _, _ => False
        | _ => False
      | .ret => match resV cx.tt s fn.results.toList with
        | some (.oref id i off) => match Nat.beq i 0 && Nat.beq off 0 && Nat.ble 64 id, lk s.S id with
          | true, some (.box cs) => K (cs.map (frzXA (del s.S id) 0 1))
          | _, _ => False
        | _ => False
      | _ => False) ⟨enterT args 0, []⟩
  | none => False

theorem exportB_rep {g : G} {s : AS} {a : Act} {w : World} {ι : Iota} {Fr : Nat → Nat → Prop} (h : Rel g s a w ι Fr) {id : Nat} {cs : List V} {x : Value} (h64 : 64 ≤ id) (hl : lk s.S id = some (.box cs)) (hr : TRep w Fr ι (.oref id 0 0) x) :
    ∃ ι' Fr', TRep w Fr' ι' (.oref 0 0 0) x ∧ Ext g.w0 w g.X0 g.io g.ι0 0 [.box (cs.map (frzXA (del s.S id) 0 1))] ι' Fr' := by
  have hnx : ∀ b, g.w0.heap.size ≤ b → ¬ g.X0 b := fun b hb hx => by have := (h.x0 b hx).1; omega
  cases hr with
  | atom hv _ => simp [isP] at hv
  | @oref _ _ _ b sz m hi him =>
    obtain ⟨h1, h2⟩ := h.own id _ b sz m hl hi
    have hb : g.w0.heap.size ≤ b := by
      rcases h2 with h2 | h2
      · exact h2
      · omega
    let ι' : Iota := fun k => if k = 0 then some (b, sz, m) else none
    let Fr' : Nat → Nat → Prop := fun t c => outFr g.w0 w g.X0 t c ∧ c ≠ b
    have hA1 : ∀ t c, 0 ≤ t → Fr t c → (c < w.heap.size ∧ ¬ g.X0 c ∧ c ≠ b) := fun t c _ hf => ⟨(h.fr t c hf).1, (h.fr t c hf).2.1, fun e => (h.fr t c hf).2.2 id _ _ hl hi e.symm⟩
    have hdel : ∀ k blk, lk (del s.S id) k = some blk → k ≠ id ∧ lk s.S k = some blk := by
      intro k blk hk
      rw [lk_del] at hk
      split at hk
      · cases hk
      · rename_i e; exact ⟨e, hk⟩
    have h' : Rel g { s with S := del s.S id } a w ι Fr := h.less (fun _ _ q => q) (fun k blk q => (hdel k blk q).2)
    have hO1 : ∀ k blk r, 64 ≤ k → lk (del s.S id) k = some blk → ι k = some r → isC blk = true → (r.1 < w.heap.size ∧ ¬ g.X0 r.1 ∧ r.1 ≠ b) := by
      intro k blk r hk hlk0 hik hcc
      obtain ⟨hne, hlk⟩ := hdel k blk hlk0
      obtain ⟨c, sz', m'⟩ := r
      obtain ⟨g1, g2⟩ := h.own k blk c sz' m' hlk hik
      refine ⟨g1.lt, hnx c ?_, fun e => ?_⟩
      · rcases g2 with g2 | g2
        · exact g2
        · omega
      · exact hne (h.inj k id blk (.box cs) _ _ hlk hl hik hi e)
    have he : ∀ k out, [Blk.box (cs.map (frzXA (del s.S id) 0 1))][k]? = some out → k = 0 ∧ out = .box (cs.map (frzXA (del s.S id) 0 1)) := by
      intro k out hk
      cases k with
      | zero => simp at hk; exact ⟨rfl, hk.symm⟩
      | succ k => simp at hk
    refine ⟨ι', Fr', ?_, ?_⟩
    · exact .oref (show ι' 0 = some (b, sz, m) from rfl) him
    exact
      { own := fun k out c sz' n hk hik => by
          obtain ⟨rfl, rfl⟩ := he k out hk
          have e1 : ι' 0 = some (b, sz, m) := rfl
          rw [e1] at hik
          simp only [Option.some.injEq, Prod.mk.injEq] at hik
          obtain ⟨rfl, rfl, rfl⟩ := hik
          obtain ⟨cells, e, hh, hsz, hr⟩ := h1
          refine ⟨⟨cells, e, hh, by simpa using hsz, fun j hj => ?_⟩, .inl hb⟩
          have hj' : j < cs.length := by simpa using hj
          have e1 : (cs.map (frzXA (del s.S id) 0 1)).getD j .undef = frzXA (del s.S id) 0 1 (cs.getD j .undef) := by simp [List.getD, hj']
          rw [e1]
          exact frzXA_rep (s := { s with S := del s.S id }) h' (A := fun c => c < w.heap.size ∧ ¬ g.X0 c ∧ c ≠ b) hA1 hO1 (fun c hc => ⟨⟨by decide, hc.1, hc.2.1, fun h2 => by omega⟩, hc.2.2⟩) (hr j hj')
        nob := fun k out hk hik => by
          obtain ⟨rfl, rfl⟩ := he k out hk
          cases hik
        inj := fun k k' out out' q q' g1 g2 _ _ _ => by
          obtain ⟨rfl, _⟩ := he k out g1
          obtain ⟨rfl, _⟩ := he k' out' g2
          rfl
        fr := fun t c hc => ⟨hc.1.2.1, hc.1.2.2.1, fun k out q hk hik e => by
          obtain ⟨rfl, _⟩ := he k out hk
          have e1 : ι' 0 = some (b, sz, m) := rfl
          rw [e1] at hik
          have := Option.some.inj hik
          subst this
          exact hc.2 e.symm⟩
        frS := fun c hc => hc.1.1 rfl
        fr0 := fun t c hc => ⟨⟨by decide, hc.1.2.1, hc.1.2.2.1, fun h2 => by omega⟩, hc.2⟩
        fr2 := fun t c h2 hc => (hc.1.2.2.2 h2).1
        cl := fun t c h2 hc => (hc.1.2.2.2 h2).2
        same := fun k hk => by omega
        os := h.os, tape := h.tape, output := h.output, hsize := h.hsize, frame := h.frame, shape := h.shape }

theorem sound_of_bodyB {P : Program} (hm : P.follows .mixedOrders = true) {f : Nat} {fn : Func} {c : Code} {D : FSpec}
    (hf : P.funcs[f]? = some fn) (hb : fn.body = some c) (hn : (fn.name == "runtime.NumGoroutine") = false)
    (hbody : ∀ args bin ob r bout, D args bin = some (ob, r, bout) → ob → bin = [] ∧ r = .oref 0 0 0 ∧ ∃ cs', bout = [.box cs'] ∧ args.length ≤ fn.ntmps ∧
      ∃ cx : Cx, TabOk P cx.tt ∧ SoundAll P cx.D ∧ SoundAllM P cx.M ∧ cx.nt = fn.ntmps ∧ ∃ args', ArgsLe args args' ∧ bodyB cx fn args' (fun cs => BLe (.box cs) (.box cs'))) : Sound P f D := by
  refine ⟨?_⟩
  intro args bin ob r bout hDe hob vals w X0 io ι Fr hE hsize hvals
  refine .inl ⟨enters_of hf hb hn _ _, ?_⟩
  obtain ⟨rfl, rfl, cs', rfl, hlen, cx, hT, hD, hM, hnt, args', ⟨hl', hle⟩, hp⟩ := hbody args bin ob r bout hDe hob
  let g : G := ⟨w, X0, io, fn.ntmps, ι⟩
  have hrel : Rel g ⟨enterT args' 0, []⟩ { tmps := vals ++ Array.replicate (fn.ntmps - vals.size) Go.undef, defers := [] } w ι Fr := by
    refine
      { defers := rfl
        size := by show (vals ++ Array.replicate (fn.ntmps - vals.size) Go.undef).size = fn.ntmps; simp; omega
        tmp := ?_
        own := fun id blk b sz m hl => by simp [lk] at hl
        nob := fun id blk hl => by simp [lk] at hl
        inj := fun id id' blk blk' r r' hl => by simp [lk] at hl
        fr := fun t b hb => ⟨(hE.fr t b hb).1, (hE.fr t b hb).2.1, fun id blk r hl => by simp [lk] at hl⟩
        frS := hE.frS
        fr0 := hE.fr0
        fr2 := fun t b h2 hb => absurd hb (hE.fr2 t b h2)
        fr1 := fun b hb => (hE.fr 1 b hb).1
        cl := fun t b h2 hb => absurd hb (hE.fr2 t b h2)
        low := fun _ _ => rfl
        x0 := hE.x0
        io0 := hE.io0
        os := rfl, tape := rfl, output := rfl, hsize := Nat.le_refl _, frame := fun _ _ _ => rfl, shape := fun _ _ h => h }
    intro t v ht
    obtain ⟨j, rfl, hj⟩ := lk_enterT ht
    rw [Nat.zero_add]
    have hj' : j < args'.length := (List.getElem?_eq_some_iff.1 hj).1
    have e1 : args'.getD j .undef = v := by simp [List.getD, hj]
    have e2 : (vals ++ Array.replicate (fn.ntmps - vals.size) Go.undef).getD j Go.undef = vals.getD j Go.undef := by
      have hjv : j < vals.size := by omega
      simp only [Array.getD_eq_getD_getElem?]
      rw [Array.getElem?_append_left hjv]
    have := (hle j (by omega)).le w Fr ι _ hE.frS hE.fr0 (hvals j (by omega))
    rw [e1] at this
    show TRep w Fr ι v ((vals ++ Array.replicate (fn.ntmps - vals.size) Go.undef).getD j Go.undef)
    rw [e2]; exact this
  have hfin : ∀ (s : AS) (a : Act) (w' : World) (ι' : Iota) (Fr' : Nat → Nat → Prop), Rel g s a w' ι' Fr' → (∃ id cs, resV cx.tt s fn.results.toList = some (.oref id 0 0) ∧ 64 ≤ id ∧ lk s.S id = some (.box cs) ∧ BLe (.box (cs.map (frzXA (del s.S id) 0 1))) (.box cs')) →
      a.defers = [] ∧ ∃ v, (results fn a.tmps).run P w' = .ok v w' ∧ ∃ v' ι'' Fr'', Ending.returned v = .returned v' ∧ TRep w' Fr'' ι'' (.oref 0 0 0) v' ∧ Ext w w' X0 io ι 0 [.box cs'] ι'' Fr'' := by
    rintro s a w' ι' Fr' hr ⟨id, cs, hr0, h64, hl, hv⟩
    obtain ⟨v, hrun, hrep⟩ := resV_run (P := P) hT hr hr0
    obtain ⟨ι2, Fr2, h1, h2⟩ := exportB_rep hr h64 hl hrep
    exact ⟨hr.defers, v, hrun, v, ι2, Fr2, rfl, h1, binle_ext h2 ⟨hv, trivial⟩⟩
  unfold bodyB at hp
  rw [hb] at hp
  refine calls_of_wp hf hb (awp_sound hT hD hM hm (g := g) (hnt.trans rfl) c _ _ ?_ _ _ w ι Fr hp hrel)
  intro e s a w' ι' Fr' he hr
  cases e with
  | normal =>
    simp only [] at he
    split at he
    · rename_i id i off hr0
      split at he
      · rename_i cs hc hl
        simp only [Bool.and_eq_true] at hc
        have e1 := natBeq.1 hc.1.1
        have e2 := natBeq.1 hc.1.2
        subst e1 e2
        exact hfin s a w' ι' Fr' hr ⟨id, cs, hr0, Nat.le_of_ble_eq_true hc.2, hl, he⟩
      · exact he.elim
    · exact he.elim
  | ret =>
    simp only [] at he
    split at he
    · rename_i id i off hr0
      split at he
      · rename_i cs hc hl
        simp only [Bool.and_eq_true] at hc
        have e1 := natBeq.1 hc.1.1
        have e2 := natBeq.1 hc.1.2
        subst e1 e2
        exact hfin s a w' ι' Fr' hr ⟨id, cs, hr0, Nat.le_of_ble_eq_true hc.2, hl, he⟩
      · exact he.elim
    · exact he.elim
  | _ => exact he.elim

end Go.Av

/- What the law's opening tells of an argument, as an abstract value: the flat cells of a value of a type. -/
namespace Go.Av

def aggT (P : Program) (t : Nat) : Bool := match P.underlying t with
  | some d => isAggD d
  | none => false

/-- The cells of a value of type t that reads d; all slices and pointers under the tag 1. -/
def cellsD {H : Type} (P : Program) : Nat → Nat → DataW H → List V
  | 0, _, _ => []
  | fuel + 1, t, d => match P.underlying t, d with
    | some (.int k), .lit (.int _ n) => [.int k n]
    | some .bool, .lit (.bool b) => [.bool b]
    | some .string, .lit (.string bs) => [.str ⟨bs.toArray⟩]
    | some (.slice _), .nil => [.nil]
    | some (.slice e), .slice elems _ => [.sl elems.length (fun i => elemV (aggT P e) (cellsD P fuel e (elems.getD i .nil))) 1]
    | some (.struct fs), .agg parts => (fs.toList.zip parts).flatMap fun p => cellsD P fuel p.1.type p.2
    | _, _ => [.undef]

/-- The types that this reading covers: numbers, bools, texts, slices of such, structs whose fields lie one behind the other. -/
def contig (P : Program) : List Field → Nat → Nat → Bool
  | [], off, n => Nat.beq off n
  | f :: r, off, n => Nat.beq f.offset off && contig P r (off + P.cellsOf f.type) n

def plainT (P : Program) : Nat → Nat → Bool
  | 0, _ => false
  | fuel + 1, t => match P.underlying t with
    | some (.int _) => Nat.beq (P.cellsOf t) 1
    | some .bool => Nat.beq (P.cellsOf t) 1
    | some .string => Nat.beq (P.cellsOf t) 1
    | some (.slice e) => Nat.beq (P.cellsOf t) 1 && Nat.ble 1 (P.cellsOf e) && plainT P fuel e
    | some (.struct fs) => contig P fs.toList 0 (P.cellsOf t) && fs.toList.all fun f => plainT P fuel f.type
    | _ => false

/-- The cells are what they read. -/
def Reads (w : World) (vs : List V) (cs : List Value) : Prop :=
  vs.length = cs.length ∧ ∀ j, j < cs.length → PRep w (fun b => b < w.heap.size) (vs.getD j .undef) (cs.getD j Go.undef)

theorem Reads.one {w : World} {v : V} {x : Value} (h : PRep w (fun b => b < w.heap.size) v x) : Reads w [v] [x] :=
  ⟨rfl, fun j hj => by
    have : j = 0 := by simpa using hj
    subst this
    simpa using h⟩

theorem Reads.append {w : World} {vs vs' : List V} {cs cs' : List Value} (h : Reads w vs cs) (h' : Reads w vs' cs') : Reads w (vs ++ vs') (cs ++ cs') := by
  refine ⟨by simp [h.1, h'.1], fun j hj => ?_⟩
  rcases Nat.lt_or_ge j cs.length with hlt | hge
  · have e1 : (vs ++ vs').getD j .undef = vs.getD j .undef := by simp [List.getD, List.getElem?_append_left (by rw [h.1]; exact hlt)]
    have e2 : (cs ++ cs').getD j Go.undef = cs.getD j Go.undef := by simp [List.getD, List.getElem?_append_left hlt]
    rw [e1, e2]; exact h.2 j hlt
  · have e1 : (vs ++ vs').getD j .undef = vs'.getD (j - cs.length) .undef := by simp [List.getD, List.getElem?_append_right (by rw [h.1]; exact hge), h.1]
    have e2 : (cs ++ cs').getD j Go.undef = cs'.getD (j - cs.length) Go.undef := by simp [List.getD, List.getElem?_append_right hge]
    rw [e1, e2]
    exact h'.2 _ (by simp at hj; omega)

theorem Reads.nil {w : World} : Reads w [] [] := ⟨rfl, fun j hj => by simp at hj⟩

theorem elemV_cells {agg : Bool} {cs : List V} (h : agg = false → ∃ c, cs = [c] ∧ ∀ l, c ≠ .agg l) : (elemV agg cs).cells = cs := by
  cases agg with
  | true => rfl
  | false =>
    obtain ⟨c, rfl, hc⟩ := h rfl
    unfold elemV
    simp only [List.headD_cons]
    cases c <;> first | rfl | exact absurd rfl (hc _)

theorem mapM_at {α β : Type} {f : α → Option β} : ∀ {l : List α} {r : List β}, l.mapM f = some r → r.length = l.length ∧ ∀ (j : Nat) (x : α), l[j]? = some x → ∃ y, r[j]? = some y ∧ f x = some y
  | [], r, h => by
    simp at h
    subst h
    exact ⟨rfl, fun j x hx => by simp at hx⟩
  | a :: l, r, h => by
    rw [List.mapM_cons] at h
    cases ha : f a with
    | none => rw [ha] at h; simp at h
    | some b =>
      cases hl : l.mapM f with
      | none => rw [ha, hl] at h; simp at h
      | some bs =>
        rw [ha, hl] at h
        simp at h
        subst h
        obtain ⟨h1, h2⟩ := mapM_at hl
        refine ⟨by simp [h1], fun j x hx => ?_⟩
        cases j with
        | zero => simp at hx; subst hx; exact ⟨b, by simp, ha⟩
        | succ j => simpa using h2 j x (by simpa using hx)

end Go.Av

/- An argument that the law's opening reads is what the abstract value tells. -/
namespace Go.Av

section
variable {H : Type} {enc : TypeId × Value → H} {P : Program} {w : World} {base : Nat} {sp : Nat → Bool} {held : Bool}

theorem cellsD_single {n t : Nat} {fuel : Nat} {cs : List Value} {d : DataW H} {ps : List MemPlace} (hp : plainT P n t = true) (ha : aggT P t = false)
    (h : DataW.trod enc P w base sp held fuel t cs = some (d, ps)) : ∃ c, cellsD P n t d = [c] ∧ ∀ l, c ≠ .agg l := by
  cases n with
  | zero => simp [plainT] at hp
  | succ n =>
    unfold plainT at hp
    unfold aggT at ha
    cases hu : P.underlying t with
    | none => rw [hu] at hp; simp at hp
    | some td =>
      rw [hu] at hp ha
      cases td with
      | struct fs => simp [isAggD] at ha
      | _ =>
        simp only [cellsD, hu]
        first
          | exact ⟨_, rfl, fun l hl => by cases hl⟩
          | (split <;> first
              | exact ⟨_, rfl, fun l hl => by cases hl⟩
              | contradiction
              | (rename_i heq; cases heq))

theorem trod_int {t fuel : Nat} {k : IntKind} {cs : List Value} {x : DataW H × List MemPlace} (hu : P.underlying t = some (.int k)) (h : DataW.trod enc P w base sp held (fuel + 1) t cs = some x) :
    ∃ n, cs = [.int k n] ∧ x.1 = .lit (.int k n) := by
  unfold DataW.trod at h
  rw [hu] at h
  split at h <;> try contradiction
  all_goals simp_all
  rename_i h1
  obtain ⟨⟨e, _⟩, hx⟩ := h
  subst e
  rw [← hx]

theorem trod_bool {t fuel : Nat} {cs : List Value} {x : DataW H × List MemPlace} (hu : P.underlying t = some .bool) (h : DataW.trod enc P w base sp held (fuel + 1) t cs = some x) :
    ∃ b, cs = [.bool b] ∧ x.1 = .lit (.bool b) := by
  unfold DataW.trod at h
  rw [hu] at h
  split at h <;> try contradiction
  all_goals simp_all
  rw [← h]

theorem trod_string {t fuel : Nat} {cs : List Value} {x : DataW H × List MemPlace} (hu : P.underlying t = some .string) (h : DataW.trod enc P w base sp held (fuel + 1) t cs = some x) :
    ∃ s : ByteArray, cs = [.string s] ∧ x.1 = .lit (.string s.data.toList) := by
  unfold DataW.trod at h
  rw [hu] at h
  split at h <;> try contradiction
  all_goals simp_all
  rw [← h.2]

theorem trod_struct {t fuel : Nat} {fs : Array Field} {cs : List Value} {x : DataW H × List MemPlace} (hu : P.underlying t = some (.struct fs)) (h : DataW.trod enc P w base sp held (fuel + 1) t cs = some x) :
    cs.length = P.cellsOf t ∧ ∃ xs : List (DataW H × List MemPlace), x.1 = .agg (xs.map (·.1)) ∧ (fs.toList.mapM fun f => DataW.trod enc P w base sp held fuel f.type ((cs.drop f.offset).take (P.cellsOf f.type))) = some xs := by
  unfold DataW.trod at h
  rw [hu] at h
  simp only [] at h
  split at h
  · rename_i hl
    refine ⟨hl, ?_⟩
    cases hm : (fs.toList.mapM fun f => DataW.trod enc P w base sp held fuel f.type ((cs.drop f.offset).take (P.cellsOf f.type))) with
    | none => rw [hm] at h; simp at h
    | some xs => rw [hm] at h; simp at h; exact ⟨xs, by rw [← h], rfl⟩
  · simp at h

theorem add_add {a : Addr} (hs : a.spot = none) (i j : Nat) : (a.add i).add j = ⟨a.block, a.off + i + j, none⟩ := by
  obtain ⟨b, o, s⟩ := a
  simp only at hs
  subst hs
  unfold Addr.add
  by_cases hi : i = 0 <;> by_cases hj : j = 0 <;> simp [hi, hj]

theorem reads_fields {fs : List Field} {cs : List Value} {vf : Field → DataW H → List V} : ∀ {xs : List (DataW H × List MemPlace)} {off : Nat}, contig P fs off cs.length = true → xs.length = fs.length →
    (∀ (j : Nat) (f : Field) (x : DataW H × List MemPlace), fs[j]? = some f → xs[j]? = some x → Reads w (vf f x.1) ((cs.drop f.offset).take (P.cellsOf f.type)) ∧ (vf f x.1).length = P.cellsOf f.type) →
    Reads w ((fs.zip (xs.map (·.1))).flatMap fun p => vf p.1 p.2) (cs.drop off) := by
  induction fs with
  | nil =>
    intro xs off hc hl _
    unfold contig at hc
    have := natBeq.1 hc
    subst this
    simpa using Reads.nil
  | cons f r ih =>
    intro xs off hc hl hall
    unfold contig at hc
    simp only [Bool.and_eq_true] at hc
    have ho := natBeq.1 hc.1
    cases xs with
    | nil => simp at hl
    | cons x xs =>
      have h1 := hall 0 f x (by simp) (by simp)
      have h2 := ih (xs := xs) (off := off + P.cellsOf f.type) hc.2 (by simpa using hl) fun j f' x' hf hx => hall (j + 1) f' x' (by simpa using hf) (by simpa using hx)
      have e1 : cs.drop off = (cs.drop off).take (P.cellsOf f.type) ++ cs.drop (off + P.cellsOf f.type) := by
        rw [← List.drop_drop, List.take_append_drop]
      rw [ho] at h1
      simp only [List.map_cons, List.zip_cons_cons, List.flatMap_cons]
      rw [e1]
      exact h1.1.append h2

theorem reads_of_trod : ∀ (n t : Nat), plainT P n t = true → ∀ (fuel : Nat) (cs : List Value) (d : DataW H) (ps : List MemPlace), DataW.trod enc P w base sp held fuel t cs = some (d, ps) →
    Reads w (cellsD P n t d) cs ∧ cs.length = P.cellsOf t
  | 0, t, hp, _, _, _, _, _ => by simp [plainT] at hp
  | n + 1, t, hp, 0, cs, d, ps, h => by simp [DataW.trod] at h
  | n + 1, t, hp, fuel + 1, cs, d, ps, h => by
    have hp0 := hp
    unfold plainT at hp
    cases hu : P.underlying t with
    | none => rw [hu] at hp; simp at hp
    | some td =>
      rw [hu] at hp
      cases td with
      | int k =>
        obtain ⟨m, rfl, hd⟩ := trod_int hu h
        simp only at hd
        subst hd
        simp only [cellsD, hu]
        exact ⟨Reads.one (.int _ _), (natBeq.1 hp).symm⟩
      | bool =>
        obtain ⟨m, rfl, hd⟩ := trod_bool hu h
        simp only at hd
        subst hd
        simp only [cellsD, hu]
        exact ⟨Reads.one (.bool _), (natBeq.1 hp).symm⟩
      | string =>
        obtain ⟨m, rfl, hd⟩ := trod_string hu h
        simp only at hd
        subst hd
        simp only [cellsD, hu]
        exact ⟨Reads.one (.str _), (natBeq.1 hp).symm⟩
      | slice e =>
        simp only [Bool.and_eq_true] at hp
        obtain ⟨⟨h1, hge⟩, hpe⟩ := hp
        have hge : 1 ≤ P.cellsOf e := Nat.le_of_ble_eq_true hge
        refine ⟨?_, ?_⟩
        · rcases Go.Deep.open_slice hu h with ⟨rfl, hx⟩ | ⟨a, len, cap, m, n', D, Pl, rfl, hb, hlc, hcm, hm, hx, hi⟩
          · cases hx
            simp only [cellsD, hu]
            exact Reads.one (.nil _)
          · cases hx
            simp only [cellsD, hu, List.length_map, List.length_range]
            refine Reads.one ?_
            by_cases h0 : len = 0
            · subst h0; exact .sl0 _ _ _ _
            · have hle : len ≤ m := by rw [hm]; split <;> omega
              have hspot : a.spot = none := by
                obtain ⟨cs', hcs', _⟩ := hi 0 (by omega)
                obtain ⟨_, hl0, hc0⟩ := World.cells?_some hcs'
                have := hc0 0 (by omega)
                have hsome : ∃ y, cs'[0]? = some y := ⟨cs'[0], by rw [List.getElem?_eq_getElem]⟩
                obtain ⟨y, hy⟩ := hsome
                rw [hy] at this
                simp only [Nat.zero_mul, Addr.add, if_true, World.cell?] at this
                split at this
                · cases hs : a.spot with
                  | none => rfl
                  | some q => rw [hs] at this; simp at this
                · simp at this
              have hblk : a.block < w.heap.size := by
                obtain ⟨cs', hcs', _⟩ := hi 0 (by omega)
                have := World.cells?_block hcs' (by omega)
                simpa [Addr.add] using this
              have hel : ∀ i, i < len → ∃ cs', cs'.length = P.cellsOf e ∧ (∀ j, j < P.cellsOf e → w.cell? ⟨a.block, a.off + i * P.cellsOf e + j, none⟩ = some (cs'.getD j Go.undef)) ∧
                  Reads w (cellsD P n e (D i)) cs' ∧ (elemV (aggT P e) (cellsD P n e (D i))).cells = cellsD P n e (D i) := by
                intro i hilt
                obtain ⟨cs', hcs', htr⟩ := hi i (by omega)
                obtain ⟨_, hl', hc'⟩ := World.cells?_some hcs'
                refine ⟨cs', hl', fun j hj => ?_, (reads_of_trod n e hpe n' cs' (D i) (Pl i) htr).1, elemV_cells fun ha => cellsD_single hpe ha htr⟩
                have := hc' j hj
                rw [add_add hspot] at this
                rw [this]
                have hj' : j < cs'.length := by omega
                simp [List.getD, hj']
              have hg : ∀ i, i < len → ((List.range len).map D).getD i .nil = D i := fun i hilt => by simp [List.getD, hilt]
              obtain ⟨blk, off, spot⟩ := a
              simp only at hspot hblk hel
              subst hspot
              refine .sl (sz := P.cellsOf e) (fun i j => (w.cell? ⟨blk, off + i * P.cellsOf e + j, none⟩).getD Go.undef) hblk hlc (fun i hilt => ?_) (fun i j hilt hj => ?_) (fun i j hilt hj => ?_)
              · obtain ⟨cs', hl', _, hr, hcells⟩ := hel i hilt
                simp only [hg i hilt, hcells]
                rw [hr.1, hl']
              · obtain ⟨cs', hl', hc', _, _⟩ := hel i hilt
                rw [hc' j hj]; rfl
              · obtain ⟨cs', hl', hc', hr, hcells⟩ := hel i hilt
                simp only [hg i hilt, hcells]
                rw [hc' j hj]
                exact hr.2 j (by omega)
        · rcases Go.Deep.open_slice hu h with ⟨rfl, _⟩ | ⟨_, _, _, _, _, _, _, rfl, _⟩ <;> exact (natBeq.1 h1).symm
      | struct fs =>
        simp only [Bool.and_eq_true] at hp
        obtain ⟨hc, hall⟩ := hp
        obtain ⟨hl, xs, hd, hm⟩ := trod_struct hu h
        simp only at hd
        subst hd
        obtain ⟨hlen, hat⟩ := mapM_at hm
        refine ⟨?_, hl⟩
        simp only [cellsD, hu]
        have := reads_fields (fs := fs.toList) (cs := cs) (vf := fun f x => cellsD P n f.type x) (xs := xs) (off := 0) (by rw [hl]; exact hc) hlen fun j f x hf hx => by
          obtain ⟨y, hy, hty⟩ := hat j f hf
          rw [hx] at hy
          have : x = y := Option.some.inj hy
          subst this
          obtain ⟨h1, h2⟩ := reads_of_trod n f.type (List.all_eq_true.1 hall f (List.mem_of_getElem? hf)) fuel _ x.1 x.2 hty
          exact ⟨h1, by rw [h1.1]; exact h2⟩
        simpa using this
      | _ => simp at hp

end
end Go.Av

/- From what is told of the law's function to the call that the row asks for. -/
namespace Go.Av

/-- An argument as the law's opening reads it. -/
def argD {H : Type} (P : Program) (n t : Nat) (d : DataW H) : V := elemV (aggT P t) (cellsD P n t d)

/-- At the entry of the law's function all memory may be read. -/
def allFr (w : World) : Nat → Nat → Prop := fun t b => t < 2 ∧ b < w.heap.size

theorem calls_of_sound {P : Program} {f : Nat} {D : FSpec} (h : Sound P f D) (hbody : ((P.funcs[f]?).bind (·.body)).isSome = true) {args : List V} {ob : Prop} {b : Bool} (hD : D args [] = some (ob, .bool b, [])) (hob : ob) {vals : Array Value} {W : World}
    (hsize : vals.size = args.length) (hv : ∀ j, j < args.length → TRep W (allFr W) (fun _ => none) (args.getD j .undef) (vals.getD j Go.undef)) :
    Calls P f vals W fun e W' => e = .returned (.bool b) ∧ Go.RowKit.Below W.heap.size W W' := by
  have hE : Ent W (fun _ => False) (fun _ => False) [] (fun _ => none) (allFr W) :=
    { own := fun id blk b sz m hl => by simp at hl
      nob := fun id blk hl => by simp at hl
      inj := fun id id' blk blk' r r' hl => by simp at hl
      fr := fun t b hb => ⟨hb.2, fun h => h, fun id blk r hl => by simp at hl⟩
      frS := fun b hb => absurd hb.1 (by decide)
      fr0 := fun t b hb => ⟨by decide, hb.2⟩
      fr2 := fun t b h2 hb => by have := hb.1; omega
      x0 := fun b hb => hb.elim
      io0 := fun b hb => hb.elim
      few := by decide }
  have hx := h.does args [] ob (.bool b) [] hD hob vals W (fun _ => False) (fun _ => False) (fun _ => none) (allFr W) hE hsize hv
  have hc : Calls P f vals W fun e w' => ∃ v ι' Fr', e = .returned v ∧ TRep w' Fr' ι' (.bool b) v ∧ Ext W w' (fun _ => False) (fun _ => False) (fun _ => none) 0 [] ι' Fr' := by
    rcases hx with hx | ⟨v, hv, _⟩
    · exact hx.2
    · exfalso
      obtain ⟨fn, hfn, hbd⟩ : ∃ fn, P.funcs[f]? = some fn ∧ fn.body.isSome = true := by
        cases hfn : P.funcs[f]? with
        | none => rw [hfn] at hbody; cases hbody
        | some fn => rw [hfn] at hbody; exact ⟨fn, rfl, hbody⟩
      have hb2 : fn.body.isNone = false := by
        cases hc : fn.body with
        | none => rw [hc] at hbd; cases hbd
        | some _ => rfl
      unfold callFunc at hv
      simp only [Sem.run_bind, run_program, Result.andThen_ok, hfn] at hv
      split at hv
      · cases hv
      · simp only [hb2] at hv
        cases hv
  refine hc.mono fun e W' he => ?_
  obtain ⟨v, ι', Fr', rfl, hr, hx⟩ := he
  have hvb := inv_bool hr
  subst hvb
  exact ⟨rfl, hx.os, hx.tape, hx.output, hx.hsize, fun k hk => hx.frame k hk fun h => h⟩

theorem cellsD_shape {H : Type} (P : Program) : ∀ (n t : Nat) (d : DataW H), ∀ c ∈ cellsD P n t d, isP c = true ∧ (tagOfA c = none ∨ tagOfA c = some 1)
  | 0, _, _, c, hc => by simp [cellsD] at hc
  | n + 1, t, d, c, hc => by
    simp only [cellsD] at hc
    split at hc
    · simp at hc; subst hc; simp [isP, tagOfA]
    · simp at hc; subst hc; simp [isP, tagOfA]
    · simp at hc; subst hc; simp [isP, tagOfA]
    · simp at hc; subst hc; simp [isP, tagOfA]
    · simp at hc; subst hc; simp [isP, tagOfA]
    · obtain ⟨p, _, hp⟩ := List.mem_flatMap.1 hc
      exact cellsD_shape P n _ _ c hp
    · simp at hc; subst hc; simp [isP, tagOfA]

/-- An argument's cells as the law reads them, as one value. -/
theorem arg_rep {H : Type} {enc : TypeId × Value → H} {P : Program} {w : World} {base : Nat} {sp : Nat → Bool} {held : Bool} {n t : Nat} (hp : plainT P n t = true) {v : Value} {d : DataW H} {ps : List MemPlace}
    (h : DataW.Trod enc P w base sp held t v d ps) (hform : aggT P t = true → ∃ cs, v = .agg cs) (hform' : aggT P t = false → ∀ cs, v ≠ .agg cs) : TRep w (allFr w) (fun _ => none) (argD P n t d) v := by
  obtain ⟨fuel, h⟩ := h
  obtain ⟨hr, hl⟩ := reads_of_trod n t hp fuel _ d ps h
  have cell : ∀ c ∈ cellsD P n t d, ∀ x, PRep w (fun b => b < w.heap.size) c x → TRep w (allFr w) (fun _ => none) c x := fun c hc x hx =>
    trep_of_prep (A := fun b => b < w.heap.size) (c := 1) (fun b hb => ⟨by decide, hb⟩) (cellsD_shape P n t d c hc).1 (cellsD_shape P n t d c hc).2 hx
  unfold argD
  cases ha : aggT P t with
  | true =>
    obtain ⟨cs, rfl⟩ := hform ha
    have hlen : (cellsD P n t d).length = cs.size := by rw [hr.1]; simp [Value.cells]
    refine .agg cs hlen.symm fun j hj => ?_
    have hmem : (cellsD P n t d).getD j .undef ∈ cellsD P n t d := by
      simp only [List.getD, List.getElem?_eq_getElem hj, Option.getD_some]
      exact List.getElem_mem hj
    have := hr.2 j (by rw [← hr.1]; exact hj)
    have e2 : (Value.agg cs).cells.toList.getD j Go.undef = cs.getD j Go.undef := by simp [Value.cells, List.getD, Array.getD_eq_getD_getElem?]
    rw [e2] at this
    exact cell _ hmem _ this
  | false =>
    obtain ⟨c, hc, _⟩ := cellsD_single hp ha h
    have hv : v.cells = #[v] := by
      cases v with
      | agg cs => exact absurd rfl (hform' ha cs)
      | _ => rfl
    rw [hc, hv] at hr
    have := hr.2 0 (by simp)
    rw [hc]
    exact cell c (by rw [hc]; simp) v (by simpa using this)

end Go.Av
