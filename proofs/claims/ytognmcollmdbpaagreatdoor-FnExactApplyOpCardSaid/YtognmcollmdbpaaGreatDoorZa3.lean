/- The proof's texts, joined, without what the row does not reach: part 3. -/
import Derived.Test.YtognmcollmdbpaaGreatDoorZa2
import Derived.Lib.Bytealg
import Derived.DataReads
import Derived.Deep.Slices
import Derived.Below
import Derived.Test.YtognmcollmdbpaaGreatDoorProg
import Derived.KernelRfl
import Derived.IntWalk
import Derived.Lib.Overlaps
namespace Go.Av
structure VLe (v v' : V) : Prop where
 le : ∀ (w : World) (Fr : Nat → Nat → Prop) (ι : q0x) (x : Value), (∀ b, ¬ Fr q0i b) → (∀ t b, Fr t b → Fr 0 b) → q0X w Fr ι v x → q0X w Fr ι v' x
theorem VLe.refl (v : V) : VLe v v := ⟨fun _ _ _ _ _ _ h => h⟩
theorem VLe.trans {a b c : V} (h : VLe a b) (h' : VLe b c) : VLe a c := ⟨fun w Fr ι x h1 h2 h3 => h'.le w Fr ι x h1 h2 (h.le w Fr ι x h1 h2 h3)⟩
@[irreducible] def q0f (cx : Cx) (fn : Func) (pol : Nat) (args : List V) (K : V → Prop) : Prop :=
 match fn.body with
 | some c => awp cx c (fun e s =>
   match e with
   | .normal => match qKu cx.tt s fn.results.toList with
    | some r => K (qAU pol s r)
    | none => False
   | .ret => match qKu cx.tt s fn.results.toList with
    | some r => K (qAU pol s r)
    | none => False
   | _ => False) ⟨q6y args 0, []⟩
 | none => False
theorem qMs {w : World} {A A' : Nat → Prop} {u : V} {x : Value} (h : PRep w A u x) (ht : q1c u = none) (hp : isP u = true) : PRep w A' u x := by
 cases h with
 | int => exact .int _ _
 | bool => exact .bool _
 | str => exact .str _
 | nil => exact .nil _
 | sl0 => simp [q1c] at ht
 | sl => simp [q1c] at ht
 | ptr => simp [q1c] at ht
 | agg => simp [isP] at hp
 | tup => simp [isP] at hp
 | fn => simp [isP] at hp
 | undef => exact .undef _
section
variable {g : G} {s : AS} {a : Act} {w : World} {ι : q0x} {Fr : Nat → Nat → Prop} (h : Rel g s a w ι Fr) {A : Nat → Prop} {lim c : Nat} (hA : ∀ t b, lim ≤ t → Fr t b → A b)
 (hO : ∀ id blk r, 64 ≤ id → lk s.S id = some blk → ι id = some r → isC blk = true → A r.1)
include h hA hO
theorem qCk {v : V} {x : Value} (hv : q0X w Fr ι v x) : PRep w A (q32 s.S lim c v) x := by
 cases hv with
 | atom hp hr =>
  cases hr with
  | int => exact .int _ _
  | bool => exact .bool _
  | str => exact .str _
  | nil => exact .nil _
  | sl0 =>
   simp only [q32]
   split
   ·exact .sl0 _ _ _ _
   ·exact .undef _
  | sl cv hA' hcap hsz hc hr =>
   simp only [q32]
   split
   ·rename_i hl
    exact (PRep.sl (t := c) cv hA' hcap hsz hc hr).weaken fun b hb => hA _ b (Nat.le_of_ble_eq_true hl) hb
   ·exact .undef _
  | ptr cv hA' hc hr =>
   simp only [q32]
   split
   ·rename_i hl
    exact (PRep.ptr (t := c) cv hA' hc hr).weaken fun b hb => hA _ b (Nat.le_of_ble_eq_true hl) hb
   ·exact .undef _
  | agg => simp [isP] at hp
  | tup => simp [isP] at hp
  | fn => simp [isP] at hp
  | undef => exact .undef _
 | osl hi hn hc hs hcs =>
  rename_i id n b sz m cap cz e
  simp only [q32]
  split
  ·rename_i sz' m' f te hl h64
   split
   ·rename_i hlim
    obtain ⟨rfl, rfl, cells, e', hh, hsz, hlen, hr⟩ := (h.own id _ b sz m hl hi).1
    refine .sl (sz := sz') (off := 0) (fun i j => cells.getD (i * sz' + j) Go.undef) (hO id _ _ (Nat.le_of_ble_eq_true h64) hl hi rfl) hc (fun i hin => hlen i (by omega)) (fun i j hin hj => ?_)
     (fun i j hin hj => (hr i j (by omega) hj).weaken (fun b hb => hA _ b (Nat.le_of_ble_eq_true hlim) hb))
    have e1 : i * sz' + sz' = (i + 1) * sz' := by rw [Nat.add_mul, Nat.one_mul]
    have e2 : (i + 1) * sz' ≤ m' * sz' := Nat.mul_le_mul_right _ (by omega)
    rw [Nat.zero_add]; exact q30 hh (by omega)
   ·exact .undef _
  ·exact .undef _
 | osl0 a0 hi =>
  simp only [q32]
  split
  ·split
   ·exact .sl0 _ _ _ _
   ·exact .undef _
  ·exact .undef _
 | oref hi hin =>
  rename_i id i off b sz m
  simp only [q32]
  split
  ·rename_i sz' m' f te hl h64
   split
   ·rename_i hlim
    obtain ⟨rfl, rfl, cells, e', hh, hsz, hlen, hr⟩ := (h.own id _ b sz m hl hi).1
    refine .ptr (base := i * sz') (fun j => cells.getD (i * sz' + j) Go.undef) (hO id _ _ (Nat.le_of_ble_eq_true h64) hl hi rfl) (fun j hj => ?_)
     (fun j hj => (hr i j hin (by rw [← hlen i hin]; exact hj)).weaken (fun b hb => hA _ b (Nat.le_of_ble_eq_true hlim) hb))
    have e1 : i * sz' + sz' = (i + 1) * sz' := by rw [Nat.add_mul, Nat.one_mul]
    have e2 : (i + 1) * sz' ≤ m' * sz' := Nat.mul_le_mul_right _ (by omega)
    rw [hlen i hin] at hj
    exact q30 hh (by omega)
   ·exact .undef _
  ·exact .undef _
 | omap => exact .undef _
 | oss => exact .undef _
 | oss0 => exact .undef _
 | agg => exact .undef _
 | tup => exact .undef _
 | fn => exact .undef _
 | cnd => exact .undef _
omit h hA hO in
theorem qB2 (S : List (Nat × Blk)) (lim c : Nat) (v : V) : isP (q32 S lim c v) = true ∧ (q1c (q32 S lim c v) = none ∨ q1c (q32 S lim c v) = some c) := by
 cases v with
 | osl id n => simp only [q32]; split <;> (try split) <;> simp [isP, q1c]
 | oref id i off => simp only [q32]; split <;> (try split) <;> simp [isP, q1c]
 | sl n g t => simp only [q32]; split <;> simp [isP, q1c]
 | ptr cs o t => simp only [q32]; split <;> simp [isP, q1c]
 | _ => simp [q32, isP, q1c]
omit h hA hO in
theorem q6D {Fr' : Nat → Nat → Prop} {ι' : q0x} (hF : ∀ b, A b → Fr' c b) {u : V} {x : Value} (hp : isP u = true) (ht : q1c u = none ∨ q1c u = some c) (hr : PRep w A u x) : q0X w Fr' ι' u x := by
 refine .atom hp ?_
 rcases ht with ht | ht
 ·exact qMs hr ht hp
 ·unfold qQC; rw [ht]; exact hr.weaken hF
theorem q5J {Fr' : Nat → Nat → Prop} {ι' : q0x} (hF : ∀ b, A b → Fr' c b) {v : V} {x : Value} (hv : q0X w Fr ι v x) : q0X w Fr' ι' (q32 s.S lim c v) x :=
 q6D hF (qB2 _ _ _ _).1 (qB2 _ _ _ _).2 (qCk h hA hO hv)
theorem qEy {Fr' : Nat → Nat → Prop} {ι' : q0x} (hF : ∀ b, A b → Fr' c b) {v : V} {x : Value} (hv : q0X w Fr ι v x) : q0X w Fr' ι' (qJv s.S lim c v) x := by
 have mp : ∀ {cs : List V} {j : Nat}, j < cs.length → (cs.map (q32 s.S lim c)).getD j .undef = q32 s.S lim c (cs.getD j .undef) := fun hj => by simp [List.getD, hj]
 cases v with
 | agg cs =>
  cases hv with
  | atom hp _ => simp [isP] at hp
  | agg arr hs hr =>
   refine .agg arr (by simpa using hs) fun j hj => ?_
   have hj' : j < cs.length := by simpa using hj
   rw [mp hj']
   exact q5J h hA hO hF (hr j hj')
 | fn f cs =>
  cases hv with
  | atom hp _ => simp [isP] at hp
  | fn arr hs hr =>
   refine .fn arr (by simpa using hs) fun j hj => ?_
   have hj' : j < cs.length := by simpa using hj
   rw [mp hj']
   exact q5J h hA hO hF (hr j hj')
 | oref id i off =>
  simp only [qJv]
  split
  ·rename_i cs hl h64
   split
   ·cases hv with
    | atom hp _ => simp [isP] at hp
    | oref hi him =>
     rename_i b sz m
     obtain ⟨cells, e, hh, hsz, hr⟩ := (h.own id _ b sz m hl hi).1
     refine q6D (A := A) (c := c) hF rfl (.inr rfl) ?_
     rw [Nat.zero_mul]
     refine PRep.ptr (base := 0) (fun j => cells.getD j Go.undef) (hO id _ _ (Nat.le_of_ble_eq_true h64) hl hi rfl) (fun j hj => ?_) (fun j hj => ?_)
     ·have hj' : j < cs.length := by simpa using hj
      rw [Nat.zero_add]; exact q30 hh (by omega)
     ·have hj' : j < cs.length := by simpa using hj
      rw [mp hj']
      exact qCk h hA hO (hr j hj')
   ·exact .atom rfl (.undef _)
  ·exact q5J h hA hO hF hv
 | _ => exact q5J h hA hO hF hv
theorem qIX {Fr' : Nat → Nat → Prop} {ι' : q0x} (hF : ∀ b, A b → Fr' c b) {v : V} {x : Value} (hv : q0X w Fr ι v x) : q0X w Fr' ι' (x3n s.S lim c v) x := by
 cases v with
 | tup vs =>
  cases hv with
  | atom hp _ => simp [isP] at hp
  | tup arr hs hr =>
   refine .tup arr (by simpa using hs) fun j hj => ?_
   have hj' : j < vs.length := by simpa using hj
   have e1 : (vs.map (qJv s.S lim c)).getD j .undef = qJv s.S lim c (vs.getD j .undef) := by simp [List.getD, hj']
   rw [e1]
   exact qEy h hA hO hF (hr j hj')
 | _ => exact qEy h hA hO hF hv
end
def qJO (N : Nat → Prop) (w' : World) (X0 : Nat → Prop) : Nat → Nat → Prop := fun t b => t ≠ q0i ∧ b < w'.heap.size ∧ ¬ X0 b ∧ (2 ≤ t → N b ∧ ∃ arr e, w'.heap[b]? = some (.cells arr e (0, 0)))
theorem qIx {g : G} {s : AS} {a : Act} {w : World} {ι : q0x} {Fr : Nat → Nat → Prop} (h : Rel g s a w ι Fr) (pol : Nat) {v : V} {x : Value} (hv : q0X w Fr ι v x) {ι' : q0x} :
  q0X w (qJO g.New w g.X0) ι' (qAU pol s v) x := by
 have hnx : ∀ b, g.New b → ¬ g.X0 b := fun b hb => h.newX hb
 have hO : ∀ id blk r, 64 ≤ id → lk s.S id = some blk → ι id = some r → isC blk = true → r.1 < w.heap.size ∧ ¬ g.X0 r.1 ∧ g.New r.1 ∧ ∃ arr e, w.heap[r.1]? = some (.cells arr e (0, 0)) := by
  intro id blk r h64 hl hi hcc
  obtain ⟨b, sz, m⟩ := r
  obtain ⟨h1, h2⟩ := h.own id blk b sz m hl hi
  have hb : g.New b := by
   rcases h2 with h2 | h2
   ·exact h2
   ·omega
  exact ⟨h1.lt, hnx b hb, hb, h1.cl hcc⟩
 unfold qAU
 split
 ·refine qIX h (A := fun b => b < w.heap.size ∧ ¬ g.X0 b) (fun t b _ hf => ⟨(h.fr t b hf).1, (h.fr t b hf).2.1⟩) (fun id blk r h64 hl hi hcc => ⟨(hO id blk r h64 hl hi hcc).1, (hO id blk r h64 hl hi hcc).2.1⟩) ?_ hv
  intro b hb
  exact ⟨by decide, hb.1, hb.2, fun h2 => by omega⟩
 ·refine qIX h (A := fun b => b < w.heap.size ∧ ¬ g.X0 b ∧ g.New b ∧ ∃ arr e, w.heap[b]? = some (.cells arr e (0, 0))) (fun t b ht hf => ⟨(h.fr t b hf).1, (h.fr t b hf).2.1, h.fr2 t b ht hf, h.cl t b ht hf⟩) hO ?_ hv
  intro b hb
  exact ⟨by decide, hb.1, hb.2.1, fun _ => hb.2.2⟩
theorem qJM {P : Program} {cx : Cx} (hT : q31 P cx.tt) {g : G} {s : AS} {a : Act} {w : World} {ι : q0x} {Fr : Nat → Nat → Prop} (h : Rel g s a w ι Fr) {F : ResultVar → Sem Value}
  (h1 : ∀ t, F (.tmp t) = pure (a.tmps.getD t Go.undef)) (h2 : ∀ b t, F (.cell b t) = do loadVar t (← asAddr (a.tmps.getD b Go.undef))) {x : ResultVar} {v : V} (hv : qIG cx.tt s x = some v) :
  ∃ y, (F x).run P w = .ok y w ∧ q0X w Fr ι v y := by
 have hval : ∀ t, q0X w Fr ι (q1T s (.tmp t)) (a.tmps.getD t Go.undef) := fun t => by
  have := q4P h (.tmp t)
  simpa [Act.eval] using this
 cases x with
 | tmp t =>
  simp only [qIG, Option.some.injEq] at hv
  subst hv
  exact ⟨_, by rw [h1]; rfl, hval t⟩
 | cell b t =>
  simp only [qIG] at hv
  split at hv
  ·rename_i ti hti
   split at hv
   ·rename_i v' upd rd he
    simp only [Option.some.injEq] at hv
    subst hv
    obtain ⟨_, y, hy, hrep⟩ := qIo (P := P) hT h hti he (fun q hq => by simp at hq) (hval b)
    refine ⟨y, ?_, hrep⟩
    have hp : ∃ ad, a.tmps.getD b Go.undef = .pointer (some ad) := by
     have hb := hval b
     generalize a.tmps.getD b Go.undef = xb at hb
     generalize q1T s (.tmp b) = vb at hb he
     cases hb with
     | atom hv hr =>
      cases hr with
      | ptr => exact ⟨_, rfl⟩
      | agg => simp [isP] at hv
      | tup => simp [isP] at hv
      | fn => simp [isP] at hv
      | _ => simp [q9h] at he
     | oref => exact ⟨_, rfl⟩
     | _ => simp [q9h] at he
    obtain ⟨ad, had⟩ := hp
    rw [h2, had]
    rw [had] at hy
    simpa [Instr.loadAt, Instr.sureAddr, asAddr] using hy
   ·simp at hv
  ·simp at hv
theorem qHj {P : Program} {cx : Cx} (hT : q31 P cx.tt) {g : G} {s : AS} {a : Act} {w : World} {ι : q0x} {Fr : Nat → Nat → Prop} (h : Rel g s a w ι Fr) {F : ResultVar → Sem Value}
  (h1 : ∀ t, F (.tmp t) = pure (a.tmps.getD t Go.undef)) (h2 : ∀ b t, F (.cell b t) = do loadVar t (← asAddr (a.tmps.getD b Go.undef))) : ∀ {l : List ResultVar} {vs : List V}, qTe cx.tt s l = some vs →
  ∃ ys, (l.mapM F).run P w = .ok ys w ∧ ys.length = vs.length ∧ ∀ j, j < vs.length → q0X w Fr ι (vs.getD j .undef) (ys.getD j Go.undef)
 | [], vs, hv => by
  simp only [qTe, Option.some.injEq] at hv
  subst hv
  exact ⟨[], rfl, rfl, fun j hj => by simp at hj⟩
 | x :: r, vs, hv => by
  simp only [qTe] at hv
  split at hv
  ·rename_i v l hx hl
   simp only [Option.some.injEq] at hv
   subst hv
   obtain ⟨y, hy, hyr⟩ := qJM hT h h1 h2 hx
   obtain ⟨ys, hys, hlen, hr⟩ := qHj hT h h1 h2 hl
   refine ⟨y :: ys, by simp only [List.mapM_cons, Sem.run_bind, Sem.run_pure, Result.andThen_ok, hy, hys], by simp [hlen], fun j hj => ?_⟩
   cases j with
   | zero => simpa using hyr
   | succ j => simpa using hr j (by simpa using hj)
  ·simp at hv
theorem qDc {P : Program} {cx : Cx} (hT : q31 P cx.tt) {g : G} {s : AS} {a : Act} {w : World} {ι : q0x} {Fr : Nat → Nat → Prop} (h : Rel g s a w ι Fr) {fn : Func} {r : V} (hr : qKu cx.tt s fn.results.toList = some r) :
  ∃ v, (results fn a.tmps).run P w = .ok v w ∧ q0X w Fr ι r v := by
 unfold qKu at hr
 cases hl : qTe cx.tt s fn.results.toList with
 | none => rw [hl] at hr; simp at hr
 | some vs =>
  have key : ∀ F : ResultVar → Sem Value, (∀ t, F (.tmp t) = pure (a.tmps.getD t Go.undef)) → (∀ b t, F (.cell b t) = do loadVar t (← asAddr (a.tmps.getD b Go.undef))) →
    ∃ v, ((((fn.results.toList.mapM F).run P w).andThen fun a w' => Result.ok a.toArray w').andThen fun a w' => (pure (if h : a.size = 1 then a[0] else Value.tuple a) : Sem Value).run P w') = .ok v w ∧ q0X w Fr ι r v := by
   intro F h1 h2
   obtain ⟨ys, hys, hlen, hrep⟩ := qHj hT h h1 h2 hl
   refine ⟨if hh : ys.toArray.size = 1 then ys.toArray[0] else .tuple ys.toArray, by rw [hys]; rfl, ?_⟩
   rw [hl] at hr
   split at hr
   ·rename_i v e1
    simp only [Option.some.injEq] at hr e1
    subst e1; subst hr
    match ys, hlen, hrep with
    | [y], _, hrep => simpa using hrep 0 (by simp)
   ·rename_i l hne e1
    simp only [Option.some.injEq] at hr e1
    subst e1; subst hr
    have hlen1 : vs.length ≠ 1 := fun e => by
     match vs, e with
     | [t], _ => exact hne t rfl
    rw [dif_neg (by simpa [hlen] using hlen1)]
    refine .tup _ (by simp [hlen]) fun j hj => ?_
    have := hrep j hj
    have e2 : ys.toArray.getD j Go.undef = ys.getD j Go.undef := by simp [Array.getD_eq_getD_getElem?, List.getD]
    rw [e2]; exact this
   ·simp at hr
  unfold results
  rw [Array.mapM_eq_mapM_toList]
  simp only [Sem.run_bind, Sem.run_map]
  exact key _ (fun _ => rfl) (fun _ _ => rfl)
theorem q8E : ∀ {args : List V} {k t : Nat} {v : V}, lk (q6y args k) t = some v → ∃ j, t = k + j ∧ args[j]? = some v
 | [], _, _, _, h => by simp [q6y, lk] at h
 | x :: r, k, t, v, h => by
  simp only [q6y, lk] at h
  split at h
  ·rename_i hk
   refine ⟨0, ?_, ?_⟩
   ·have := q0j.1 hk; omega
   ·simpa using h
  ·obtain ⟨j, hj, hv⟩ := q8E h
   exact ⟨j + 1, by omega, by simpa using hv⟩
def q4E (args args' : List V) : Prop := args'.length = args.length ∧ ∀ j, j < args.length → VLe (args.getD j .undef) (args'.getD j .undef)
theorem q4E.refl (args : List V) : q4E args args := ⟨rfl, fun _ _ => VLe.refl _⟩
theorem qAk {P : Program} {f : Nat} {fn : Func} {c : Code} (hf : P.funcs[f]? = some fn) (hb : fn.body = some c) (hn : (fn.name == "runtime.NumGoroutine") = false) (vals : Array Value) (w : World) :
  (callFunc f vals).run P w = .ok (.enter f vals) w := by
 have hn' : ¬ fn.name = "runtime.NumGoroutine" := by simpa using hn
 unfold callFunc
 simp [hf, hb, hn']
theorem q09 {P : Program} (hm : P.follows .mixedOrders = true) {f : Nat} {fn : Func} {c : Code} {D : q0G} {pol : Nat}
  (hf : P.funcs[f]? = some fn) (hb : fn.body = some c) (hn : (fn.name == "runtime.NumGoroutine") = false)
  (hbody : ∀ args bin ob r bout, D args bin = some (ob, r, bout) → ob → bin = [] ∧ bout = [] ∧ args.length ≤ fn.ntmps ∧
   ∃ cx : Cx, q31 P cx.tt ∧ q0D P cx.D ∧ q3a P cx.M ∧ cx.nt = fn.ntmps ∧ ∃ args', q4E args args' ∧ q0f cx fn pol args' (fun r' => VLe r' r)) : q0T P f D := by
 refine ⟨?_⟩
 intro args bin ob r bout hDe hob vals w X0 io ι Fr hE hsize hvals
 refine .inl ⟨qAk hf hb hn _ _, ?_⟩
 obtain ⟨rfl, rfl, hlen, cx, hT, hD, hM, hnt, args', ⟨hl', hle⟩, hp⟩ := hbody args bin ob r bout hDe hob
 let g : G := ⟨w, X0, io, fn.ntmps, ι, fun _ => False⟩
 have hN : ∀ b, g.New b → w.heap.size ≤ b := fun b hb => hb.elim id fun hq => hq.elim
 have hrel : Rel g ⟨q6y args' 0, []⟩ { tmps := vals ++ Array.replicate (fn.ntmps - vals.size) Go.undef, defers := [] } w ι Fr := by
  refine
   {defers := rfl
    size := by show (vals ++ Array.replicate (fn.ntmps - vals.size) Go.undef).size = fn.ntmps; simp; omega
    tmp := ?_
    own := fun id blk b sz m hl => by simp [lk] at hl
    nob := fun id blk hl => by simp [lk] at hl
    inj := fun id id' blk blk' r r' hl => by simp [lk] at hl
    fr := fun t b hb => ⟨(hE.fr t b hb).1, (hE.fr t b hb).2.1, fun id blk r hl => by simp [lk] at hl⟩
    frS := hE.frS
    fr0 := hE.fr0
    fr2 := fun t b h2 hb => absurd hb (hE.fr2 t b h2)
    fr1 := fun b hb hq => by
     have := (hE.fr 1 b hb).1
     have := hN b hq
     omega
    cl := fun t b h2 hb => absurd hb (hE.fr2 t b h2)
    low := fun _ _ => rfl
    x0 := hE.x0
    io0 := hE.io0
    mvio := fun _ hq => hq.elim
    os := rfl, tape := rfl, output := rfl, hsize := Nat.le_refl _, frame := fun _ _ _ => rfl, shape := fun _ _ h => h }
  intro t v ht
  obtain ⟨j, rfl, hj⟩ := q8E ht
  rw [Nat.zero_add]
  have hj' : j < args'.length := (List.getElem?_eq_some_iff.1 hj).1
  have e1 : args'.getD j .undef = v := by simp [List.getD, hj]
  have e2 : (vals ++ Array.replicate (fn.ntmps - vals.size) Go.undef).getD j Go.undef = vals.getD j Go.undef := by
   have hjv : j < vals.size := by omega
   simp only [Array.getD_eq_getD_getElem?]
   rw [Array.getElem?_append_left hjv]
  have := (hle j (by omega)).le w Fr ι _ hE.frS hE.fr0 (hvals j (by omega))
  rw [e1] at this
  show q0X w Fr ι v ((vals ++ Array.replicate (fn.ntmps - vals.size) Go.undef).getD j Go.undef)
  rw [e2]; exact this
 have hfin : ∀ (s : AS) (a : Act) (w' : World) (ι' : q0x) (Fr' : Nat → Nat → Prop), Rel g s a w' ι' Fr' → (∃ r0, qKu cx.tt s fn.results.toList = some r0 ∧ VLe (qAU pol s r0) r) →
   a.defers = [] ∧ ∃ v, (results fn a.tmps).run P w' = .ok v w' ∧ ∃ v' ι'' Fr'', Ending.returned v = .returned v' ∧ q0X w' Fr'' ι'' r v' ∧ Ext w w' X0 io (fun b => w.heap.size ≤ b) ι 0 [] ι'' Fr'' := by
  rintro s a w' ι' Fr' hr ⟨r0, hr0, hv⟩
  obtain ⟨v, hrun, hrep⟩ := qDc (P := P) hT hr hr0
  have hex := qIx hr pol hrep (ι' := ι')
  have hS : ∀ b, ¬ qJO g.New w' X0 q0i b := fun b hb => hb.1 rfl
  have h0 : ∀ t b, qJO g.New w' X0 t b → qJO g.New w' X0 0 b := fun t b hb => ⟨by decide, hb.2.1, hb.2.2.1, fun h2 => by omega⟩
  refine ⟨hr.defers, v, hrun, v, ι', qJO g.New w' X0, rfl, hv.le w' _ ι' v hS h0 hex, ?_⟩
  exact
   {own := fun id blk b sz k hl => by simp at hl
    nob := fun id blk hl => by simp at hl
    inj := fun id id' blk blk' r r' hl => by simp at hl
    fr := fun t b hb => ⟨hb.2.1, hb.2.2.1, fun id blk r hl => by simp at hl⟩
    frS := hS
    fr0 := h0
    fr2 := fun t b h2 hb => hN b (hb.2.2.2 h2).1
    cl := fun t b h2 hb => (hb.2.2.2 h2).2
    same := fun id hid => by omega
    os := hr.os, tape := hr.tape, output := hr.output, hsize := hr.hsize, frame := hr.frame, shape := hr.shape }
 unfold q0f at hp
 rw [hb] at hp
 refine calls_of_wp hf hb (q2b hT hD hM hm (g := g) (hnt.trans rfl) c _ _ ?_ _ _ w ι Fr hp hrel)
 intro e s a w' ι' Fr' he hr
 cases e with
 | normal =>
  simp only [] at he
  split at he
  ·rename_i r0 hr0
   exact hfin s a w' ι' Fr' hr ⟨r0, hr0, he⟩
  ·exact he.elim
 | ret =>
  simp only [] at he
  split at he
  ·rename_i r0 hr0
   exact hfin s a w' ι' Fr' hr ⟨r0, hr0, he⟩
  ·exact he.elim
 | _ => exact he.elim
theorem qWI {w : World} {X0 io : Nat → Prop} {ι : q0x} {Fr : Nat → Nat → Prop} (hE : Ent w X0 io [] ι Fr) : Ext w w X0 io (fun b => w.heap.size ≤ b) ι 0 [] ι Fr :=
 {own := fun id blk b sz k hb => by simp at hb
  nob := fun id blk hb => by simp at hb
  inj := fun id id' blk blk' r r' hb => by simp at hb
  fr := fun t b hf => ⟨(hE.fr t b hf).1, (hE.fr t b hf).2.1, fun id blk r hb => by simp at hb⟩
  frS := hE.frS
  fr0 := hE.fr0
  fr2 := fun t b h2 hf => absurd hf (hE.fr2 t b h2)
  cl := fun t b h2 hf => absurd hf (hE.fr2 t b h2)
  same := fun id h => by omega
  os := rfl, tape := rfl, output := rfl, hsize := Nat.le_refl _
  frame := fun _ _ _ => rfl
  shape := fun _ _ h => h }
def noD (v : V) : q0G := fun _ _ => some (False, v, [])
theorem qHd {P : Program} {f : Nat} {v : V} : q0T P f (noD v) := ⟨fun args bin ob r bout h hob => by
 unfold noD at h
 cases h
 exact hob.elim⟩
theorem q6M {P : Program} {f : Nat} {fn : Func} {D : q0G} {e : Array Value → Sem Value} (hf : P.funcs[f]? = some fn) (hname : (fn.name == "runtime.NumGoroutine") = false)
  (hb : fn.body.isNone = true) (hn : Extern.findNext fn = none) (he : Extern.find fn = some e)
  (h : ∀ args bin ob r bout, D args bin = some (ob, r, bout) → ob → bin = [] ∧ bout = [] ∧ ∀ (vals : Array Value) (w : World) (ι : q0x) (Fr : Nat → Nat → Prop), vals.size = args.length →
   (∀ j, j < args.length → q0X w Fr ι (args.getD j .undef) (vals.getD j Go.undef)) → ∃ v, (e vals).run P w = .ok v w ∧ q0X w Fr ι r v) : q0T P f D := by
 refine ⟨?_⟩
 intro args bin ob r bout hDe hob vals w X0 io ι Fr hE hsize hvals
 obtain ⟨rfl, rfl, hx⟩ := h args bin ob r bout hDe hob
 obtain ⟨v, hv, hr⟩ := hx vals w ι Fr hsize hvals
 refine .inr ⟨v, ?_, v, ι, Fr, rfl, hr, qWI hE⟩
 rw [run_callFunc_extern hf hname hb hn he, hv]
 rfl
def qMI : q0G := fun args bin => match args, bin with
 | [.str s, .int .u8 c], [] => some (True, .int .i64 ((Lib.countByte s.data.toList c.toNat.toUInt8 : Nat) : Int), [])
 | _, _ => none
def q8Z : q0G := fun args bin => match args, bin with
 | [.str s, .int .u8 c], [] => some (True, .int .i64 (Lib.indexByte s.data.toList c.toNat.toUInt8), [])
 | _, _ => none
def qED : q0G := fun args bin => match args, bin with
 | [.str a, .str b], [] => some (True, .int .i64 (Lib.compareBytes a.data.toList b.data.toList), [])
 | _, _ => none
theorem qP6 {vals : Array Value} {a b : Value} (h : vals.size = 2) (h0 : vals.getD 0 Go.undef = a) (h1 : vals.getD 1 Go.undef = b) : vals = #[a, b] := by
 apply Array.ext
 ·simpa using h
 ·intro i hi1 hi2
  have hi : i < 2 := by simpa using hi2
  match i, hi with
  | 0, _ => rw [← h0]; simp [h]
  | 1, _ => rw [← h1]; simp [h]
section
variable {P : Program} {f : Nat} {fn : Func} (hf : P.funcs[f]? = some fn) (hname : (fn.name == "runtime.NumGoroutine") = false) (hb : fn.body.isNone = true) (hn : Extern.findNext fn = none)
include hf hname hb hn
theorem qGs (he : Extern.find fn = some Extern.BytealgCount.count) : q0T P f qMI :=
 q6M hf hname hb hn he fun args bin ob r bout hD _ => by
  unfold qMI at hD
  split at hD
  ·rename_i s c
   cases hD
   refine ⟨rfl, rfl, fun vals w ι Fr hs hv => ?_⟩
   have h0 := q3r (hv 0 (by simp))
   have h1 := q27 (hv 1 (by simp))
   rw [qP6 hs h0 h1, Lib.run_countString]
   exact ⟨_, rfl, .atom rfl (.int _ _)⟩
  ·cases hD
theorem qBQ (he : Extern.find fn = some Extern.BytealgIndexByte.indexByte) : q0T P f q8Z :=
 q6M hf hname hb hn he fun args bin ob r bout hD _ => by
  unfold q8Z at hD
  split at hD
  ·rename_i s c
   cases hD
   refine ⟨rfl, rfl, fun vals w ι Fr hs hv => ?_⟩
   have h0 := q3r (hv 0 (by simp))
   have h1 := q27 (hv 1 (by simp))
   rw [qP6 hs h0 h1, Lib.run_indexByteString]
   exact ⟨_, rfl, .atom rfl (.int _ _)⟩
  ·cases hD
theorem qDY (he : Extern.find fn = some Extern.BytealgCompare.compare) : q0T P f qED :=
 q6M hf hname hb hn he fun args bin ob r bout hD _ => by
  unfold qED at hD
  split at hD
  ·rename_i a b
   cases hD
   refine ⟨rfl, rfl, fun vals w ι Fr hs hv => ?_⟩
   have h0 := q3r (hv 0 (by simp))
   have h1 := q3r (hv 1 (by simp))
   rw [qP6 hs h0 h1, Lib.run_compareString]
   exact ⟨_, rfl, .atom rfl (.int _ _)⟩
  ·cases hD
end
def qBh : Value → V
 | .agg cs => .agg (cs.toList.map q4k)
 | v => q4k v
def qEJ : Value → Bool
 | .agg _ => true
 | _ => false
def qUe : V → Bool
 | .agg cs => cs.all qBf
 | v => qBf v
def qQk (P : Program) (t : Nat) (d : TypeDesc) : Bool :=
 !(P.stoodInHeld t) && !(P.eqGuardType P.depth t) && (match d with
  | .struct fs => fs.toList.all fun f => !(f.name == "_")
  | _ => true)
def x3X (P : Program) (t : Nat) : Option TI :=
 match P.underlying t, P.info? t with
 | some d, some i => match i.zero with
  | some z => match Nat.beq (qBh z).cells.length i.size && Nat.beq z.cells.size i.size && (q3l d == qEJ z) with
   | true => some ⟨d, i.size, i.bytes, qBh z, qUe (qBh z), qQk P t d⟩
   | false => none
  | none => none
 | _, _ => none
def qFd (P : Program) : List Nat → TT
 | [] => []
 | t :: r => match x3X P t with
  | some ti => (t, ti) :: qFd P r
  | none => qFd P r
theorem qD9 {P : Program} : ∀ {ids : List Nat} {t : Nat} {ti : TI}, lk (qFd P ids) t = some ti → x3X P t = some ti
 | [], _, _, h => by simp [qFd, lk] at h
 | k :: r, t, ti, h => by
  simp only [qFd] at h
  split at h
  ·rename_i u hu
   simp only [lk] at h
   split at h
   ·rename_i hk
    rw [← q0j.1 hk, hu]; exact h
   ·exact qD9 h
  ·exact qD9 h
theorem qAf (w : World) (v : Value) : PRep w (fun _ => False) (q4k v) v := by
 unfold q4k
 split
 ·exact .int _ _
 ·exact .bool _
 ·exact .str _
 ·exact .nil _
 ·exact .undef _
theorem qJn (w : World) (z : Value) : PRep w (fun _ => False) (qBh z) z := by
 unfold qBh
 split
 ·rename_i cs
  refine .agg cs (by simp) fun j hj => ?_
  have hj' : j < cs.size := by simpa using hj
  have e1 : (cs.toList.map q4k).getD j .undef = q4k cs[j] := by simp [List.getD, hj']
  have e2 : cs.getD j Go.undef = cs[j] := by simp [hj']
  rw [e1, e2]
  exact qAf w _
 ·exact qAf w _
theorem qPN (P : Program) (ids : List Nat) : q31 P (qFd P ids) := by
 have key : ∀ t ti, lk (qFd P ids) t = some ti → ∃ d i z, P.underlying t = some d ∧ P.info? t = some i ∧ i.zero = some z ∧ (qBh z).cells.length = i.size ∧ z.cells.size = i.size ∧ q3l d = qEJ z ∧
   ti = ⟨d, i.size, i.bytes, qBh z, qUe (qBh z), qQk P t d⟩ := by
  intro t ti h
  have h := qD9 h
  unfold x3X at h
  split at h
  ·rename_i d i hd hi
   split at h
   ·rename_i z hz
    split at h
    ·rename_i hb
     simp only [Bool.and_eq_true] at hb
     exact ⟨d, i, z, hd, hi, hz, q0j.1 hb.1.1, q0j.1 hb.1.2, by simpa using hb.2, (Option.some.inj h).symm⟩
    ·simp at h
   ·simp at h
  ·simp at h
 constructor
 ·intro t ti h
  obtain ⟨d, i, z, hd, _, _, _, _, _, rfl⟩ := key t ti h
  exact hd
 ·intro t ti h hc
  obtain ⟨d, i, z, hd, _, _, _, _, _, rfl⟩ := key t ti h
  simp only [qQk, Bool.and_eq_true, Bool.not_eq_true'] at hc
  refine ⟨hc.1.1, hc.1.2, fun fs hfs f hf => ?_⟩
  have h3 := hc.2
  simp only [] at hfs
  rw [hfs] at h3
  have := List.all_eq_true.1 h3 f hf
  simpa using this
 ·intro t ti h
  obtain ⟨d, i, z, hd, hi, hz, h1, h2, h3, rfl⟩ := key t ti h
  refine ⟨i, hi, rfl, rfl, z, hz, fun w => qJn w z, h1, h2, ?_⟩
  rw [h3]
  cases z with
  | agg cs => simp [qEJ, qBh]
  | _ => simp only [qEJ, qBh, q4k] <;> (try split) <;> simp
structure PLe (v v' : V) : Prop where
 le : ∀ (w : World) (A : Nat → Prop) (x : Value), PRep w A v x → PRep w A v' x
theorem PLe.refl (v : V) : PLe v v := ⟨fun _ _ _ h => h⟩
theorem PLe.of_eq {v v' : V} (h : v = v') : PLe v v' := h ▸ PLe.refl v
theorem qRx (g : Nat → V) (t : Nat) : PLe .nil (.sl 0 g t) := ⟨fun w A x h => by cases h; exact .sl0 _ _ _ _⟩
structure ELe (v v' : V) : Prop where
 len : v'.cells.length = v.cells.length
 cell : ∀ j, j < v.cells.length → PLe (v.cells.getD j .undef) (v'.cells.getD j .undef)
theorem ELe.refl (v : V) : ELe v v := ⟨rfl, fun _ _ => PLe.refl _⟩
theorem ELe.of_eq {v v' : V} (h : v = v') : ELe v v' := h ▸ ELe.refl v
theorem qQF {n : Nat} {g g' : Nat → V} {t t' : Nat} (h : ∀ i, i < n → ELe (g i) (g' i)) : PLe (.sl n g t) (.sl n g' t') := ⟨fun w A x hx => by
 cases hx with
 | sl0 => exact .sl0 _ _ _ _
 | sl cv hA hcap hsz hc hr =>
  refine .sl cv hA hcap (fun i hi => by rw [(h i hi).len]; exact hsz i hi) hc fun i j hi hj => ((h i hi).cell j (by rw [hsz i hi]; exact hj)).le _ _ _ (hr i j hi hj)⟩
theorem VLe.of_eq {v v' : V} (h : v = v') : VLe v v' := h ▸ VLe.refl v
theorem q7k (g : Nat → V) (t : Nat) : VLe .nil (.sl 0 g t) := ⟨fun w Fr ι x _ _ h => by
 obtain ⟨a, rfl⟩ := qE1 h
 exact .atom rfl (.sl0 _ _ _ _)⟩
theorem qJ3 {v v' : V} (h : PLe v v') (hp : isP v = true) (hp' : isP v' = true) (ht : qQC v' = qQC v ∨ qQC v' = 0) : VLe v v' := ⟨fun w Fr ι x _ h0 hx => by
 cases hx with
 | atom _ hr =>
  refine .atom hp' (h.le _ _ _ ?_)
  rcases ht with ht | ht
  ·rw [ht]; exact hr
  ·rw [ht]; exact hr.weaken fun b hb => h0 _ b hb
 | osl => simp [isP] at hp
 | osl0 => simp [isP] at hp
 | oss => simp [isP] at hp
 | oss0 => simp [isP] at hp
 | oref => simp [isP] at hp
 | omap => simp [isP] at hp
 | agg => simp [isP] at hp
 | tup => simp [isP] at hp
 | fn => simp [isP] at hp
 | cnd => simp [isP] at hp⟩
theorem qGB {n : Nat} {g g' : Nat → V} {t t' : Nat} (h : ∀ i, i < n → ELe (g i) (g' i)) (ht : t' = t ∨ t' = 0) : VLe (.sl n g t) (.sl n g' t') :=
 qJ3 (qQF h) rfl rfl (by simpa [qQC, q1c] using ht)
def qPq : List V → List V → Prop
 | [], [] => True
 | v :: r, v' :: r' => VLe v v' ∧ qPq r r'
 | _, _ => False
theorem q8L : ∀ {l l' : List V}, qPq l l' → l'.length = l.length
 | [], [], _ => rfl
 | _ :: _, _ :: _, h => by simp [q8L h.2]
 | [], _ :: _, h => h.elim
 | _ :: _, [], h => h.elim
theorem qBL : ∀ {l l' : List V}, qPq l l' → ∀ j, j < l.length → VLe (l.getD j .undef) (l'.getD j .undef)
 | [], [], _, _, hj => by simp at hj
 | _ :: _, _ :: _, h, 0, _ => by simpa using h.1
 | _ :: r, _ :: r', h, j + 1, hj => by simpa using qBL h.2 j (by simpa using hj)
 | [], _ :: _, h, _, _ => h.elim
 | _ :: _, [], h, _, _ => h.elim
theorem q4u {cs cs' : List V} (h : qPq cs cs') : VLe (.agg cs) (.agg cs') := ⟨fun w Fr ι x hS h0 hx => by
 cases hx with
 | atom hp _ => simp [isP] at hp
 | agg arr hs hr =>
  have hl := q8L h
  exact .agg arr (by omega) fun j hj => (qBL h j (by omega)).le _ _ _ _ hS h0 (hr j (by omega))⟩
theorem q97 {cs cs' : List V} (h : qPq cs cs') : VLe (.tup cs) (.tup cs') := ⟨fun w Fr ι x hS h0 hx => by
 cases hx with
 | atom hp _ => simp [isP] at hp
 | tup arr hs hr =>
  have hl := q8L h
  exact .tup arr (by omega) fun j hj => (qBL h j (by omega)).le _ _ _ _ hS h0 (hr j (by omega))⟩
theorem qF2 {f : Nat} {cs cs' : List V} (h : qPq cs cs') : VLe (.fn f cs) (.fn f cs') := ⟨fun w Fr ι x hS h0 hx => by
 cases hx with
 | atom hp _ => simp [isP] at hp
 | fn arr hs hr =>
  have hl := q8L h
  exact .fn arr (by omega) fun j hj => (qBL h j (by omega)).le _ _ _ _ hS h0 (hr j (by omega))⟩
theorem args_of_vles {l l' : List V} (h : qPq l l') : q4E l l' := ⟨q8L h, qBL h⟩
structure BLe (b b' : Blk) : Prop where
 le : ∀ (w : World) (Fr : Nat → Nat → Prop) (ι : q0x) (bb sz m : Nat), (∀ b, ¬ Fr q0i b) → (∀ t b, Fr t b → Fr 0 b) → q8J w Fr ι bb sz m b → q8J w Fr ι bb sz m b'
 nob : (∃ sz h te, b = .arr sz 0 h te) → ∃ sz h te, b' = .arr sz 0 h te
theorem BLe.refl (b : Blk) : BLe b b := ⟨fun _ _ _ _ _ _ _ _ h => h, fun h => h⟩
theorem q1B {sz n : Nat} {g g' : Nat → V} {te te' : Nat} (h : ∀ i, i < n → ELe (g i) (g' i)) (ht : te' = te ∨ te' = 0 ∨ te = q0i ∨ n = 0) : BLe (.arr sz n g te) (.arr sz n g' te') := by
 constructor
 ·rintro w Fr ι bb sz' m hS h0 ⟨h1, h2, cells, e, hh, hsz, hlen, hr⟩
  refine ⟨h1, h2, cells, e, hh, hsz, fun i hi => by rw [(h i hi).len]; exact hlen i hi, fun i j hi hj => ?_⟩
  refine ((h i hi).cell j (by rw [hlen i hi]; exact hj)).le _ _ _ ?_
  have := hr i j hi hj
  rcases ht with ht | ht | ht | ht
  ·rw [ht]; exact this
  ·rw [ht]; exact this.weaken fun b hb => h0 _ b hb
  ·rw [ht] at this; exact this.weaken fun b hb => absurd hb (hS b)
  ·omega
 ·rintro ⟨sz', h', te', he⟩
  injection he with _ hn
  subst hn
  exact ⟨_, _, _, rfl⟩
def TLe : List (Nat × V) → List (Nat × V) → Prop
 | [], [] => True
 | (t, v) :: r, (t', v') :: r' => t = t' ∧ VLe v v' ∧ TLe r r'
 | _, _ => False
def x2g : List (Nat × Blk) → List (Nat × Blk) → Prop
 | [], [] => True
 | (t, v) :: r, (t', v') :: r' => t = t' ∧ BLe v v' ∧ x2g r r'
 | _, _ => False
theorem qPj : ∀ {T T' : List (Nat × V)}, TLe T T' → ∀ {t : Nat} {v' : V}, lk T' t = some v' → ∃ v, lk T t = some v ∧ VLe v v'
 | [], [], _, _, _, h => by simp [lk] at h
 | (k, v) :: r, (k', v') :: r', hh, t, u, h => by
  obtain ⟨rfl, h1, h2⟩ := hh
  simp only [lk] at h ⊢
  split at h
  ·have : v' = u := Option.some.inj h
   subst this
   exact ⟨v, rfl, h1⟩
  ·exact qPj h2 h
 | [], _ :: _, h, _, _, _ => h.elim
 | _ :: _, [], h, _, _, _ => h.elim
theorem q8p : ∀ {S S' : List (Nat × Blk)}, x2g S S' → ∀ {t : Nat} {v' : Blk}, lk S' t = some v' → ∃ v, lk S t = some v ∧ BLe v v'
 | [], [], _, _, _, h => by simp [lk] at h
 | (k, v) :: r, (k', v') :: r', hh, t, u, h => by
  obtain ⟨rfl, h1, h2⟩ := hh
  simp only [lk] at h ⊢
  split at h
  ·have : v' = u := Option.some.inj h
   subst this
   exact ⟨v, rfl, h1⟩
  ·exact q8p h2 h
 | [], _ :: _, h, _, _, _ => h.elim
 | _ :: _, [], h, _, _, _ => h.elim
theorem q1X {T T' : List (Nat × V)} {S S' : List (Nat × Blk)} (hT : TLe T T') (hS : x2g S S') : SLe ⟨T, S⟩ ⟨T', S'⟩ := ⟨fun g a w ι Fr h => ⟨ι, Fr,
 {h with
  tmp := fun t v ht => by
   obtain ⟨u, hu, hle⟩ := qPj hT ht
   exact hle.le _ _ _ _ h.frS h.fr0 (h.tmp t u hu)
  own := fun id blk b sz m hl hi => by
   obtain ⟨u, hu, hle⟩ := q8p hS hl
   obtain ⟨h1, h2⟩ := h.own id u b sz m hu hi
   exact ⟨hle.le _ _ _ _ _ _ h.frS h.fr0 h1, h2⟩
  nob := fun id blk hl hi => by
   obtain ⟨u, hu, hle⟩ := q8p hS hl
   exact hle.nob (h.nob id u hu hi)
  inj := fun id id' blk blk' r r' h1 h2 => by
   obtain ⟨u, hu, _⟩ := q8p hS h1
   obtain ⟨u', hu', _⟩ := q8p hS h2
   exact h.inj id id' u u' r r' hu hu'
  fr := fun t b hb => ⟨(h.fr t b hb).1, (h.fr t b hb).2.1, fun id blk r hl => by
   obtain ⟨u, hu, _⟩ := q8p hS hl
   exact (h.fr t b hb).2.2 id u r hu⟩ }⟩⟩
set_option linter.unusedVariables false
set_option linter.unusedSimpArgs false
def qMO (te : Nat) : Option Nat := match Nat.beq te q0i with
 | true => some q0i
 | false => match Nat.ble 2 te with
  | true => some 2
  | false => none
def q58 (S : List (Nat × Blk)) : Nat → List (Nat × Nat) → List V → Option (List V × List Blk × List (Option (Nat × Nat)))
 | _, [], cs => some (cs, [], [])
 | k, (p, sz) :: r, cs => match cs[p]?, q58 S (k + 1) r cs with
  | some (.osl id n), some (out, bl, src) => match lk S id, Nat.ble 64 id with
   | some (.arr sz' _ g te), true => match Nat.beq sz' sz, qMO te with
    | true, some t => some (out.set p (.osl k n), .arr sz n g t :: bl, some (id, n) :: src)
    | _, _ => none
   | _, _ => none
  | some .nil, some (out, bl, src) => some (out.set p (.osl k 0), .arr sz 0 (fun _ => .undef) q0i :: bl, none :: src)
  | _, _ => none
def qGS (te : Nat) : Nat := match Nat.beq te q0i with
 | true => q0i
 | false => 1
def qCP (S : List (Nat × Blk)) : Nat → Option (List Blk)
 | 0 => some []
 | m + 1 => match qCP S m, lk S m with
  | some l, some (.arr sz n g te) => some (l ++ [.arr sz n g (qGS te)])
  | some l, some (.box cs) => some (l ++ [.box (cs.map (q32 [] 0 1))])
  | _, _ => none
def q5z : List (Option (Nat × Nat)) → List Nat
 | [] => []
 | some (id, _) :: r => id :: q5z r
 | none :: r => q5z r
def q2C : V → List V
 | .agg l => l
 | v => [v]
def q3W : V → List V
 | .tup cs => cs.flatMap q2C
 | v => v.cells
def q4s : List V → List V → List V
 | [], _ => []
 | .agg l :: r, out => .agg (out.take l.length) :: q4s r (out.drop l.length)
 | _ :: r, out => out.headD .undef :: q4s r (out.drop 1)
def qPf : V → List V → V
 | .tup cs, out => .tup (q4s cs out)
 | r, out => q8c (qIf r) out
def qXi (S : List (Nat × Blk)) (m : Nat) : V → V
 | .osl id n => match Nat.blt id m with
  | true => .osl id n
  | false => q32 S 2 2 (.osl id n)
 | .sl n g t => match Nat.ble 2 t with
  | true => .sl n g 2
  | false => .sl n g 0
 | .ptr cs o t => match Nat.ble 2 t with
  | true => .ptr cs o 2
  | false => .ptr cs o 0
 | v => q32 S 2 2 v
def qNi (S : List (Nat × Blk)) (m : Nat) (ps : List Nat) : Nat → List V → List V → List V
 | i, c :: cs, o :: os => (match mem i ps with
  | true => o
  | false => qXi S m c) :: qNi S m ps (i + 1) cs os
 | _, _, _ => []
def qG6 (S : List (Nat × Blk)) (ids : List Nat) : List (Nat × Blk) := S.filter fun e => !(mem e.1 ids)
def q6R (tpl : List (Nat × Nat)) (m : Nat) (S : List (Nat × Blk)) (r : V) : Option (V × List Blk) :=
 match qCP S m, q58 S m tpl (q3W r) with
 | some hb, some (out, bl, src) => match qHv (q5z src) with
  | true => some (qPf r (qNi (qG6 S (q5z src)) m (tpl.map fun q => q.1) 0 (q3W r) out), hb ++ bl)
  | false => none
 | _, _ => none
def q1d : List Blk → List Blk → Prop
 | [], [] => True
 | b :: r, b' :: r' => BLe b b' ∧ q1d r r'
 | _, _ => False
theorem q1d.refl : ∀ l : List Blk, q1d l l
 | [] => trivial
 | b :: r => ⟨BLe.refl b, q1d.refl r⟩
theorem q1d.len : ∀ {l l' : List Blk}, q1d l l' → l'.length = l.length
 | [], [], _ => rfl
 | _ :: _, _ :: _, h => by simp [q1d.len h.2]
 | [], _ :: _, h => h.elim
 | _ :: _, [], h => h.elim
theorem q1d.at : ∀ {l l' : List Blk}, q1d l l' → ∀ {j : Nat} {b' : Blk}, l'[j]? = some b' → ∃ b, l[j]? = some b ∧ BLe b b'
 | [], [], _, _, _, h => by simp at h
 | b :: r, c :: r', h, 0, b', hb => by
  simp at hb
  subst hb
  exact ⟨b, by simp, h.1⟩
 | b :: r, c :: r', h, j + 1, b', hb => by
  obtain ⟨x, hx, hle⟩ := q1d.at h.2 (j := j) (by simpa using hb)
  exact ⟨x, by simpa using hx, hle⟩
 | [], _ :: _, h, _, _, _ => h.elim
 | _ :: _, [], h, _, _, _ => h.elim
@[irreducible] def q3H (cx : Cx) (fn : Func) (tpl : List (Nat × Nat)) (args : List V) (bin : List Blk) (K : V → List Blk → Prop) : Prop :=
 match fn.body with
 | some c => awp cx c (fun e s =>
   match e with
   | .normal => match qKu cx.tt s fn.results.toList with
    | some r => match q6R tpl bin.length s.S r with
     | some (r', bs) => K r' bs
     | none => False
    | none => False
   | .ret => match qKu cx.tt s fn.results.toList with
    | some r => match q6R tpl bin.length s.S r with
     | some (r', bs) => K r' bs
     | none => False
    | none => False
   | _ => False) ⟨q6y args 0, qAJ bin 0⟩
 | none => False
theorem qFj : ∀ {l : List Blk} {k t : Nat} {v : Blk}, lk (qAJ l k) t = some v → ∃ j, t = k + j ∧ l[j]? = some v
 | [], _, _, _, h => by simp [qAJ, lk] at h
 | x :: r, k, t, v, h => by
  simp only [qAJ, lk] at h
  split at h
  ·rename_i hk
   refine ⟨0, ?_, ?_⟩
   ·have := q0j.1 hk; omega
   ·simpa using h
  ·obtain ⟨j, hj, hv⟩ := qFj h
   exact ⟨j + 1, by omega, by simpa using hv⟩
def qIM (blk out : Blk) : Prop := (∃ sz n g te, blk = .arr sz n g te ∧ out = .arr sz n g (qGS te)) ∨ ∃ cs, blk = .box cs ∧ out = .box (cs.map (q32 [] 0 1))
theorem qFv {S : List (Nat × Blk)} : ∀ {m : Nat} {l : List Blk}, qCP S m = some l → l.length = m ∧ ∀ j, j < m → ∃ blk out, lk S j = some blk ∧ l[j]? = some out ∧ qIM blk out
 | 0, l, h => by
  simp only [qCP, Option.some.injEq] at h
  subst h
  exact ⟨rfl, fun j hj => by omega⟩
 | m + 1, l, h => by
  simp only [qCP] at h
  have step : ∀ (l0 : List Blk) (blk out : Blk), qCP S m = some l0 → lk S m = some blk → qIM blk out → l = l0 ++ [out] →
    l.length = m + 1 ∧ ∀ j, j < m + 1 → ∃ blk out, lk S j = some blk ∧ l[j]? = some out ∧ qIM blk out := by
   intro l0 blk out h0 hl hh e
   subst e
   obtain ⟨h1, h2⟩ := qFv h0
   refine ⟨by simp [h1], fun j hj => ?_⟩
   rcases Nat.lt_or_ge j m with hj' | hj'
   ·obtain ⟨b1, o1, q1, q2, q3⟩ := h2 j hj'
    exact ⟨b1, o1, q1, by rw [List.getElem?_append_left (by omega)]; exact q2, q3⟩
   ·have : j = m := by omega
    subst this
    exact ⟨blk, out, hl, by rw [List.getElem?_append_right (by omega)]; simp [h1], hh⟩
  split at h
  ·rename_i l0 sz n g te h0 hl
   exact step l0 _ _ h0 hl (.inl ⟨sz, n, g, te, rfl, rfl⟩) (Option.some.inj h).symm
  ·rename_i l0 cs h0 hl
   exact step l0 _ _ h0 hl (.inr ⟨cs, rfl, rfl⟩) (Option.some.inj h).symm
  ·simp at h
def qWJ (S : List (Nat × Blk)) (src : Option (Nat × Nat)) (b : Blk) : Prop :=
 match src with
 | some (id, n) => ∃ sz n' g te t, lk S id = some (.arr sz n' g te) ∧ 64 ≤ id ∧ b = .arr sz n g t ∧ ((te = q0i ∧ t = q0i) ∨ (2 ≤ te ∧ t = 2))
 | none => ∃ sz, b = .arr sz 0 (fun _ => .undef) q0i
theorem qM6 {te t : Nat} (h : qMO te = some t) : (te = q0i ∧ t = q0i) ∨ (2 ≤ te ∧ t = 2) := by
 unfold qMO at h
 split at h
 ·rename_i h1
  exact .inl ⟨q0j.1 h1, (Option.some.inj h).symm⟩
 ·split at h
  ·rename_i h2
   exact .inr ⟨Nat.le_of_ble_eq_true h2, (Option.some.inj h).symm⟩
  ·simp at h
def x34 (k : Nat) (q : Option (Nat × Nat)) (c o : V) : Prop :=
 match q with
 | some (id, n) => c = .osl id n ∧ o = .osl k n
 | none => c = .nil ∧ o = .osl k 0
theorem q7S {S : List (Nat × Blk)} : ∀ {tpl : List (Nat × Nat)} {k : Nat} {cs out : List V} {bl : List Blk} {src : List (Option (Nat × Nat))}, q58 S k tpl cs = some (out, bl, src) →
  out.length = cs.length ∧ bl.length = src.length ∧ (∀ (j : Nat) (b : Blk), bl[j]? = some b → ∃ q, src[j]? = some q ∧ qWJ S q b) ∧
   ∀ p, p < cs.length → mem p (tpl.map fun q => q.1) = false ∨ ∃ (j : Nat) (q : Option (Nat × Nat)), src[j]? = some q ∧ x34 (k + j) q (cs.getD p .undef) (out.getD p .undef)
 | [], k, cs, out, bl, src, h => by
  simp only [q58, Option.some.injEq, Prod.mk.injEq] at h
  obtain ⟨rfl, rfl, rfl⟩ := h
  exact ⟨rfl, rfl, fun j b hb => by simp at hb, fun p hp => .inl rfl⟩
 | (p0, sz) :: r, k, cs, out, bl, src, h => by
  simp only [q58] at h
  have q5d : ∀ (l : List V) (i p : Nat) (x : V), i < l.length → (l.set i x).getD p .undef = if p = i then x else l.getD p .undef := by
   intro l i p x hi
   by_cases e : p = i
   ·subst e; simp [hi]
   ·have : i ≠ p := fun e' => e e'.symm
    simp [e, List.getElem?_set_ne this]
  split at h
  ·rename_i id n out1 bl1 src1 hc ho
   split at h
   ·rename_i sz' n' g te hl h64
    split at h
    ·rename_i t hsz ht
     have := q0j.1 hsz
     subst this
     simp only [Option.some.injEq, Prod.mk.injEq] at h
     obtain ⟨rfl, rfl, rfl⟩ := h
     obtain ⟨h1, h2, h3, h4⟩ := q7S ho
     have hp0 : p0 < cs.length := (List.getElem?_eq_some_iff.1 hc).1
     refine ⟨by simpa using h1, by simp [h2], fun j b hb => ?_, fun p hp => ?_⟩
     ·cases j with
      | zero =>
       simp at hb
       subst hb
       exact ⟨some (id, n), by simp, sz', n', g, te, t, hl, Nat.le_of_ble_eq_true h64, rfl, qM6 ht⟩
      | succ j =>
       obtain ⟨q, hq, ho⟩ := h3 j b (by simpa using hb)
       exact ⟨q, by simpa using hq, ho⟩
     ·rw [q5d _ _ _ _ (by omega)]
      by_cases e : p = p0
      ·subst e
       right
       exact ⟨0, some (id, n), by simp, by simp [List.getD, hc], by simp⟩
      ·rw [if_neg e]
       rcases h4 p hp with h5 | ⟨j, q, hq, h6⟩
       ·exact .inl (by simp only [List.map_cons, mem, q0z.2 (fun e2 => e e2.symm : p0 ≠ p), Bool.false_or]; exact h5)
       ·refine .inr ⟨j + 1, q, by simpa using hq, ?_⟩
        rw [show k + (j + 1) = k + 1 + j by omega]
        exact h6
    ·simp at h
   ·simp at h
  ·rename_i out1 bl1 src1 hc ho
   simp only [Option.some.injEq, Prod.mk.injEq] at h
   obtain ⟨rfl, rfl, rfl⟩ := h
   obtain ⟨h1, h2, h3, h4⟩ := q7S ho
   have hp0 : p0 < cs.length := (List.getElem?_eq_some_iff.1 hc).1
   refine ⟨by simpa using h1, by simp [h2], fun j b hb => ?_, fun p hp => ?_⟩
   ·cases j with
    | zero =>
     simp at hb
     subst hb
     exact ⟨none, by simp, sz, rfl⟩
    | succ j =>
     obtain ⟨q, hq, ho⟩ := h3 j b (by simpa using hb)
     exact ⟨q, by simpa using hq, ho⟩
   ·rw [q5d _ _ _ _ (by omega)]
    by_cases e : p = p0
    ·subst e
     right
     exact ⟨0, none, by simp, by simp [List.getD, hc], by simp⟩
    ·rw [if_neg e]
     rcases h4 p hp with h5 | ⟨j, q, hq, h6⟩
     ·exact .inl (by simp only [List.map_cons, mem, q0z.2 (fun e2 => e e2.symm : p0 ≠ p), Bool.false_or]; exact h5)
     ·refine .inr ⟨j + 1, q, by simpa using hq, ?_⟩
      rw [show k + (j + 1) = k + 1 + j by omega]
      exact h6
  ·simp at h
theorem qLb {S : List (Nat × Blk)} {m : Nat} {ps : List Nat} : ∀ {i : Nat} {cs out : List V}, out.length = cs.length → (qNi S m ps i cs out).length = cs.length ∧
  ∀ p, p < cs.length → (qNi S m ps i cs out).getD p .undef = match mem (i + p) ps with
   | true => out.getD p .undef
   | false => qXi S m (cs.getD p .undef)
 | i, [], out, h => by cases out <;> simp [qNi]
 | i, c :: cs, [], h => by simp at h
 | i, c :: cs, o :: os, h => by
  obtain ⟨h1, h2⟩ := qLb (S := S) (m := m) (ps := ps) (i := i + 1) (cs := cs) (out := os) (by simpa using h)
  refine ⟨by simp [qNi, h1], fun p hp => ?_⟩
  cases p with
  | zero => simp only [qNi, List.getD_cons_zero, Nat.add_zero]
  | succ p =>
   simp only [qNi, List.getD_cons_succ]
   rw [h2 p (by simpa using hp), show i + (p + 1) = i + 1 + p by omega]
theorem qIc {S : List (Nat × Blk)} {ids : List Nat} {k : Nat} {b : Blk} (h : lk (qG6 S ids) k = some b) : lk S k = some b ∧ mem k ids = false := by
 unfold qG6 at h
 rw [q7u (fun k => !(mem k ids))] at h
 cases hm : mem k ids with
 | true => rw [hm] at h; simp at h
 | false => rw [hm] at h; exact ⟨by simpa using h, rfl⟩
theorem q5A {S : List (Nat × Blk)} : ∀ {tpl : List (Nat × Nat)} {k : Nat} {cs out : List V} {bl : List Blk} {src : List (Option (Nat × Nat))}, q58 S k tpl cs = some (out, bl, src) →
  ∀ {j id n : Nat}, src[j]? = some (some (id, n)) → ∃ p, p < cs.length ∧ cs.getD p .undef = .osl id n
 | [], k, cs, out, bl, src, h, j, id, n, hj => by
  simp only [q58, Option.some.injEq, Prod.mk.injEq] at h
  obtain ⟨rfl, rfl, rfl⟩ := h
  simp at hj
 | (p0, sz) :: r, k, cs, out, bl, src, h, j, id, n, hj => by
  simp only [q58] at h
  split at h
  ·rename_i id1 n1 out1 bl1 src1 hc ho
   split at h
   ·split at h
    ·simp only [Option.some.injEq, Prod.mk.injEq] at h
     obtain ⟨rfl, rfl, rfl⟩ := h
     cases j with
     | zero =>
      simp at hj
      obtain ⟨rfl, rfl⟩ := hj
      exact ⟨p0, (List.getElem?_eq_some_iff.1 hc).1, by simp [List.getD, hc]⟩
     | succ j => exact q5A ho (j := j) (by simpa using hj)
    ·simp at h
   ·simp at h
  ·rename_i out1 bl1 src1 hc ho
   simp only [Option.some.injEq, Prod.mk.injEq] at h
   obtain ⟨rfl, rfl, rfl⟩ := h
   cases j with
   | zero => simp at hj
   | succ j => exact q5A ho (j := j) (by simpa using hj)
  ·simp at h
theorem q6h : ∀ {src : List (Option (Nat × Nat))} {j id n : Nat}, src[j]? = some (some (id, n)) → id ∈ q5z src
 | [], j, _, _, h => by simp at h
 | q :: r, 0, id, n, h => by
  simp at h
  subst h
  exact List.mem_cons_self ..
 | q :: r, j + 1, id, n, h => by
  have := q6h (src := r) (j := j) (by simpa using h)
  cases q with
  | none => exact this
  | some p => exact List.mem_cons_of_mem _ this
theorem q92 : ∀ {src : List (Option (Nat × Nat))}, qHv (q5z src) = true → ∀ {j j' id n n' : Nat}, src[j]? = some (some (id, n)) → src[j']? = some (some (id, n')) → j = j'
 | [], _, j, _, _, _, _, h, _ => by simp at h
 | none :: r, hn, j, j', id, n, n', h, h' => by
  cases j with
  | zero => simp at h
  | succ j => cases j' with
   | zero => simp at h'
   | succ j' => rw [q92 (src := r) hn (j := j) (j' := j') (by simpa using h) (by simpa using h')]
 | some (a, b) :: r, hn, j, j', id, n, n', h, h' => by
  simp only [q5z, qHv, Bool.and_eq_true, Bool.not_eq_true'] at hn
  have hna := q7y.1 hn.1
  cases j with
  | zero =>
   cases j' with
   | zero => rfl
   | succ j' =>
    simp at h
    obtain ⟨rfl, rfl⟩ := h
    exact absurd (q6h (src := r) (j := j') (by simpa using h')) hna
  | succ j =>
   cases j' with
   | zero =>
    simp at h'
    obtain ⟨rfl, rfl⟩ := h'
    exact absurd (q6h (src := r) (j := j) (by simpa using h)) hna
   | succ j' => rw [q92 (src := r) hn.2 (j := j) (j' := j') (by simpa using h) (by simpa using h')]
def qNj (ι : q0x) (m : Nat) (src : List (Option (Nat × Nat))) : q0x := fun k =>
 match Nat.blt k m with
 | true => ι k
 | false => match src[k - m]? with
  | some (some (id, n)) => (ι id).map fun q => (q.1, q.2.1, n)
  | _ => none
theorem q9B {ι : q0x} {m k : Nat} {src : List (Option (Nat × Nat))} (h : k < m) : qNj ι m src k = ι k := by
 unfold qNj
 rw [show Nat.blt k m = true from Nat.ble_eq_true_of_le h]
theorem q8z {ι : q0x} {m j : Nat} {src : List (Option (Nat × Nat))} : qNj ι m src (m + j) = match src[j]? with
  | some (some (id, n)) => (ι id).map fun q => (q.1, q.2.1, n)
  | _ => none := by
 unfold qNj
 have : Nat.blt (m + j) m = false := by
  cases hb : Nat.blt (m + j) m with
  | false => rfl
  | true => have := Nat.le_of_ble_eq_true hb; omega
 rw [this, Nat.add_sub_cancel_left]
theorem qCS {w : World} {Fr : Nat → Nat → Prop} {ι : q0x} : ∀ {cs : List V} {f : Nat → Value}, (∀ j, j < cs.length → q0X w Fr ι (cs.getD j .undef) (f j)) → ∀ p, p < (cs.flatMap q2C).length → ∃ y, q0X w Fr ι ((cs.flatMap q2C).getD p .undef) y
 | [], f, h, p, hp => by simp at hp
 | c :: r, f, h, p, hp => by
  rw [List.flatMap_cons] at hp ⊢
  rcases Nat.lt_or_ge p (q2C c).length with hlt | hge
  ·have e : (q2C c ++ r.flatMap q2C).getD p .undef = (q2C c).getD p .undef := by simp [List.getD, List.getElem?_append_left hlt]
   rw [e]
   have h0 : q0X w Fr ι c (f 0) := by simpa using h 0 (by simp)
   generalize f 0 = v0 at h0
   by_cases hag : ∃ l, c = .agg l
   ·obtain ⟨l, rfl⟩ := hag
    cases h0 with
    | atom hv _ => simp [isP] at hv
    | agg arr hs hrr => exact ⟨_, hrr p hlt⟩
   ·have e2 : q2C c = [c] := by cases c <;> first | rfl | exact absurd ⟨_, rfl⟩ hag
    rw [e2] at hlt ⊢
    have : p = 0 := by simpa using hlt
    subst this
    exact ⟨_, by simpa using h0⟩
  ·have e : (q2C c ++ r.flatMap q2C).getD p .undef = (r.flatMap q2C).getD (p - (q2C c).length) .undef := by simp [List.getD, List.getElem?_append_right hge]
   rw [e]
   exact qCS (f := fun j => f (j + 1)) (fun j hj => by simpa using h (j + 1) (by simpa using hj)) _ (by rw [List.length_append] at hp; omega)
theorem qEi {w : World} {Fr : Nat → Nat → Prop} {ι : q0x} {r : V} {x : Value} (hr : q0X w Fr ι r x) (p : Nat) (hp : p < (q3W r).length) : ∃ y, q0X w Fr ι ((q3W r).getD p .undef) y := by
 have one : q3W r = [r] → ∃ y, q0X w Fr ι ((q3W r).getD p .undef) y := fun e => by
  rw [e] at hp ⊢
  have h0 : p = 0 := by simpa using hp
  subst h0
  exact ⟨x, by simpa using hr⟩
 by_cases hag : ∃ cs, r = .agg cs
 ·obtain ⟨cs, rfl⟩ := hag
  cases hr with
  | atom hv _ => simp [isP] at hv
  | agg arr hs hrr => exact ⟨_, hrr p hp⟩
 by_cases htu : ∃ cs, r = .tup cs
 ·obtain ⟨cs, rfl⟩ := htu
  cases hr with
  | atom hv _ => simp [isP] at hv
  | tup arr hs hrr => exact qCS (f := fun j => arr.getD j Go.undef) hrr p hp
 ·refine one ?_
  cases r <;> first | rfl | exact absurd ⟨_, rfl⟩ hag | exact absurd ⟨_, rfl⟩ htu
theorem q7g : ∀ (cs out : List V), (q4s cs out).length = cs.length
 | [], _ => rfl
 | c :: r, out => by cases c <;> simp [q4s, q7g r]
theorem qB8 {w : World} {Fr Fr' : Nat → Nat → Prop} {ι ι' : q0x} : ∀ {cs out : List V}, out.length = (cs.flatMap q2C).length →
  (∀ p, p < (cs.flatMap q2C).length → ∀ y, q0X w Fr ι ((cs.flatMap q2C).getD p .undef) y → q0X w Fr' ι' (out.getD p .undef) y) →
  ∀ j, j < cs.length → ∀ y, q0X w Fr ι (cs.getD j .undef) y → q0X w Fr' ι' ((q4s cs out).getD j .undef) y
 | [], out, hl, hc, j, hj, y, hy => by simp at hj
 | c :: r, out, hl, hc, j, hj, y, hy => by
  rw [List.flatMap_cons] at hl hc
  rw [List.length_append] at hl hc
  have rest : ∀ k, k = (q2C c).length → ∀ j, j < r.length → ∀ y, q0X w Fr ι (r.getD j .undef) y → q0X w Fr' ι' ((q4s r (out.drop k)).getD j .undef) y := by
   intro k hk
   subst hk
   refine qB8 (by rw [List.length_drop]; omega) fun p hp y hy => ?_
   have e1 : (out.drop (q2C c).length).getD p .undef = out.getD ((q2C c).length + p) .undef := by simp [List.getD, List.getElem?_drop]
   rw [e1]
   refine hc _ (by omega) y ?_
   have e2 : (q2C c ++ r.flatMap q2C).getD ((q2C c).length + p) .undef = (r.flatMap q2C).getD p .undef := by simp [List.getD, List.getElem?_append_right]
   rw [e2]
   exact hy
  have here : ∀ p, p < (q2C c).length → ∀ y, q0X w Fr ι ((q2C c).getD p .undef) y → q0X w Fr' ι' (out.getD p .undef) y := by
   intro p hp y hy
   refine hc p (by omega) y ?_
   have e : (q2C c ++ r.flatMap q2C).getD p .undef = (q2C c).getD p .undef := by simp [List.getD, List.getElem?_append_left hp]
   rw [e]
   exact hy
  by_cases hag : ∃ l, c = .agg l
  ·obtain ⟨l, rfl⟩ := hag
   cases j with
   | zero =>
    simp only [q4s, List.getD_cons_zero] at hy ⊢
    cases hy with
    | atom hv _ => simp [isP] at hv
    | agg arr hs hrr =>
     have hll : (q2C (.agg l)).length = l.length := rfl
     refine .agg arr (by rw [List.length_take]; omega) fun i hi => ?_
     rw [List.length_take] at hi
     have e : (out.take l.length).getD i .undef = out.getD i .undef := by
      have : i < l.length := by omega
      simp [List.getD, List.getElem?_take, this]
     rw [e]
     exact here i (by omega) _ (hrr i (by omega))
   | succ j =>
    simp only [q4s, List.getD_cons_succ] at hy ⊢
    exact rest l.length rfl j (by simpa using hj) y hy
  ·have e2 : q2C c = [c] := by cases c <;> first | rfl | exact absurd ⟨_, rfl⟩ hag
   have e3 : q4s (c :: r) out = out.headD .undef :: q4s r (out.drop 1) := by cases c <;> first | rfl | exact absurd ⟨_, rfl⟩ hag
   rw [e3]
   cases j with
   | zero =>
    simp only [List.getD_cons_zero] at hy ⊢
    have := here 0 (by rw [e2]; simp) y (by rw [e2]; simpa using hy)
    cases out with
    | nil => simpa using this
    | cons o os => simpa using this
   | succ j =>
    simp only [List.getD_cons_succ] at hy ⊢
    exact rest 1 (by rw [e2]; rfl) j (by simpa using hj) y hy
theorem qMD {w : World} {Fr Fr' : Nat → Nat → Prop} {ι ι' : q0x} {r : V} {x : Value} {out : List V} (hr : q0X w Fr ι r x) (hl : out.length = (q3W r).length)
  (hc : ∀ p, p < (q3W r).length → ∀ y, q0X w Fr ι ((q3W r).getD p .undef) y → q0X w Fr' ι' (out.getD p .undef) y) : q0X w Fr' ι' (qPf r out) x := by
 by_cases hag : ∃ cs, r = .agg cs
 ·obtain ⟨cs, rfl⟩ := hag
  cases hr with
  | atom hv _ => simp [isP] at hv
  | agg arr hs hrr =>
   refine .agg arr (by rw [hl]; exact hs) fun j hj => ?_
   rw [hl] at hj
   exact hc j hj _ (hrr j hj)
 by_cases htu : ∃ cs, r = .tup cs
 ·obtain ⟨cs, rfl⟩ := htu
  cases hr with
  | atom hv _ => simp [isP] at hv
  | tup arr hs hrr =>
   refine .tup arr (by rw [q7g]; exact hs) fun j hj => ?_
   rw [q7g] at hj
   exact qB8 hl hc j hj _ (hrr j hj)
 ·have h2 : q3W r = [r] := by
   cases r <;> first | rfl | exact absurd ⟨_, rfl⟩ hag | exact absurd ⟨_, rfl⟩ htu
  have h1 : qPf r out = out.headD .undef := by
   cases r <;> first | rfl | exact absurd ⟨_, rfl⟩ hag | exact absurd ⟨_, rfl⟩ htu
  have h3 := hc 0 (by rw [h2]; simp) x (by rw [h2]; simpa using hr)
  rw [h1]
  have h4 : out.length = 1 := by rw [hl, h2]; rfl
  match out, h4 with
  | [c], _ => simpa using h3
section
variable {g : G} {s : AS} {a : Act} {w : World} {ι : q0x} {Fr : Nat → Nat → Prop} (h : Rel g s a w ι Fr)
include h
theorem qB4 {tpl : List (Nat × Nat)} {m : Nat} {r r' : V} {bs : List Blk} {x : Value} (hm : m < 64) (he : q6R tpl m s.S r = some (r', bs)) (hr : q0X w Fr ι r x) :
  ∃ ι' Fr', q0X w Fr' ι' r' x ∧ Ext g.w0 w g.X0 g.io g.New g.ι0 m bs ι' Fr' := by
 unfold q6R at he
 split at he
 case h_2 => simp at he
 case h_1 hb out bl src hh hc =>
  split at he
  case h_2 => simp at he
  case h_1 hn =>
   simp only [Option.some.injEq, Prod.mk.injEq] at he
   obtain ⟨rfl, rfl⟩ := he
   obtain ⟨hbl, hbat⟩ := qFv hh
   obtain ⟨c1, c2, c3, c4⟩ := q7S hc
   have hnx : ∀ b, g.New b → ¬ g.X0 b := fun b hb => h.newX hb
   have hat : ∀ k blk, (hb ++ bl)[k]? = some blk → (k < m ∧ ∃ blk0, lk s.S k = some blk0 ∧ qIM blk0 blk) ∨ (∃ j q, k = m + j ∧ src[j]? = some q ∧ qWJ s.S q blk) := by
    intro k blk hk
    rcases Nat.lt_or_ge k m with hlt | hge
    ·obtain ⟨blk0, out, h1, h2, h3⟩ := hbat k hlt
     rw [List.getElem?_append_left (by omega), h2] at hk
     have := Option.some.inj hk
     subst this
     exact .inl ⟨hlt, blk0, h1, h3⟩
    ·rw [List.getElem?_append_right (by omega)] at hk
     obtain ⟨q, hq, ho⟩ := c3 _ blk hk
     exact .inr ⟨k - hb.length, q, by omega, hq, ho⟩
   let Out : Nat → Prop := fun b => ∃ k blk q, (hb ++ bl)[k]? = some blk ∧ qNj ι m src k = some q ∧ q.1 = b
   let Fr' : Nat → Nat → Prop := fun t b => qJO g.New w g.X0 t b ∧ ¬ Out b
   have hown : ∀ k blk q, (hb ++ bl)[k]? = some blk → qNj ι m src k = some q → ∃ id blk0 q0, lk s.S id = some blk0 ∧ ι id = some q0 ∧ q0.1 = q.1 ∧
     ((k < m ∧ id = k) ∨ (64 ≤ id ∧ ∃ j n, k = m + j ∧ src[j]? = some (some (id, n)))) := by
    intro k blk q hk hq
    rcases hat k blk hk with ⟨hlt, blk0, hl, hh⟩ | ⟨j, p, rfl, hp, ho⟩
    ·rw [q9B hlt] at hq
     exact ⟨k, _, q, hl, hq, rfl, .inl ⟨hlt, rfl⟩⟩
    ·rw [q8z, hp] at hq
     cases p with
     | none => simp at hq
     | some p =>
      obtain ⟨id, n⟩ := p
      obtain ⟨sz, n', f, te, t, hl, h64, _, _⟩ := ho
      simp only [Option.map_eq_some_iff] at hq
      obtain ⟨q0, hq0, rfl⟩ := hq
      exact ⟨id, _, q0, hl, hq0, rfl, .inr ⟨h64, j, n, rfl, hp⟩⟩
   have hFr : ∀ t b, Fr t b → 2 ≤ t → Fr' 2 b := by
    intro t b hf h2
    refine ⟨⟨by decide, (h.fr t b hf).1, (h.fr t b hf).2.1, fun _ => ⟨h.fr2 t b h2 hf, h.cl t b h2 hf⟩⟩, ?_⟩
    rintro ⟨k, blk, q, hk, hq, rfl⟩
    obtain ⟨id, blk0, q0, hl, hi, e, _⟩ := hown k blk q hk hq
    exact (h.fr t _ hf).2.2 id blk0 q0 hl hi e
   have hF1 : ∀ t b, Fr t b → Fr' 1 b := by
    intro t b hf
    refine ⟨⟨by decide, (h.fr t b hf).1, (h.fr t b hf).2.1, fun h2 => by omega⟩, ?_⟩
    rintro ⟨k, blk, q, hk, hq, rfl⟩
    obtain ⟨id, blk0, q0, hl, hi, e, _⟩ := hown k blk q hk hq
    exact (h.fr t _ hf).2.2 id blk0 q0 hl hi e
   have hF0 : ∀ t b, Fr t b → Fr' 0 b := by
    intro t b hf
    refine ⟨⟨by decide, (h.fr t b hf).1, (h.fr t b hf).2.1, fun h2 => by omega⟩, ?_⟩
    rintro ⟨k, blk, q, hk, hq, rfl⟩
    obtain ⟨id, blk0, q0, hl, hi, e, _⟩ := hown k blk q hk hq
    exact (h.fr t _ hf).2.2 id blk0 q0 hl hi e
   have h' : Rel g { s with S := [] } a w ι Fr := h.less (fun _ _ q => q) (fun k b q => by simp [lk] at q)
   obtain ⟨f1, f2⟩ := qLb (S := qG6 s.S (q5z src)) (m := m) (ps := tpl.map fun q => q.1) (i := 0) c1
   have hR : Rel g { s with S := qG6 s.S (q5z src) } a w ι Fr := h.less (fun _ _ q => q) (fun k b q => (qIc q).1)
   have hcell : ∀ p, p < (q3W r).length → ∀ y, q0X w Fr ι ((q3W r).getD p .undef) y → q0X w Fr' (qNj ι m src) ((qNi (qG6 s.S (q5z src)) m (tpl.map fun q => q.1) 0 (q3W r) out).getD p .undef) y := by
    intro p hp y hy
    rw [f2 p hp, Nat.zero_add]
    cases hmp : mem p (tpl.map fun q => q.1) with
    | false =>
     simp only []
     have hfz : ∀ v, q0X w Fr ι v y → q0X w Fr' (qNj ι m src) (q32 (qG6 s.S (q5z src)) 2 2 v) y := by
      intro v hy
      refine q5J hR (A := fun b => Fr' 2 b) (fun t b h2 hf => hFr t b hf h2) (fun id blk q h64 hl hi hcc => ?_) (fun b hb => hb) hy
      obtain ⟨b, sz, nn⟩ := q
      obtain ⟨hl', hns⟩ := qIc hl
      obtain ⟨h1, h2⟩ := h.own id blk b sz nn hl' hi
      have hb : g.New b := by
       rcases h2 with h2 | h2
       ·exact h2
       ·omega
      refine ⟨⟨by decide, h1.lt, hnx b hb, fun _ => ⟨hb, h1.cl hcc⟩⟩, ?_⟩
      rintro ⟨k, blk2, q2, hk2, hq2, e2⟩
      obtain ⟨id2, blk3, q3, hl3, hi3, e3, ho3⟩ := hown k blk2 q2 hk2 hq2
      have hid := h.inj id id2 blk blk3 _ q3 hl' hl3 hi hi3 (by rw [e3, e2])
      subst hid
      rcases ho3 with ⟨hlt, rfl⟩ | ⟨_, j, n, _, hj⟩
      ·omega
      ·have := q6h hj
       rw [q4n.2 this] at hns
       cases hns
     generalize (q3W r).getD p .undef = v at hy
     cases v with
     | osl id n =>
      simp only [qXi]
      split
      ·rename_i hlt
       have hlt' : id < m := Nat.le_of_ble_eq_true hlt
       cases hy with
       | atom hv _ => simp [isP] at hv
       | osl hi hn' hcap hsh hcs => exact .osl (by rw [q9B hlt']; exact hi) hn' hcap hsh hcs
       | osl0 ad hi => exact .osl0 ad (by rw [q9B hlt']; exact hi)
      ·exact hfz _ hy
     | sl n g t =>
      simp only [qXi]
      split
      ·rename_i h2
       have := hfz _ hy
       simp only [q32, h2] at this
       exact this
      ·cases hy with
       | atom hv hp =>
        cases hp with
        | sl0 => exact .atom rfl (.sl0 _ _ _ _)
        | sl cv hA hcap hsz hc hr => exact .atom rfl ((PRep.sl (t := 0) cv hA hcap hsz hc hr).weaken fun b hb => hF0 _ b hb)
     | ptr cs o t =>
      simp only [qXi]
      split
      ·rename_i h2
       have := hfz _ hy
       simp only [q32, h2] at this
       exact this
      ·cases hy with
       | atom hv hp =>
        cases hp with
        | ptr cv hA hc hr => exact .atom rfl ((PRep.ptr (t := 0) cv hA hc hr).weaken fun b hb => hF0 _ b hb)
     | _ => exact hfz _ hy
    | true =>
    simp only []
    rcases c4 p hp with h5 | ⟨j, q, hq, h6⟩
    ·rw [hmp] at h5; cases h5
    ·cases q with
     | none =>
      obtain ⟨h7, h8⟩ := h6
      rw [h7] at hy
      rw [h8]
      obtain ⟨ad, rfl⟩ := qE1 hy
      exact .osl0 ad (by rw [q8z, hq])
     | some q =>
      obtain ⟨id, n⟩ := q
      obtain ⟨h7, h8⟩ := h6
      rw [h7] at hy
      rw [h8]
      cases hy with
      | atom hv _ => simp [isP] at hv
      | osl hi hn' hcap hsh hcs => exact .osl (by rw [q8z, hq]; simp only []; rw [hi]; rfl) (Nat.le_refl _) hcap hsh hcs
      | osl0 ad hi => exact .osl0 ad (by rw [q8z, hq]; simp only []; rw [hi]; rfl)
   have hrep : q0X w Fr' (qNj ι m src) (qPf r (qNi (qG6 s.S (q5z src)) m (tpl.map fun q => q.1) 0 (q3W r) out)) x := qMD hr f1 hcell
   refine ⟨qNj ι m src, Fr', hrep, ?_⟩
   have hS : ∀ b, ¬ Fr' q0i b := fun b hb => hb.1.1 rfl
   exact
    {own := fun k blk b sz n hk hi => by
      rcases hat k blk hk with ⟨hlt, blk0, hl, hh⟩ | ⟨j, p, rfl, hp, ho⟩
      ·rw [q9B hlt] at hi
       obtain ⟨h1, h2⟩ := h.own k _ b sz n hl hi
       refine ⟨?_, h2.imp id fun h2 => ⟨h2.1, hlt⟩⟩
       rcases hh with ⟨sz1, n1, f, te, rfl, rfl⟩ | ⟨cs, rfl, rfl⟩
       ·obtain ⟨e1, e2, cells, e, q1, q2, q3, q4⟩ := h1
        refine ⟨e1, e2, cells, e, q1, q2, q3, fun i j hi hj => (q4 i j hi hj).weaken fun b hb => ?_⟩
        unfold qGS
        split
        ·rename_i ht
         rw [q0j.1 ht] at hb
         exact absurd hb (h.frS b)
        ·exact hF1 te b hb
       ·obtain ⟨cells, e, hh, hsz, hr⟩ := h1
        refine ⟨cells, e, hh, by simpa using hsz, fun j hj => ?_⟩
        have hj' : j < cs.length := by simpa using hj
        have e1 : (cs.map (q32 [] 0 1)).getD j .undef = q32 [] 0 1 (cs.getD j .undef) := by simp [List.getD, hj']
        rw [e1]
        exact q5J (s := { s with S := [] }) (lim := 0) h' (A := fun b => Fr' 1 b) (fun t b _ hf => hF1 t b hf) (fun id blk r _ q => by simp [lk] at q) (fun b hb => hb) (hr j hj')
      ·rw [q8z, hp] at hi
       cases p with
       | none => simp at hi
       | some p =>
        obtain ⟨id, nn⟩ := p
        obtain ⟨sz1, n1, f, te, t, hl, h64, rfl, htag⟩ := ho
        simp only [Option.map_eq_some_iff] at hi
        obtain ⟨⟨b0, sz0, m0⟩, hq0, e⟩ := hi
        simp only [Prod.mk.injEq] at e
        obtain ⟨rfl, rfl, rfl⟩ := e
        obtain ⟨h1, h2⟩ := h.own id _ b0 sz0 m0 hl hq0
        obtain ⟨rfl, rfl, cells, e, q1, q2, q3, q4⟩ := h1
        have hb0 : g.New b0 := by
         rcases h2 with h2 | ⟨_, h2⟩
         ·exact h2
         ·omega
        have hle : nn ≤ n1 := by
         obtain ⟨p, hp1, hp2⟩ : ∃ p, p < (q3W r).length ∧ (q3W r).getD p .undef = .osl id nn := q5A hc hp
         have : ∃ y, q0X w Fr ι (.osl id nn) y := by
          have := qEi hr p hp1
          rwa [hp2] at this
         obtain ⟨y, hy⟩ := this
         cases hy with
         | atom hv _ => simp [isP] at hv
         | osl hi hn' hcap hsh hcs =>
          rw [hq0] at hi
          simp only [Option.some.injEq, Prod.mk.injEq] at hi
          obtain ⟨_, _, rfl⟩ := hi
          exact hn'
         | osl0 ad hi => exact Nat.zero_le _
        refine ⟨⟨rfl, rfl, cells, e, q1, ?_, fun i hi => q3 i (by omega), fun i j hi hj => ?_⟩, .inl hb0⟩
        ·have := Nat.mul_le_mul_right sz1 hle
         omega
        ·have h9 := q4 i j (by omega) hj
         rcases htag with ⟨rfl, rfl⟩ | ⟨h2t, rfl⟩
         ·exact h9.weaken fun b hb => absurd hb (h.frS b)
         ·exact h9.weaken fun b hb => hFr te b hb h2t
     nob := fun k blk hk hi => by
      rcases hat k blk hk with ⟨hlt, blk0, hl, hh⟩ | ⟨j, p, rfl, hp, ho⟩
      ·rw [q9B hlt] at hi
       obtain ⟨sz, f, te, e⟩ := h.nob k _ hl hi
       rcases hh with ⟨sz1, n1, f1, te1, rfl, rfl⟩ | ⟨cs, rfl, rfl⟩
       ·simp only [Blk.arr.injEq] at e
        obtain ⟨rfl, rfl, rfl, rfl⟩ := e
        exact ⟨_, _, _, rfl⟩
       ·cases e
      ·cases p with
       | none =>
        obtain ⟨sz, rfl⟩ := ho
        exact ⟨_, _, _, rfl⟩
       | some p =>
        obtain ⟨id, nn⟩ := p
        obtain ⟨sz1, n1, f, te, t, hl, h64, rfl, htag⟩ := ho
        rw [q8z, hp] at hi
        simp only [Option.map_eq_none_iff] at hi
        obtain ⟨p, hp1, hp2⟩ : ∃ p, p < (q3W r).length ∧ (q3W r).getD p .undef = .osl id nn := q5A hc hp
        have : ∃ y, q0X w Fr ι (.osl id nn) y := by
         have := qEi hr p hp1
         rwa [hp2] at this
        obtain ⟨y, hy⟩ := this
        cases hy with
        | atom hv _ => simp [isP] at hv
        | osl hi' => rw [hi] at hi'; cases hi'
        | osl0 ad hi' => exact ⟨_, _, _, rfl⟩
     inj := fun k k' blk blk' q q' h1 h2 h3 h4 h5 => by
      obtain ⟨id, b0, q0, hl, hi, e, ho⟩ := hown k blk q h1 h3
      obtain ⟨id', b0', q0', hl', hi', e', ho'⟩ := hown k' blk' q' h2 h4
      have hid := h.inj id id' b0 b0' q0 q0' hl hl' hi hi' (by rw [e, e', h5])
      subst hid
      rcases ho with ⟨_, rfl⟩ | ⟨h64, j, n, rfl, hj⟩ <;> rcases ho' with ⟨hlt', e1⟩ | ⟨h64', j', n', rfl, hj'⟩
      ·exact e1
      ·omega
      ·omega
      ·rw [q92 hn hj hj']
     fr := fun t b hb' => ⟨hb'.1.2.1, hb'.1.2.2.1, fun k blk q hk hq e => hb'.2 ⟨k, blk, q, hk, hq, e⟩⟩
     frS := hS
     fr0 := fun t b hb' => ⟨⟨by decide, hb'.1.2.1, hb'.1.2.2.1, fun h2 => by omega⟩, hb'.2⟩
     fr2 := fun t b h2 hb' => (hb'.1.2.2.2 h2).1
     cl := fun t b h2 hb' => (hb'.1.2.2.2 h2).2
     same := fun k hk => by rw [q9B hk]; exact h.low k (by omega)
     os := h.os, tape := h.tape, output := h.output, hsize := h.hsize, frame := h.frame, shape := h.shape }
end
theorem qEo {w w' : World} {X0 io N N' : Nat → Prop} {ι ι' : q0x} {m : Nat} {bs bout : List Blk} {Fr : Nat → Nat → Prop} (h : Ext w w' X0 io N ι m bs ι' Fr) (hYtognmcollmdbpaaGreatDoor : ∀ b, N b → N' b) (hle : q1d bs bout) : Ext w w' X0 io N' ι m bout ι' Fr :=
 {h with
  own := fun id blk b sz k hk hi => by
   obtain ⟨c, hc, hl⟩ := hle.at hk
   obtain ⟨h1, h2⟩ := h.own id c b sz k hc hi
   exact ⟨hl.le _ _ _ _ _ _ h.frS h.fr0 h1, h2.imp (hYtognmcollmdbpaaGreatDoor b) fun q => q⟩
  fr2 := fun t b h2 hf => hYtognmcollmdbpaaGreatDoor b (h.fr2 t b h2 hf)
  nob := fun id blk hk hi => by
   obtain ⟨c, hc, hl⟩ := hle.at hk
   exact hl.nob (h.nob id c hc hi)
  inj := fun id id' blk blk' r r' h1 h2 => by
   obtain ⟨c, hc, _⟩ := hle.at h1
   obtain ⟨c', hc', _⟩ := hle.at h2
   exact h.inj id id' c c' r r' hc hc'
  fr := fun t b hb => ⟨(h.fr t b hb).1, (h.fr t b hb).2.1, fun id blk r hk => by
   obtain ⟨c, hc, _⟩ := hle.at hk
   exact (h.fr t b hb).2.2 id c r hc⟩ }
theorem q0V {P : Program} (hm : P.follows .mixedOrders = true) {f : Nat} {fn : Func} {c : Code} {D : q0G} {tpl : List (Nat × Nat)}
  (hf : P.funcs[f]? = some fn) (hb : fn.body = some c) (hn : (fn.name == "runtime.NumGoroutine") = false)
  (hbody : ∀ args bin ob r bout, D args bin = some (ob, r, bout) → ob → args.length ≤ fn.ntmps ∧
   ∃ cx : Cx, q31 P cx.tt ∧ q0D P cx.D ∧ q3a P cx.M ∧ cx.nt = fn.ntmps ∧ ∃ args' bin', q4E args args' ∧ q1d bin bin' ∧ q3H cx fn tpl args' bin' (fun r' bs => VLe r' r ∧ q1d bs bout)) : q0T P f D := by
 refine ⟨?_⟩
 intro args bin ob r bout hDe hob vals w X0 io ι Fr hE hsize hvals
 refine .inl ⟨qAk hf hb hn _ _, ?_⟩
 obtain ⟨hlen, cx, hT, hD, hM, hnt, args', bin', ⟨hl', hle⟩, hbin, hp⟩ := hbody args bin ob r bout hDe hob
 have hbl := hbin.len
 let g : G := ⟨w, X0, io, fn.ntmps, ι, fun _ => False⟩
 have hN : ∀ b, g.New b → w.heap.size ≤ b := fun b hb => hb.elim id fun hq => hq.elim
 have hS : ∀ id blk, lk (qAJ bin' 0) id = some blk → ∃ c, bin[id]? = some c ∧ BLe c blk ∧ id < 64 := by
  intro id blk hl
  obtain ⟨j, rfl, hj⟩ := qFj hl
  rw [Nat.zero_add]
  obtain ⟨c, hc, hle⟩ := hbin.at hj
  have h1 := (List.getElem?_eq_some_iff.1 hc).1
  have h2 := hE.few
  exact ⟨c, hc, hle, by omega⟩
 have hrel : Rel g ⟨q6y args' 0, qAJ bin' 0⟩ { tmps := vals ++ Array.replicate (fn.ntmps - vals.size) Go.undef, defers := [] } w ι Fr := by
  refine
   {defers := rfl
    size := by show (vals ++ Array.replicate (fn.ntmps - vals.size) Go.undef).size = fn.ntmps; simp; omega
    tmp := ?_
    own := fun id blk b sz m hl hi => by
     obtain ⟨c, hc, hle, h64⟩ := hS id blk hl
     obtain ⟨h1, h2⟩ := hE.own id c b sz m hc hi
     exact ⟨hle.le _ _ _ _ _ _ hE.frS hE.fr0 h1, .inr ⟨h2, h64⟩⟩
    nob := fun id blk hl hi => by
     obtain ⟨c, hc, hle, h64⟩ := hS id blk hl
     exact hle.nob (hE.nob id c hc hi)
    inj := fun id id' blk blk' r r' h1 h2 => by
     obtain ⟨c, hc, _⟩ := hS id blk h1
     obtain ⟨c', hc', _⟩ := hS id' blk' h2
     exact hE.inj id id' c c' r r' hc hc'
    fr := fun t b hb => ⟨(hE.fr t b hb).1, (hE.fr t b hb).2.1, fun id blk r hl => by
     obtain ⟨c, hc, _⟩ := hS id blk hl
     exact (hE.fr t b hb).2.2 id c r hc⟩
    frS := hE.frS
    fr0 := hE.fr0
    fr2 := fun t b h2 hb => absurd hb (hE.fr2 t b h2)
    fr1 := fun b hb hq => by
     have := (hE.fr 1 b hb).1
     have := hN b hq
     omega
    cl := fun t b h2 hb => absurd hb (hE.fr2 t b h2)
    low := fun _ _ => rfl
    x0 := hE.x0
    io0 := hE.io0
    mvio := fun _ hq => hq.elim
    os := rfl, tape := rfl, output := rfl, hsize := Nat.le_refl _, frame := fun _ _ _ => rfl, shape := fun _ _ h => h }
  intro t v ht
  obtain ⟨j, rfl, hj⟩ := q8E ht
  rw [Nat.zero_add]
  have hj' : j < args'.length := (List.getElem?_eq_some_iff.1 hj).1
  have e1 : args'.getD j .undef = v := by simp [List.getD, hj]
  have e2 : (vals ++ Array.replicate (fn.ntmps - vals.size) Go.undef).getD j Go.undef = vals.getD j Go.undef := by
   have hjv : j < vals.size := by omega
   simp only [Array.getD_eq_getD_getElem?]
   rw [Array.getElem?_append_left hjv]
  have := (hle j (by omega)).le w Fr ι _ hE.frS hE.fr0 (hvals j (by omega))
  rw [e1] at this
  show q0X w Fr ι v ((vals ++ Array.replicate (fn.ntmps - vals.size) Go.undef).getD j Go.undef)
  rw [e2]; exact this
 have hfin : ∀ (s : AS) (a : Act) (w' : World) (ι' : q0x) (Fr' : Nat → Nat → Prop), Rel g s a w' ι' Fr' → (∃ r0 r1 bs, qKu cx.tt s fn.results.toList = some r0 ∧ q6R tpl bin'.length s.S r0 = some (r1, bs) ∧ VLe r1 r ∧ q1d bs bout) →
   a.defers = [] ∧ ∃ v, (results fn a.tmps).run P w' = .ok v w' ∧ ∃ v' ι'' Fr'', Ending.returned v = .returned v' ∧ q0X w' Fr'' ι'' r v' ∧ Ext w w' X0 io (fun b => w.heap.size ≤ b) ι bin.length bout ι'' Fr'' := by
  rintro s a w' ι' Fr' hr ⟨r0, r1, bs, hr0, hex, hv, hbs⟩
  obtain ⟨v, hrun, hrep⟩ := qDc (P := P) hT hr hr0
  obtain ⟨ι2, Fr2, h1, h2⟩ := qB4 hr (by have := hE.few; omega) hex hrep
  rw [hbl] at h2
  exact ⟨hr.defers, v, hrun, v, ι2, Fr2, rfl, hv.le w' _ ι2 v h2.frS h2.fr0 h1, qEo h2 hN hbs⟩
 unfold q3H at hp
 rw [hb] at hp
 refine calls_of_wp hf hb (q2b hT hD hM hm (g := g) (hnt.trans rfl) c _ _ ?_ _ _ w ι Fr hp hrel)
 intro e s a w' ι' Fr' he hr
 cases e with
 | normal =>
  simp only [] at he
  split at he
  ·rename_i r0 hr0
   split at he
   ·rename_i r1 bs hex
    exact hfin s a w' ι' Fr' hr ⟨r0, r1, bs, hr0, hex, he⟩
   ·exact he.elim
  ·exact he.elim
 | ret =>
  simp only [] at he
  split at he
  ·rename_i r0 hr0
   split at he
   ·rename_i r1 bs hex
    exact hfin s a w' ι' Fr' hr ⟨r0, r1, bs, hr0, hex, he⟩
   ·exact he.elim
  ·exact he.elim
 | _ => exact he.elim
def q2y (j : Nat) : Nat := 64 * (400000 + j)
def qFS : V → V
 | .oss id lo n _ _ => match Nat.beq lo 0 with
  | true => .osl id n
  | false => .undef
 | v => v
theorem qIy {w : World} {Fr : Nat → Nat → Prop} {ι : q0x} {v : V} {x : Value} (h : q0X w Fr ι v x) : q0X w Fr ι (qFS v) x := by
 cases v with
 | oss id lo n c e =>
  simp only [qFS]
  split
  ·rename_i h0
   have := q0j.1 h0
   subst this
   exact qKg h
  ·exact .atom rfl (.undef _)
 | _ => exact h
def q74 : List Blk → Nat → List (Nat × Blk)
 | [], _ => []
 | b :: r, i => (q2y i, b) :: q74 r (i + 1)
theorem qEl : ∀ {l : List Blk} {k t : Nat} {v : Blk}, lk (q74 l k) t = some v → ∃ j, t = q2y (k + j) ∧ l[j]? = some v
 | [], _, _, _, h => by simp [q74, lk] at h
 | b :: r, k, t, v, h => by
  simp only [q74, lk] at h
  split at h
  ·rename_i e
   have := q0j.1 e
   simp only [Option.some.injEq] at h
   exact ⟨0, by rw [← this]; rfl, by simp [h]⟩
  ·obtain ⟨j, h1, h2⟩ := qEl h
   exact ⟨j + 1, by rw [h1, show k + 1 + j = k + (j + 1) by omega], by simpa using h2⟩
@[irreducible] def q8A (cx : Cx) (fn : Func) (tpl : List (Nat × Nat)) (args : List V) (S0 : List (Nat × Blk)) (K : V → List Blk → Prop) : Prop :=
 match fn.body with
 | some c => awp cx c (fun e s =>
   match e with
   | .normal => match qKu cx.tt s fn.results.toList with
    | some r => match q6R tpl 0 s.S (qFS r) with
     | some (r', bs) => K r' bs
     | none => False
    | none => False
   | .ret => match qKu cx.tt s fn.results.toList with
    | some r => match q6R tpl 0 s.S (qFS r) with
     | some (r', bs) => K r' bs
     | none => False
    | none => False
   | _ => False) ⟨q6y args 0, S0⟩
 | none => False
theorem qJE (sz : Nat) : (qFa sz).cells.length = sz := by
 unfold qFa
 split
 ·rename_i h; rw [q0j.1 h]; rfl
 ·simp [V.cells]
theorem qH8 (sz j : Nat) : (qFa sz).cells.getD j .undef = .undef := by
 unfold qFa
 split
 ·cases j <;> rfl
 ·simp only [V.cells, List.getD, List.getElem?_replicate]
  split <;> rfl
def mvI (ι : q0x) (cp : Nat) : q0x := fun id => if id % 64 = 0 ∧ 400000 ≤ id / 64 ∧ id / 64 < 400064 then
  (match ι (id / 64 - 400000) with
   | some (b, sz, m) => some (b, sz, if id / 64 = 400000 then cp else m)
   | none => none) else ι id
theorem qQs {ι : q0x} {cp id : Nat} (h : id < 64) : mvI ι cp id = ι id := by
 unfold mvI
 rw [if_neg]
 omega
theorem q5h {ι : q0x} {cp : Nat} : mvI ι cp (q2y 0) = (ι 0).map fun q => (q.1, q.2.1, cp) := by
 unfold mvI q2y
 rw [if_pos (by omega)]
 simp only [Nat.add_zero]
 rw [show 64 * 400000 / 64 = 400000 by omega, Nat.sub_self]
 cases ι 0 <;> rfl
theorem q9m {ι : q0x} {cp j : Nat} (h : 0 < j) (hj : j < 64) : mvI ι cp (q2y j) = ι j := by
 unfold mvI q2y
 rw [if_pos (by omega), show 64 * (400000 + j) / 64 = 400000 + j by omega, show 400000 + j - 400000 = j by omega]
 cases hq : ι j with
 | none => rfl
 | some q =>
  obtain ⟨b, sz, m⟩ := q
  simp only
  rw [if_neg (by omega)]
def x7t (l : List V) : Bool := l.all fun a => a.ids.all fun id => Nat.ble 1 id && Nat.blt id 64
theorem q2q {P : Program} (hm : P.follows .mixedOrders = true) {f : Nat} {fn : Func} {c : Code} {D : q0G} {tpl : List (Nat × Nat)}
  (hf : P.funcs[f]? = some fn) (hb : fn.body = some c) (hn : (fn.name == "runtime.NumGoroutine") = false)
  (hbody : ∀ args bin ob r bout, D args bin = some (ob, r, bout) → ob → args.length ≤ fn.ntmps ∧
   ∃ cx : Cx, q31 P cx.tt ∧ q0D P cx.D ∧ q3a P cx.M ∧ cx.nt = fn.ntmps ∧ ∃ (ee : Bool) (n sz te : Nat) (g g' : Nat → V) (av av' : List V) (bv bv' : List Blk), args = .osl 0 n :: av ∧ bin = .arr sz n g te :: bv ∧
    q4E av av' ∧ x7t av' = true ∧ BLe (.arr sz n g te) (.arr sz n g' te) ∧ q1d bv bv' ∧ bv'.all qCg = true ∧ ∃ nn : Nat, n = nn ∧
    ((∀ cp, nn ≤ cp → q8A cx fn tpl (.oss (q2y 0) 0 nn cp ee :: av'.map (V.ren q2y)) ((q2y 0, .arr sz cp (q6q sz nn g') te) :: q74 bv' 1) (fun r' bs => VLe r' r ∧ q1d bs bout)) ∨
     q8A cx fn tpl (.osl (q2y 0) nn :: av'.map (V.ren q2y)) ((q2y 0, .arr sz nn g' te) :: q74 bv' 1) (fun r' bs => VLe r' r ∧ q1d bs bout))) : q6N P f D := by
 refine ⟨?_⟩
 intro args bin ob r bout hDe hob vals w X0 io ι Fr hE hFio hsize hvals
 refine .inl ⟨qAk hf hb hn _ _, ?_⟩
 obtain ⟨hlen, cx, hT, hD, hM, hnt, ee, n, sz, te, g1, g2, av, av', bv, bv', rfl, rfl, ⟨hl', hle⟩, hidsB, hb1, hbin, harrB, nn, rfl, hp⟩ := hbody args bin ob r bout hDe hob
 have hids : ∀ a ∈ av', ∀ id ∈ a.ids, 0 < id ∧ id < 64 := fun a ha id hid => by
  unfold x7t at hidsB
  simp only [List.all_eq_true, Bool.and_eq_true] at hidsB
  obtain ⟨h1, h2⟩ := hidsB a ha id hid
  exact ⟨Nat.le_of_ble_eq_true h1, Nat.le_of_ble_eq_true h2⟩
 have harr : ∀ b ∈ bv', qCg b = true := List.all_eq_true.1 harrB
 have hbl := hbin.len
 have hfew := hE.few
 simp only [List.length_cons] at hfew hlen hsize
 have hv0 := hvals 0 (by simp)
 rw [List.getD_cons_zero] at hv0
 obtain ⟨cp, G2, a0, hp', hnone, hrow, hown⟩ : ∃ (cp : Nat) (G2 : Nat → V) (a0 : V), q8A cx fn tpl (a0 :: av'.map (V.ren q2y)) ((q2y 0, .arr sz cp G2 te) :: q74 bv' 1) (fun r' bs => VLe r' r ∧ q1d bs bout) ∧ (ι 0 = none → cp = 0) ∧
   q0X w Fr (mvI ι cp) a0 (vals.getD 0 Go.undef) ∧ ∀ b sz' m, ι 0 = some (b, sz', m) → q8J w Fr (mvI ι cp) b sz' cp (.arr sz cp G2 te) ∧ io b := by
  generalize vals.getD 0 Go.undef = v0 at hv0
  have hOwn : ∀ b sz' m, ι 0 = some (b, sz', m) → q8J w Fr ι b sz' m (.arr sz n g2 te) ∧ io b := fun b sz' m hi => by
   obtain ⟨h1, h2⟩ := hE.own 0 (.arr sz n g1 te) b sz' m rfl hi
   exact ⟨hb1.le _ _ _ _ _ _ hE.frS hE.fr0 h1, h2⟩
  rcases hp with hp | hp
  ·cases hv0 with
   | atom hv _ => simp [isP] at hv
   | osl0 a hi => exact ⟨0, _, _, hp 0 (Nat.le_refl _), fun _ => rfl, .oss0 a fun _ => (by rw [q5h, hi]; rfl), fun b sz' m h => (by rw [hi] at h; cases h)⟩
   | @osl _ _ b sz2 m cap cc e1 hi hn2 hc hs hcs =>
    refine ⟨cap, _, _, hp cap hc, fun h => (by rw [hi] at h; cases h), ?_, ?_⟩
    ·have := q0X.oss (w := w) (Fr := Fr) (ι := mvI ι cap) (id := q2y 0) (lo := 0) (n := n) (cc := cap) (x := ee) (b := b) (sz := sz2) (m := cap) (by rw [q5h, hi]; rfl) (by omega) hc (Nat.le_refl _) (fun _ => rfl) hs (by rw [Nat.zero_add]; exact hcs)
     rwa [Nat.zero_mul] at this
    ·intro b' sz' m' h
     obtain ⟨h3, h2⟩ := hOwn b' sz' m' h
     rw [hi] at h
     simp only [Option.some.injEq, Prod.mk.injEq] at h
     obtain ⟨rfl, rfl, rfl⟩ := h
     obtain ⟨q1, q2, cells, e, q3, q4, q5, q6⟩ := h3
     subst q1 q2
     refine ⟨⟨rfl, rfl, cells, e, q3, ?_, fun i hi2 => ?_, fun i j hi2 hj => ?_⟩, h2⟩
     ·unfold World.shape? at hs
      rw [q3] at hs
      simp only [Option.some.injEq, Prod.mk.injEq] at hs
      rw [hs.2]; exact hcs
     ·unfold q6q
      split
      ·rename_i hq; exact q5 i hq
      ·exact qJE sz
     ·unfold q6q
      split
      ·rename_i hq; exact q6 i j hq hj
      ·rw [qH8]; exact .undef _
  ·cases hv0 with
   | atom hv _ => simp [isP] at hv
   | osl0 a hi => exact ⟨0, g2, _, hp, fun _ => rfl, .osl0 a (by rw [q5h, hi]; rfl), fun b sz' m h => (by rw [hi] at h; cases h)⟩
   | @osl _ _ b sz2 m cap cc e1 hi hn2 hc hs hcs =>
    refine ⟨n, g2, _, hp, fun h => (by rw [hi] at h; cases h), .osl (m := n) (by rw [q5h, hi]; rfl) (Nat.le_refl _) hc hs hcs, ?_⟩
    intro b' sz' m' h
    obtain ⟨h3, h2⟩ := hOwn b' sz' m' h
    obtain ⟨q1, q2, cells, e, q3, q4, q5, q6⟩ := h3
    exact ⟨⟨q1, rfl, cells, e, q3, q4, q5, q6⟩, h2⟩
 let g : G := ⟨w, X0, io, fn.ntmps, ι, io⟩
 have hS : ∀ id blk, lk ((q2y 0, Blk.arr sz cp G2 te) :: q74 bv' 1) id = some blk → (id = q2y 0 ∧ blk = .arr sz cp G2 te) ∨ ∃ j c, 0 < j ∧ j < 64 ∧ id = q2y j ∧ (Blk.arr sz n g1 te :: bv)[j]? = some c ∧ BLe c blk ∧ qCg blk = true := by
  intro id blk hl
  simp only [lk] at hl
  split at hl
  ·rename_i e
   simp only [Option.some.injEq] at hl
   exact .inl ⟨(q0j.1 e).symm, hl.symm⟩
  ·obtain ⟨j, h1, h2⟩ := qEl hl
   obtain ⟨c, hc, hle⟩ := hbin.at h2
   have := (List.getElem?_eq_some_iff.1 hc).1
   refine .inr ⟨j + 1, c, by omega, by omega, by rw [h1, Nat.add_comm], by simpa using hc, hle, harr _ (List.mem_of_getElem? h2)⟩
 have hblk : ∀ id blk q, lk ((q2y 0, Blk.arr sz cp G2 te) :: q74 bv' 1) id = some blk → mvI ι cp id = some q → ∃ j c q', j < 64 ∧ id = q2y j ∧ (Blk.arr sz n g1 te :: bv)[j]? = some c ∧ ι j = some q' ∧ q'.1 = q.1 := by
  intro id blk q hl hi
  rcases hS id blk hl with ⟨rfl, rfl⟩ | ⟨j, c, h0, h64, rfl, hc, hle, hia⟩
  ·rw [q5h] at hi
   cases h0 : ι 0 with
   | none => rw [h0] at hi; simp at hi
   | some q' =>
    rw [h0] at hi
    simp only [Option.map_some, Option.some.injEq] at hi
    exact ⟨0, _, q', by omega, rfl, rfl, h0, by rw [← hi]⟩
  ·rw [q9m h0 h64] at hi
   exact ⟨j, c, q, h64, rfl, hc, hi, rfl⟩
 have hrel : Rel g ⟨q6y (a0 :: av'.map (V.ren q2y)) 0, (q2y 0, .arr sz cp G2 te) :: q74 bv' 1⟩ { tmps := vals ++ Array.replicate (fn.ntmps - vals.size) Go.undef, defers := [] } w (mvI ι cp) Fr := by
  refine
   {defers := rfl
    size := by show (vals ++ Array.replicate (fn.ntmps - vals.size) Go.undef).size = fn.ntmps; simp; omega
    tmp := ?_
    own := fun id blk b sz' m hl hi => by
     rcases hS id blk hl with ⟨rfl, rfl⟩ | ⟨j, c, h0, h64, rfl, hc, hle, hia⟩
     ·rw [q5h] at hi
      cases h0 : ι 0 with
      | none => rw [h0] at hi; simp at hi
      | some q' =>
       obtain ⟨b', s', m'⟩ := q'
       rw [h0] at hi
       simp only [Option.map_some, Option.some.injEq, Prod.mk.injEq] at hi
       obtain ⟨rfl, rfl, rfl⟩ := hi
       obtain ⟨h1, h2⟩ := hown b' s' m' h0
       exact ⟨h1, .inl (.inr h2)⟩
     ·rw [q9m h0 h64] at hi
      obtain ⟨h1, h2⟩ := hE.own j c b sz' m hc hi
      have h3 := hle.le _ _ _ _ _ _ hE.frS hE.fr0 h1
      refine ⟨?_, .inl (.inr h2)⟩
      cases blk with
      | arr => exact h3
      | mp => exact h3
      | box cs => simp [qCg] at hia
    nob := fun id blk hl hi => by
     rcases hS id blk hl with ⟨rfl, rfl⟩ | ⟨j, c, h0, h64, rfl, hc, hle, hia⟩
     ·rw [q5h] at hi
      have h0 : ι 0 = none := by
       cases h0 : ι 0 with
       | none => rfl
       | some q' => rw [h0] at hi; simp at hi
      rw [hnone h0]
      exact ⟨_, _, _, rfl⟩
     ·rw [q9m h0 h64] at hi
      exact hle.nob (hE.nob j c hc hi)
    inj := fun id id' blk blk' r r' h1 h2 h3 h4 h5 => by
     obtain ⟨j, c, q, _, rfl, hc, hi, e⟩ := hblk id blk r h1 h3
     obtain ⟨j', c', q', _, rfl, hc', hi', e'⟩ := hblk id' blk' r' h2 h4
     rw [hE.inj j j' c c' q q' hc hc' hi hi' (by rw [e, e', h5])]
    fr := fun t b hb => ⟨(hE.fr t b hb).1, (hE.fr t b hb).2.1, fun id blk r hl hi e => by
     obtain ⟨j, c, q, _, rfl, hc, hi', e'⟩ := hblk id blk r hl hi
     exact (hE.fr t b hb).2.2 j c q hc hi' (by rw [e', e])⟩
    frS := hE.frS
    fr0 := hE.fr0
    fr2 := fun t b h2 hb => absurd hb (hE.fr2 t b h2)
    fr1 := fun b hb hq => by
     have h1 := (hE.fr 1 b hb).1
     rcases hq with hq | hq
     ·have hq' : w.heap.size ≤ b := hq
      omega
     ·exact hFio 1 b hb hq
    cl := fun t b h2 hb => absurd hb (hE.fr2 t b h2)
    low := fun id hid => qQs hid
    x0 := hE.x0
    io0 := hE.io0
    mvio := fun _ hq => hq
    os := rfl, tape := rfl, output := rfl, hsize := Nat.le_refl _, frame := fun _ _ _ => rfl, shape := fun _ _ h => h }
  intro t v ht
  obtain ⟨j, rfl, hj⟩ := q8E ht
  rw [Nat.zero_add]
  have hj' := (List.getElem?_eq_some_iff.1 hj).1
  simp only [List.length_cons, List.length_map] at hj'
  have e2 : (vals ++ Array.replicate (fn.ntmps - vals.size) Go.undef).getD j Go.undef = vals.getD j Go.undef := by
   have hjv : j < vals.size := by omega
   simp only [Array.getD_eq_getD_getElem?]
   rw [Array.getElem?_append_left hjv]
  show q0X w Fr (mvI ι cp) v ((vals ++ Array.replicate (fn.ntmps - vals.size) Go.undef).getD j Go.undef)
  rw [e2]
  cases j with
  | zero =>
   simp only [List.getElem?_cons_zero, Option.some.injEq] at hj
   subst hj
   exact hrow
  | succ j =>
   simp only [List.getElem?_cons_succ, List.getElem?_map] at hj
   cases hq : av'[j]? with
   | none => rw [hq] at hj; simp at hj
   | some u =>
    rw [hq] at hj
    simp only [Option.map_some, Option.some.injEq] at hj
    subst hj
    have h1 := (hle j (by omega)).le w Fr ι _ hE.frS hE.fr0 (by have := hvals (j + 1) (by simp; omega); rw [List.getD_cons_succ] at this; exact this)
    have h2 : av'.getD j .undef = u := by simp [List.getD, hq]
    rw [h2] at h1
    exact h1.ren fun id hid => by
     obtain ⟨h3, h4⟩ := hids u (List.mem_of_getElem? hq) id hid
     exact q9m h3 h4
 have hfin : ∀ (s : AS) (a : Act) (w' : World) (ι' : q0x) (Fr' : Nat → Nat → Prop), Rel g s a w' ι' Fr' → (∃ r0 r1 bs, qKu cx.tt s fn.results.toList = some r0 ∧ q6R tpl 0 s.S (qFS r0) = some (r1, bs) ∧ VLe r1 r ∧ q1d bs bout) →
   a.defers = [] ∧ ∃ v, (results fn a.tmps).run P w' = .ok v w' ∧ ∃ v' ι'' Fr'', Ending.returned v = .returned v' ∧ q0X w' Fr'' ι'' r v' ∧ Ext w w' X0 io (fun b => w.heap.size ≤ b ∨ io b) ι 0 bout ι'' Fr'' := by
  rintro s a w' ι' Fr' hr ⟨r0, r1, bs, hr0, hex, hv, hbs⟩
  obtain ⟨v, hrun, hrep⟩ := qDc (P := P) hT hr hr0
  obtain ⟨ι2, Fr2, h1, h2⟩ := qB4 hr (by omega) hex (qIy hrep)
  exact ⟨hr.defers, v, hrun, v, ι2, Fr2, rfl, hv.le w' _ ι2 v h2.frS h2.fr0 h1, qEo h2 (fun b hb => hb) hbs⟩
 unfold q8A at hp'
 rw [hb] at hp'
 refine calls_of_wp hf hb (q2b hT hD hM hm (g := g) (hnt.trans rfl) c _ _ ?_ _ _ w (mvI ι cp) Fr hp' hrel)
 intro e s a w' ι' Fr' he hr
 cases e with
 | normal =>
  simp only [] at he
  split at he
  ·rename_i r0 hr0
   split at he
   ·rename_i r1 bs hex
    exact hfin s a w' ι' Fr' hr ⟨r0, r1, bs, hr0, hex, he⟩
   ·exact he.elim
  ·exact he.elim
 | ret =>
  simp only [] at he
  split at he
  ·rename_i r0 hr0
   split at he
   ·rename_i r1 bs hex
    exact hfin s a w' ι' Fr' hr ⟨r0, r1, bs, hr0, hex, he⟩
   ·exact he.elim
  ·exact he.elim
 | _ => exact he.elim
def qEL (P : Program) (t : Nat) : Bool := match P.underlying t with
 | some d => q3l d
 | none => false
def q1r {H : Type} (P : Program) : Nat → Nat → DataW H → List V
 | 0, _, _ => []
 | fuel + 1, t, d => match P.underlying t, d with
  | some (.int k), .lit (.int _ n) => [.int k n]
  | some .bool, .lit (.bool b) => [.bool b]
  | some .string, .lit (.string bs) => [.str ⟨bs.toArray⟩]
  | some (.slice _), .nil => [.nil]
  | some (.slice e), .slice elems _ => [.sl elems.length (fun i => q8c (qEL P e) (q1r P fuel e (elems.getD i .nil))) 1]
  | some (.struct fs), .agg parts => (fs.toList.zip parts).flatMap fun p => q1r P fuel p.1.type p.2
  | _, _ => [.undef]
def qG8 (P : Program) : List Field → Nat → Nat → Bool
 | [], off, n => Nat.beq off n
 | f :: r, off, n => Nat.beq f.offset off && qG8 P r (off + P.cellsOf f.type) n
def q60 (P : Program) : Nat → Nat → Bool
 | 0, _ => false
 | fuel + 1, t => match P.underlying t with
  | some (.int _) => Nat.beq (P.cellsOf t) 1
  | some .bool => Nat.beq (P.cellsOf t) 1
  | some .string => Nat.beq (P.cellsOf t) 1
  | some (.slice e) => Nat.beq (P.cellsOf t) 1 && Nat.ble 1 (P.cellsOf e) && q60 P fuel e
  | some (.struct fs) => qG8 P fs.toList 0 (P.cellsOf t) && fs.toList.all fun f => q60 P fuel f.type
  | _ => false
def q64 (w : World) (vs : List V) (cs : List Value) : Prop :=
 vs.length = cs.length ∧ ∀ j, j < cs.length → PRep w (fun b => b < w.heap.size) (vs.getD j .undef) (cs.getD j Go.undef)
theorem q64.one {w : World} {v : V} {x : Value} (h : PRep w (fun b => b < w.heap.size) v x) : q64 w [v] [x] :=
 ⟨rfl, fun j hj => by
  have : j = 0 := by simpa using hj
  subst this
  simpa using h⟩
theorem q64.append {w : World} {vs vs' : List V} {cs cs' : List Value} (h : q64 w vs cs) (h' : q64 w vs' cs') : q64 w (vs ++ vs') (cs ++ cs') := by
 refine ⟨by simp [h.1, h'.1], fun j hj => ?_⟩
 rcases Nat.lt_or_ge j cs.length with hlt | hge
 ·have e1 : (vs ++ vs').getD j .undef = vs.getD j .undef := by simp [List.getD, List.getElem?_append_left (by rw [h.1]; exact hlt)]
  have e2 : (cs ++ cs').getD j Go.undef = cs.getD j Go.undef := by simp [List.getD, List.getElem?_append_left hlt]
  rw [e1, e2]; exact h.2 j hlt
 ·have e1 : (vs ++ vs').getD j .undef = vs'.getD (j - cs.length) .undef := by simp [List.getD, List.getElem?_append_right (by rw [h.1]; exact hge), h.1]
  have e2 : (cs ++ cs').getD j Go.undef = cs'.getD (j - cs.length) Go.undef := by simp [List.getD, List.getElem?_append_right hge]
  rw [e1, e2]
  exact h'.2 _ (by simp at hj; omega)
theorem q64.nil {w : World} : q64 w [] [] := ⟨rfl, fun j hj => by simp at hj⟩
theorem qAQ {agg : Bool} {cs : List V} (h : agg = false → ∃ c, cs = [c] ∧ ∀ l, c ≠ .agg l) : (q8c agg cs).cells = cs := by
 cases agg with
 | true => rfl
 | false =>
  obtain ⟨c, rfl, hc⟩ := h rfl
  unfold q8c
  simp only [List.headD_cons]
  cases c <;> first | rfl | exact absurd rfl (hc _)
theorem qLD {α β : Type} {f : α → Option β} : ∀ {l : List α} {r : List β}, l.mapM f = some r → r.length = l.length ∧ ∀ (j : Nat) (x : α), l[j]? = some x → ∃ y, r[j]? = some y ∧ f x = some y
 | [], r, h => by
  simp at h
  subst h
  exact ⟨rfl, fun j x hx => by simp at hx⟩
 | a :: l, r, h => by
  rw [List.mapM_cons] at h
  cases ha : f a with
  | none => rw [ha] at h; simp at h
  | some b =>
   cases hl : l.mapM f with
   | none => rw [ha, hl] at h; simp at h
   | some bs =>
    rw [ha, hl] at h
    simp at h
    subst h
    obtain ⟨h1, h2⟩ := qLD hl
    refine ⟨by simp [h1], fun j x hx => ?_⟩
    cases j with
    | zero => simp at hx; subst hx; exact ⟨b, by simp, ha⟩
    | succ j => simpa using h2 j x (by simpa using hx)
section
variable {H : Type} {enc : TypeId × Value → H} {P : Program} {w : World} {base : Nat} {sp : Nat → Bool} {held : Bool}
theorem q4Q {n t : Nat} {fuel : Nat} {cs : List Value} {d : DataW H} {ps : List MemPlace} (hp : q60 P n t = true) (ha : qEL P t = false)
  (h : DataW.trod enc P w base sp held fuel t cs = some (d, ps)) : ∃ c, q1r P n t d = [c] ∧ ∀ l, c ≠ .agg l := by
 cases n with
 | zero => simp [q60] at hp
 | succ n =>
  unfold q60 at hp
  unfold qEL at ha
  cases hu : P.underlying t with
  | none => rw [hu] at hp; simp at hp
  | some td =>
   rw [hu] at hp ha
   cases td with
   | struct fs => simp [q3l] at ha
   | _ =>
    simp only [q1r, hu]
    first
     | exact ⟨_, rfl, fun l hl => by cases hl⟩
     | (split <;> first
       | exact ⟨_, rfl, fun l hl => by cases hl⟩
       | contradiction
       | (rename_i heq; cases heq))
theorem qHk {t fuel : Nat} {k : IntKind} {cs : List Value} {x : DataW H × List MemPlace} (hu : P.underlying t = some (.int k)) (h : DataW.trod enc P w base sp held (fuel + 1) t cs = some x) :
  ∃ n, cs = [.int k n] ∧ x.1 = .lit (.int k n) := by
 unfold DataW.trod at h
 rw [hu] at h
 split at h <;> try contradiction
 all_goals simp_all
 rename_i h1
 obtain ⟨⟨e, _⟩, hx⟩ := h
 subst e
 rw [← hx]
theorem qEd {t fuel : Nat} {cs : List Value} {x : DataW H × List MemPlace} (hu : P.underlying t = some .bool) (h : DataW.trod enc P w base sp held (fuel + 1) t cs = some x) :
  ∃ b, cs = [.bool b] ∧ x.1 = .lit (.bool b) := by
 unfold DataW.trod at h
 rw [hu] at h
 split at h <;> try contradiction
 all_goals simp_all
 rw [← h]
theorem qB9 {t fuel : Nat} {cs : List Value} {x : DataW H × List MemPlace} (hu : P.underlying t = some .string) (h : DataW.trod enc P w base sp held (fuel + 1) t cs = some x) :
  ∃ s : ByteArray, cs = [.string s] ∧ x.1 = .lit (.string s.data.toList) := by
 unfold DataW.trod at h
 rw [hu] at h
 split at h <;> try contradiction
 all_goals simp_all
 rw [← h.2]
theorem qAj {t fuel : Nat} {fs : Array Field} {cs : List Value} {x : DataW H × List MemPlace} (hu : P.underlying t = some (.struct fs)) (h : DataW.trod enc P w base sp held (fuel + 1) t cs = some x) :
  cs.length = P.cellsOf t ∧ ∃ xs : List (DataW H × List MemPlace), x.1 = .agg (xs.map (·.1)) ∧ (fs.toList.mapM fun f => DataW.trod enc P w base sp held fuel f.type ((cs.drop f.offset).take (P.cellsOf f.type))) = some xs := by
 unfold DataW.trod at h
 rw [hu] at h
 simp only [] at h
 split at h
 ·rename_i hl
  refine ⟨hl, ?_⟩
  cases hm : (fs.toList.mapM fun f => DataW.trod enc P w base sp held fuel f.type ((cs.drop f.offset).take (P.cellsOf f.type))) with
  | none => rw [hm] at h; simp at h
  | some xs => rw [hm] at h; simp at h; exact ⟨xs, by rw [← h], rfl⟩
 ·simp at h
theorem qSu {a : Addr} (hs : a.spot = none) (i j : Nat) : (a.add i).add j = ⟨a.block, a.off + i + j, none⟩ := by
 obtain ⟨b, o, s⟩ := a
 simp only at hs
 subst hs
 unfold Addr.add
 by_cases hi : i = 0 <;> by_cases hj : j = 0 <;> simp [hi, hj]
theorem qG1 {fs : List Field} {cs : List Value} {vf : Field → DataW H → List V} : ∀ {xs : List (DataW H × List MemPlace)} {off : Nat}, qG8 P fs off cs.length = true → xs.length = fs.length →
  (∀ (j : Nat) (f : Field) (x : DataW H × List MemPlace), fs[j]? = some f → xs[j]? = some x → q64 w (vf f x.1) ((cs.drop f.offset).take (P.cellsOf f.type)) ∧ (vf f x.1).length = P.cellsOf f.type) →
  q64 w ((fs.zip (xs.map (·.1))).flatMap fun p => vf p.1 p.2) (cs.drop off) := by
 induction fs with
 | nil =>
  intro xs off hc hl _
  unfold qG8 at hc
  have := q0j.1 hc
  subst this
  simpa using q64.nil
 | cons f r ih =>
  intro xs off hc hl hall
  unfold qG8 at hc
  simp only [Bool.and_eq_true] at hc
  have ho := q0j.1 hc.1
  cases xs with
  | nil => simp at hl
  | cons x xs =>
   have h1 := hall 0 f x (by simp) (by simp)
   have h2 := ih (xs := xs) (off := off + P.cellsOf f.type) hc.2 (by simpa using hl) fun j f' x' hf hx => hall (j + 1) f' x' (by simpa using hf) (by simpa using hx)
   have e1 : cs.drop off = (cs.drop off).take (P.cellsOf f.type) ++ cs.drop (off + P.cellsOf f.type) := by
    rw [← List.drop_drop, List.take_append_drop]
   rw [ho] at h1
   simp only [List.map_cons, List.zip_cons_cons, List.flatMap_cons]
   rw [e1]
   exact h1.1.append h2
theorem q5m : ∀ (n t : Nat), q60 P n t = true → ∀ (fuel : Nat) (cs : List Value) (d : DataW H) (ps : List MemPlace), DataW.trod enc P w base sp held fuel t cs = some (d, ps) →
  q64 w (q1r P n t d) cs ∧ cs.length = P.cellsOf t
 | 0, t, hp, _, _, _, _, _ => by simp [q60] at hp
 | n + 1, t, hp, 0, cs, d, ps, h => by simp [DataW.trod] at h
 | n + 1, t, hp, fuel + 1, cs, d, ps, h => by
  have hp0 := hp
  unfold q60 at hp
  cases hu : P.underlying t with
  | none => rw [hu] at hp; simp at hp
  | some td =>
   rw [hu] at hp
   cases td with
   | int k =>
    obtain ⟨m, rfl, hd⟩ := qHk hu h
    simp only at hd
    subst hd
    simp only [q1r, hu]
    exact ⟨q64.one (.int _ _), (q0j.1 hp).symm⟩
   | bool =>
    obtain ⟨m, rfl, hd⟩ := qEd hu h
    simp only at hd
    subst hd
    simp only [q1r, hu]
    exact ⟨q64.one (.bool _), (q0j.1 hp).symm⟩
   | string =>
    obtain ⟨m, rfl, hd⟩ := qB9 hu h
    simp only at hd
    subst hd
    simp only [q1r, hu]
    exact ⟨q64.one (.str _), (q0j.1 hp).symm⟩
   | slice e =>
    simp only [Bool.and_eq_true] at hp
    obtain ⟨⟨h1, hge⟩, hpe⟩ := hp
    have hge : 1 ≤ P.cellsOf e := Nat.le_of_ble_eq_true hge
    refine ⟨?_, ?_⟩
    ·rcases Go.Deep.open_slice hu h with ⟨rfl, hx⟩ | ⟨a, len, cap, m, n', D, Pl, rfl, hb, hlc, hcm, hm, hx, hi⟩
     ·cases hx
      simp only [q1r, hu]
      exact q64.one (.nil _)
     ·cases hx
      simp only [q1r, hu, List.length_map, List.length_range]
      refine q64.one ?_
      by_cases h0 : len = 0
      ·subst h0; exact .sl0 _ _ _ _
      ·have hle : len ≤ m := by rw [hm]; split <;> omega
       have hspot : a.spot = none := by
        obtain ⟨cs', hcs', _⟩ := hi 0 (by omega)
        obtain ⟨_, hl0, hc0⟩ := World.cells?_some hcs'
        have := hc0 0 (by omega)
        have hsome : ∃ y, cs'[0]? = some y := ⟨cs'[0], by rw [List.getElem?_eq_getElem]⟩
        obtain ⟨y, hy⟩ := hsome
        rw [hy] at this
        simp only [Nat.zero_mul, Addr.add, if_true, World.cell?] at this
        split at this
        ·cases hs : a.spot with
         | none => rfl
         | some q => rw [hs] at this; simp at this
        ·simp at this
       have hblk : a.block < w.heap.size := by
        obtain ⟨cs', hcs', _⟩ := hi 0 (by omega)
        have := World.cells?_block hcs' (by omega)
        simpa [Addr.add] using this
       have hel : ∀ i, i < len → ∃ cs', cs'.length = P.cellsOf e ∧ (∀ j, j < P.cellsOf e → w.cell? ⟨a.block, a.off + i * P.cellsOf e + j, none⟩ = some (cs'.getD j Go.undef)) ∧
         q64 w (q1r P n e (D i)) cs' ∧ (q8c (qEL P e) (q1r P n e (D i))).cells = q1r P n e (D i) := by
        intro i hilt
        obtain ⟨cs', hcs', htr⟩ := hi i (by omega)
        obtain ⟨_, hl', hc'⟩ := World.cells?_some hcs'
        refine ⟨cs', hl', fun j hj => ?_, (q5m n e hpe n' cs' (D i) (Pl i) htr).1, qAQ fun ha => q4Q hpe ha htr⟩
        have := hc' j hj
        rw [qSu hspot] at this
        rw [this]
        have hj' : j < cs'.length := by omega
        simp [List.getD, hj']
       have hg : ∀ i, i < len → ((List.range len).map D).getD i .nil = D i := fun i hilt => by simp [List.getD, hilt]
       obtain ⟨blk, off, spot⟩ := a
       simp only at hspot hblk hel
       subst hspot
       refine .sl (sz := P.cellsOf e) (fun i j => (w.cell? ⟨blk, off + i * P.cellsOf e + j, none⟩).getD Go.undef) hblk hlc (fun i hilt => ?_) (fun i j hilt hj => ?_) (fun i j hilt hj => ?_)
       ·obtain ⟨cs', hl', _, hr, hcells⟩ := hel i hilt
        simp only [hg i hilt, hcells]
        rw [hr.1, hl']
       ·obtain ⟨cs', hl', hc', _, _⟩ := hel i hilt
        rw [hc' j hj]; rfl
       ·obtain ⟨cs', hl', hc', hr, hcells⟩ := hel i hilt
        simp only [hg i hilt, hcells]
        rw [hc' j hj]
        exact hr.2 j (by omega)
    ·rcases Go.Deep.open_slice hu h with ⟨rfl, _⟩ | ⟨_, _, _, _, _, _, _, rfl, _⟩ <;> exact (q0j.1 h1).symm
   | struct fs =>
    simp only [Bool.and_eq_true] at hp
    obtain ⟨hc, hall⟩ := hp
    obtain ⟨hl, xs, hd, hm⟩ := qAj hu h
    simp only at hd
    subst hd
    obtain ⟨hlen, hat⟩ := qLD hm
    refine ⟨?_, hl⟩
    simp only [q1r, hu]
    have := qG1 (fs := fs.toList) (cs := cs) (vf := fun f x => q1r P n f.type x) (xs := xs) (off := 0) (by rw [hl]; exact hc) hlen fun j f x hf hx => by
     obtain ⟨y, hy, hty⟩ := hat j f hf
     rw [hx] at hy
     have : x = y := Option.some.inj hy
     subst this
     obtain ⟨h1, h2⟩ := q5m n f.type (List.all_eq_true.1 hall f (List.mem_of_getElem? hf)) fuel _ x.1 x.2 hty
     exact ⟨h1, by rw [h1.1]; exact h2⟩
    simpa using this
   | _ => simp at hp
end
def argD {H : Type} (P : Program) (n t : Nat) (d : DataW H) : V := q8c (qEL P t) (q1r P n t d)
def qJF (w : World) : Nat → Nat → Prop := fun t b => t < 2 ∧ b < w.heap.size
theorem calls_of_sound {P : Program} {f : Nat} {D : q0G} (h : q0T P f D) (hbody : ((P.funcs[f]?).bind (·.body)).isSome = true) {args : List V} {ob : Prop} {b : Bool} (hD : D args [] = some (ob, .bool b, [])) (hob : ob) {vals : Array Value} {W : World}
  (hsize : vals.size = args.length) (hv : ∀ j, j < args.length → q0X W (qJF W) (fun _ => none) (args.getD j .undef) (vals.getD j Go.undef)) :
  Calls P f vals W fun e W' => e = .returned (.bool b) ∧ Go.RowKit.Below W.heap.size W W' := by
 have hE : Ent W (fun _ => False) (fun _ => False) [] (fun _ => none) (qJF W) :=
  {own := fun id blk b sz m hl => by simp at hl
   nob := fun id blk hl => by simp at hl
   inj := fun id id' blk blk' r r' hl => by simp at hl
   fr := fun t b hb => ⟨hb.2, fun h => h, fun id blk r hl => by simp at hl⟩
   frS := fun b hb => absurd hb.1 (by decide)
   fr0 := fun t b hb => ⟨by decide, hb.2⟩
   fr2 := fun t b h2 hb => by have := hb.1; omega
   x0 := fun b hb => hb.elim
   io0 := fun b hb => hb.elim
   few := by decide }
 have hx := h.does args [] ob (.bool b) [] hD hob vals W (fun _ => False) (fun _ => False) (fun _ => none) (qJF W) hE hsize hv
 have hc : Calls P f vals W fun e w' => ∃ v ι' Fr', e = .returned v ∧ q0X w' Fr' ι' (.bool b) v ∧ Ext W w' (fun _ => False) (fun _ => False) (fun b => W.heap.size ≤ b) (fun _ => none) 0 [] ι' Fr' := by
  rcases hx with hx | ⟨v, hv, _⟩
  ·exact hx.2
  ·exfalso
   obtain ⟨fn, hfn, hbd⟩ : ∃ fn, P.funcs[f]? = some fn ∧ fn.body.isSome = true := by
    cases hfn : P.funcs[f]? with
    | none => rw [hfn] at hbody; cases hbody
    | some fn => rw [hfn] at hbody; exact ⟨fn, rfl, hbody⟩
   have hb2 : fn.body.isNone = false := by
    cases hc : fn.body with
    | none => rw [hc] at hbd; cases hbd
    | some _ => rfl
   unfold callFunc at hv
   simp only [Sem.run_bind, run_program, Result.andThen_ok, hfn] at hv
   split at hv
   ·cases hv
   ·simp only [hb2] at hv
    cases hv
 refine hc.mono fun e W' he => ?_
 obtain ⟨v, ι', Fr', rfl, hr, hx⟩ := he
 have hvb := q3U hr
 subst hvb
 exact ⟨rfl, hx.os, hx.tape, hx.output, hx.hsize, fun k hk => hx.frame k hk fun h => h⟩
theorem q6W {H : Type} (P : Program) : ∀ (n t : Nat) (d : DataW H), ∀ c ∈ q1r P n t d, isP c = true ∧ (q1c c = none ∨ q1c c = some 1)
 | 0, _, _, c, hc => by simp [q1r] at hc
 | n + 1, t, d, c, hc => by
  simp only [q1r] at hc
  split at hc
  ·simp at hc; subst hc; simp [isP, q1c]
  ·simp at hc; subst hc; simp [isP, q1c]
  ·simp at hc; subst hc; simp [isP, q1c]
  ·simp at hc; subst hc; simp [isP, q1c]
  ·simp at hc; subst hc; simp [isP, q1c]
  ·obtain ⟨p, _, hp⟩ := List.mem_flatMap.1 hc
   exact q6W P n _ _ c hp
  ·simp at hc; subst hc; simp [isP, q1c]
theorem qTB {H : Type} {enc : TypeId × Value → H} {P : Program} {w : World} {base : Nat} {sp : Nat → Bool} {held : Bool} {n t : Nat} (hp : q60 P n t = true) {v : Value} {d : DataW H} {ps : List MemPlace}
  (h : DataW.Trod enc P w base sp held t v d ps) (hform : qEL P t = true → ∃ cs, v = .agg cs) (hform' : qEL P t = false → ∀ cs, v ≠ .agg cs) : q0X w (qJF w) (fun _ => none) (argD P n t d) v := by
 obtain ⟨fuel, h⟩ := h
 obtain ⟨hr, hl⟩ := q5m n t hp fuel _ d ps h
 have cell : ∀ c ∈ q1r P n t d, ∀ x, PRep w (fun b => b < w.heap.size) c x → q0X w (qJF w) (fun _ => none) c x := fun c hc x hx =>
  q6D (A := fun b => b < w.heap.size) (c := 1) (fun b hb => ⟨by decide, hb⟩) (q6W P n t d c hc).1 (q6W P n t d c hc).2 hx
 unfold argD
 cases ha : qEL P t with
 | true =>
  obtain ⟨cs, rfl⟩ := hform ha
  have hlen : (q1r P n t d).length = cs.size := by rw [hr.1]; simp [Value.cells]
  refine .agg cs hlen.symm fun j hj => ?_
  have hmem : (q1r P n t d).getD j .undef ∈ q1r P n t d := by
   simp only [List.getD, List.getElem?_eq_getElem hj, Option.getD_some]
   exact List.getElem_mem hj
  have := hr.2 j (by rw [← hr.1]; exact hj)
  have e2 : (Value.agg cs).cells.toList.getD j Go.undef = cs.getD j Go.undef := by simp [Value.cells, List.getD, Array.getD_eq_getD_getElem?]
  rw [e2] at this
  exact cell _ hmem _ this
 | false =>
  obtain ⟨c, hc, _⟩ := q4Q hp ha h
  have hv : v.cells = #[v] := by
   cases v with
   | agg cs => exact absurd rfl (hform' ha cs)
   | _ => rfl
  rw [hc, hv] at hr
  have := hr.2 0 (by simp)
  rw [hc]
  exact cell c (by rw [hc]; simp) v (by simpa using this)
def q2l (n : Int) : V := .int .i64 n
def x73 (b : Bool) : V := .bool b
def q3M (s : ByteArray) : V := .str s
def gL {α : Type} [Inhabited α] (enc : α → V) (xs : List α) : Nat → V := fun i => enc (xs.getD i default)
def q0H {α : Type} [Inhabited α] (enc : α → V) (t : Nat) (xs : List α) : V := .sl xs.length (gL enc xs) t
def q24 : V → Int
 | .int _ n => n
 | _ => 0
def qXt : V → Bool
 | .bool b => b
 | _ => false
def qNl : V → ByteArray
 | .str s => s
 | _ => default
def q0M {α : Type} (dec : V → α) : V → List α
 | .sl n g _ => (List.range n).map fun i => dec (g i)
 | _ => []
@[simp] theorem qLi (n : Int) : q24 (q2l n) = n := rfl
@[simp] theorem q54 (k : IntKind) (n : Int) : q24 (.int k n) = n := rfl
@[simp] theorem qVC (b : Bool) : qXt (x73 b) = b := rfl
@[simp] theorem q47 (b : Bool) : qXt (.bool b) = b := rfl
@[simp] theorem qMX (s : ByteArray) : qNl (q3M s) = s := rfl
@[simp] theorem q5B (s : ByteArray) : qNl (.str s) = s := rfl
theorem q1P {α : Type} [Inhabited α] {enc : α → V} {dec : V → α} (h : ∀ x, dec (enc x) = x) (t : Nat) (xs : List α) : q0M dec (q0H enc t xs) = xs := by
 unfold q0H q0M
 refine List.ext_getElem (by simp) fun i h1 h2 => ?_
 simp [gL, h, h2]
@[simp] theorem qXv {α : Type} (dec : V → α) : q0M dec .nil = [] := rfl
theorem qKr {α : Type} [Inhabited α] {enc : α → V} {dec : V → α} (h : ∀ x, dec (enc x) = x) (t : Nat) (xs : List α) (n : Nat) (hn : n ≤ xs.length) : q0M dec (.sl n (gL enc xs) t) = xs.take n := by
 unfold q0M
 refine List.ext_getElem (by simp; omega) fun i h1 h2 => ?_
 have : i < xs.length := by simp at h1; omega
 simp [gL, h, this]
def q0u (t : Nat) (n : Int) : V := .ptr [.int .i64 n] 0 t
def q0Y : V → Int
 | .ptr (c :: _) _ _ => q24 c
 | _ => 0
@[simp] theorem q7O (t : Nat) (n : Int) : q0Y (q0u t n) = n := rfl
def tq (x : Bool) : Prop := x = true → x = true → x = true
@[simp] theorem x85 (x : Bool) : tq x ↔ True := ⟨fun _ => trivial, fun _ => fun h _ => h⟩
def q4l {α : Type} [Inhabited α] (enc : α → V) (t : Nat) (xs : List α) : V := .ptr [q0H enc t xs] 0 t
def q2d {α : Type} (dec : V → α) : V → List α
 | .ptr (c :: _) _ _ => q0M dec c
 | _ => []
theorem qKt {α : Type} [Inhabited α] {enc : α → V} {dec : V → α} (h : ∀ x, dec (enc x) = x) (t : Nat) (xs : List α) : q2d dec (q4l enc t xs) = xs := q1P h t xs
theorem qVA {α : Type} [Inhabited α] (enc : α → V) (xs : List α) (i : Nat) (h : i < xs.length) : gL enc xs i = enc xs[i] := by simp [gL, h]
theorem q2X {α : Type} (l : List α) (i k : Nat) (x : α) {d : α} (h : k ≠ i) : (l.set i x).getD k d = l.getD k d := by
 simp [List.getElem?_set_ne (Ne.symm h)]
theorem q2S {α : Type} (l : List α) (i : Nat) (x d : α) (h : i < l.length) : (l.set i x).getD i d = x := by
 simp [h]
theorem qPB {α : Type} [Inhabited α] {enc : α → V} {n : Nat} {g : Nat → V} {t t' : Nat} {xs : List α} (hn : n = xs.length) (h : ∀ i (hi : i < xs.length), ELe (g i) (enc xs[i])) (ht : t' = t ∨ t' = 0) : VLe (.sl n g t) (q0H enc t' xs) := by
 subst hn
 exact qGB (fun i hi => by rw [qVA _ _ _ hi]; exact h i hi) ht
theorem q3A {α : Type} [Inhabited α] {enc : α → V} {n : Nat} {g : Nat → V} {t t' : Nat} {xs : List α} (hn : n = xs.length) (h : ∀ i (hi : i < xs.length), g i = enc xs[i]) (ht : t' = t ∨ t' = 0) : VLe (.sl n g t) (q0H enc t' xs) :=
 qPB hn (fun i hi => ELe.of_eq (h i hi)) ht
def vi (n : Int) : V := .int .i64 n
theorem qOL {α : Type} [Inhabited α] (enc : α → V) (t : Nat) : VLe .nil (q0H enc t []) := q7k _ _
theorem q0J {k : IntKind} {a b : Int} (h : a = b) : VLe (.int k a) (.int k b) := VLe.of_eq (by rw [h])
theorem q0e {a b : Bool} (h : a = b) : VLe (.bool a) (.bool b) := VLe.of_eq (by rw [h])
theorem q5r {a b : ByteArray} (h : a = b) : VLe (.str a) (.str b) := VLe.of_eq (by rw [h])
def qTg : List V → List V → Prop
 | [], [] => True
 | v :: r, v' :: r' => PLe v v' ∧ qTg r r'
 | _, _ => False
theorem qTg.len : ∀ {a b : List V}, qTg a b → b.length = a.length
 | [], [], _ => rfl
 | _ :: _, _ :: _, h => by simp [h.2.len]
 | [], _ :: _, h => h.elim
 | _ :: _, [], h => h.elim
theorem qTg.at : ∀ {a b : List V}, qTg a b → ∀ j, j < a.length → PLe (a.getD j .undef) (b.getD j .undef)
 | [], [], _, _, hj => by simp at hj
 | _ :: _, _ :: _, h, 0, _ => by simpa using h.1
 | _ :: _, _ :: _, h, j + 1, hj => by simpa using h.2.at j (by simpa using hj)
 | [], _ :: _, h, _, _ => h.elim
 | _ :: _, [], h, _, _ => h.elim
theorem qKN {v v' : V} (h : qTg v.cells v'.cells) : ELe v v' := ⟨h.len, h.at⟩
@[simp] theorem qY0 (v : V) : VLe v v ↔ True := ⟨fun _ => trivial, fun _ => VLe.refl v⟩
def w0 : World := { heap := #[], tape := fun _ _ => 0, drawn := 0, output := #[], os := default }
theorem qDf {v v' : V} {x : Value} (h : VLe v v') (hv : q0X w0 (fun _ _ => False) (fun _ => none) v x) : q0X w0 (fun _ _ => False) (fun _ => none) v' x :=
 h.le _ _ _ _ (fun _ h => h) (fun _ _ h => h) hv
@[simp] theorem qPx {a b : Bool} : VLe (.bool a) (.bool b) ↔ a = b := ⟨fun h => by
 have := q3U (qDf h (.atom rfl (.bool _)))
 cases this; rfl, q0e⟩
@[simp] theorem qQb {k : IntKind} {a b : Int} : VLe (.int k a) (.int k b) ↔ a = b := ⟨fun h => by
 have := q27 (qDf h (.atom rfl (.int _ _)))
 cases this; rfl, q0J⟩
@[simp] theorem qSH {a b : ByteArray} : VLe (.str a) (.str b) ↔ a = b := ⟨fun h => by
 have := q3r (qDf h (.atom rfl (.str _)))
 cases this; rfl, q5r⟩
theorem q8M {α : Type} [Inhabited α] {enc : α → V} {sz n : Nat} {h : Nat → V} {te : Nat} {xs : List α} {x : α} (hn : xs.length = n) (hx : h 0 = enc x) :
  BLe (.arr sz (n + 1) (q2n n (gL enc xs) h) te) (.arr sz (n + 1) (gL enc (xs ++ [x])) te) := by
 refine q1B (fun k hk => ELe.of_eq ?_) (Or.inl rfl)
 simp only [q2n, gL]
 by_cases hk' : k < n
 ·rw [if_pos hk']
  have : k < xs.length := by omega
  simp [List.getElem?_append_left this]
 ·have hk0 : k = n := by omega
  subst hk0
  rw [if_neg (Nat.lt_irrefl _), Nat.sub_self, hx]
  subst hn
  simp
def CLe (v v' : V) : Prop := PLe v v' ∧ VLe v v'
theorem CLe.refl (v : V) : CLe v v := ⟨PLe.refl v, VLe.refl v⟩
def qGJ : List V → List V → Prop
 | [], [] => True
 | v :: r, v' :: r' => CLe v v' ∧ qGJ r r'
 | _, _ => False
theorem qGJ.append : ∀ {a a' b b' : List V}, qGJ a a' → qGJ b b' → qGJ (a ++ b) (a' ++ b')
 | [], [], _, _, _, h => h
 | _ :: _, _ :: _, _, _, h, h' => ⟨h.1, h.2.append h'⟩
 | [], _ :: _, _, _, h, _ => h.elim
 | _ :: _, [], _, _, h, _ => h.elim
theorem qGJ.vles : ∀ {a b : List V}, qGJ a b → qPq a b
 | [], [], _ => trivial
 | _ :: _, _ :: _, h => ⟨h.1.2, h.2.vles⟩
 | [], _ :: _, h => h.elim
 | _ :: _, [], h => h.elim
theorem qGJ.len : ∀ {a b : List V}, qGJ a b → b.length = a.length
 | [], [], _ => rfl
 | _ :: _, _ :: _, h => by simp [h.2.len]
 | [], _ :: _, h => h.elim
 | _ :: _, [], h => h.elim
theorem qGJ.at : ∀ {a b : List V}, qGJ a b → ∀ j, j < a.length → PLe (a.getD j .undef) (b.getD j .undef)
 | [], [], _, _, hj => by simp at hj
 | _ :: _, _ :: _, h, 0, _ => by simpa using h.1.1
 | _ :: _, _ :: _, h, j + 1, hj => by simpa using h.2.at j (by simpa using hj)
 | [], _ :: _, h, _, _ => h.elim
 | _ :: _, [], h, _, _ => h.elim
theorem qGJ.ele {v v' : V} (h : qGJ v.cells v'.cells) : ELe v v' := ⟨h.len, h.at⟩
structure Tyd {α : Type} (P : Program) (n t : Nat) (agg : Bool) (enc : α → V) (bd : α → Prop) : Prop where
 ag : qEL P t = agg
 form : agg = false → ∀ x l, enc x ≠ .agg l
 form' : agg = true → ∀ x, ∃ l, enc x = .agg l
 tyd : ∀ {H : Type} {en : TypeId × Value → H} {w : World} {base : Nat} {sp : Nat → Bool} {held : Bool} {fuel : Nat} {cs : List Value} {d : DataW H} {ps : List MemPlace},
  DataW.trod en P w base sp held fuel t cs = some (d, ps) → ∃ x, bd x ∧ qGJ (q1r P n t d) (enc x).cells
theorem q3B {P : Program} {n t : Nat} {k : IntKind} (hu : P.underlying t = some (.int k)) : Tyd P (n + 1) t false (fun x : Int => .int k x) (fun x => (Lit.int k x).wf = true) where
 ag := by simp [qEL, hu, q3l]
 form := fun _ x l h => by cases h
 form' := fun h => by cases h
 tyd := fun {H en w base sp held fuel cs d ps} h => by
  cases fuel with
  | zero => simp [DataW.trod] at h
  | succ fuel =>
   obtain ⟨m, rfl, hd⟩ := qHk hu h
   simp only at hd
   subst hd
   unfold DataW.trod at h
   simp only [hu] at h
   split at h
   ·rename_i hw
    refine ⟨m, hw.2, ?_⟩
    simp only [q1r, hu]
    exact ⟨CLe.refl _, trivial⟩
   ·simp at h
theorem qHu {P : Program} {n t : Nat} (hu : P.underlying t = some .bool) : Tyd P (n + 1) t false x73 (fun _ => True) where
 ag := by simp [qEL, hu, q3l]
 form := fun _ x l h => by cases h
 form' := fun h => by cases h
 tyd := fun {H en w base sp held fuel cs d ps} h => by
  cases fuel with
  | zero => simp [DataW.trod] at h
  | succ fuel =>
   obtain ⟨m, rfl, hd⟩ := qEd hu h
   simp only at hd
   subst hd
   refine ⟨m, trivial, ?_⟩
   simp only [q1r, hu]
   exact ⟨CLe.refl _, trivial⟩
theorem qGn {P : Program} {n t : Nat} (hu : P.underlying t = some .string) : Tyd P (n + 1) t false q3M (fun s => s.size ≤ maxLen) where
 ag := by simp [qEL, hu, q3l]
 form := fun _ x l h => by cases h
 form' := fun h => by cases h
 tyd := fun {H en w base sp held fuel cs d ps} h => by
  cases fuel with
  | zero => simp [DataW.trod] at h
  | succ fuel =>
   obtain ⟨m, rfl, hd⟩ := qB9 hu h
   simp only at hd
   subst hd
   have hm : m.size ≤ maxLen := by
    unfold DataW.trod at h
    simp only [hu] at h
    split at h
    ·assumption
    ·simp at h
   refine ⟨m, hm, ?_⟩
   simp only [q1r, hu]
   exact ⟨CLe.refl _, trivial⟩
theorem qAx {α : Type} [Inhabited α] {p : Nat → α → Prop} : ∀ (n : Nat), (∀ i, i < n → ∃ x, p i x) → ∃ xs : List α, xs.length = n ∧ ∀ i (hi : i < xs.length), p i xs[i]
 | 0, _ => ⟨[], rfl, fun i hi => by simp at hi⟩
 | n + 1, h => by
  obtain ⟨xs, hl, hx⟩ := qAx n fun i hi => h i (by omega)
  obtain ⟨x, hp⟩ := h n (by omega)
  refine ⟨xs ++ [x], by simp [hl], fun i hi => ?_⟩
  rcases Nat.lt_or_ge i xs.length with h1 | h1
  ·rw [List.getElem_append_left h1]; exact hx i h1
  ·have : i = n := by simp at hi; omega
   subst this
   subst hl
   simpa using hp
theorem qA2 {α : Type} [Inhabited α] {P : Program} {n t e : Nat} {agg : Bool} {enc : α → V} {bd : α → Prop} (hu : P.underlying t = some (.slice e)) (hp : q60 P n e = true) (h : Tyd P n e agg enc bd) :
  Tyd P (n + 1) t false (q0H enc 1) (fun xs => xs.length ≤ maxLen ∧ ∀ x ∈ xs, bd x) where
 ag := by simp [qEL, hu, q3l]
 form := fun _ x l h => by cases h
 form' := fun h => by cases h
 tyd := fun {H en w base sp held fuel cs d ps} ht => by
  cases fuel with
  | zero => simp [DataW.trod] at ht
  | succ fuel =>
   rcases Go.Deep.open_slice hu ht with ⟨rfl, hx⟩ | ⟨a, len, cap, m, n', D, Pl, rfl, hb, hlc, hcm, hm, hx, hi⟩
   ·cases hx
    refine ⟨[], ⟨by simp, fun x hx => by simp at hx⟩, ?_⟩
    simp only [q1r, hu]
    exact ⟨⟨qRx _ _, q7k _ _⟩, trivial⟩
   ·cases hx
    have hle : len ≤ m := by rw [hm]; split <;> omega
    have key : ∀ i, i < len → ∃ x, bd x ∧ ELe (q8c (qEL P e) (q1r P n e (D i))) (enc x) := by
     intro i hi'
     obtain ⟨cs', _, htr⟩ := hi i (by omega)
     obtain ⟨x, hbx, hc⟩ := h.tyd htr
     refine ⟨x, hbx, qGJ.ele ?_⟩
     rw [qAQ fun ha => q4Q hp ha htr]
     exact hc
    obtain ⟨xs, hl, hxs⟩ := qAx len key
    refine ⟨xs, ⟨by omega, fun x hx => ?_⟩, ?_⟩
    ·obtain ⟨i, hi', rfl⟩ := List.getElem_of_mem hx
     exact (hxs i hi').1
    ·simp only [q1r, hu, List.length_map, List.length_range, q0H, V.cells]
     have hel : ∀ i, i < len → ELe (q8c (qEL P e) (q1r P n e (((List.range len).map D).getD i .nil))) (gL enc xs i) := by
      intro i hi'
      have e1 : ((List.range len).map D).getD i .nil = D i := by simp [List.getD, hi']
      rw [e1, qVA _ _ _ (by omega)]
      exact (hxs i (by omega)).2
     rw [hl]
     exact ⟨⟨qQF hel, qGB hel (Or.inl rfl)⟩, trivial⟩
structure qY2 {β : Type} (P : Program) (n : Nat) (fs : List Field) (cells : β → List V) (bd : β → Prop) : Prop where
 tyd : ∀ {H : Type} {en : TypeId × Value → H} {w : World} {base : Nat} {sp : Nat → Bool} {held : Bool} {fuel : Nat} {cs : List Value} {xs : List (DataW H × List MemPlace)},
  (fs.mapM fun f => DataW.trod en P w base sp held fuel f.type ((cs.drop f.offset).take (P.cellsOf f.type))) = some xs → ∃ x, bd x ∧ qGJ ((fs.zip (xs.map (·.1))).flatMap fun p => q1r P n p.1.type p.2) (cells x)
theorem q6o {P : Program} {n : Nat} : qY2 (β := Unit) P n [] (fun _ => []) (fun _ => True) where
 tyd := fun h => by
  simp at h
  subst h
  exact ⟨(), trivial, trivial⟩
theorem q1G {α β : Type} {P : Program} {n : Nat} {f : Field} {fs : List Field} {agg : Bool} {enc : α → V} {bd : α → Prop} {cells : β → List V} {bd' : β → Prop} (h : Tyd P n f.type agg enc bd) (h' : qY2 P n fs cells bd') :
  qY2 P n (f :: fs) (fun x : α × β => (enc x.1).cells ++ cells x.2) (fun x => bd x.1 ∧ bd' x.2) where
 tyd := fun {H en w base sp held fuel cs xs} hm => by
  rw [List.mapM_cons] at hm
  cases ha : DataW.trod en P w base sp held fuel f.type ((cs.drop f.offset).take (P.cellsOf f.type)) with
  | none => rw [ha] at hm; simp at hm
  | some y =>
   cases hr : (fs.mapM fun f => DataW.trod en P w base sp held fuel f.type ((cs.drop f.offset).take (P.cellsOf f.type))) with
   | none => rw [ha, hr] at hm; simp at hm
   | some ys =>
    rw [ha, hr] at hm
    simp at hm
    subst hm
    obtain ⟨x, hx, hc⟩ := h.tyd ha
    obtain ⟨x', hx', hc'⟩ := h'.tyd hr
    refine ⟨(x, x'), ⟨hx, hx'⟩, ?_⟩
    simp only [List.map_cons, List.zip_cons_cons, List.flatMap_cons]
    exact hc.append hc'
theorem q4Y {α β : Type} {P : Program} {n t : Nat} {fs : Array Field} {enc : α → V} {bd : α → Prop} {cells : β → List V} {bd' : β → Prop} (hu : P.underlying t = some (.struct fs)) (h : qY2 P n fs.toList cells bd') (mk : β → α)
  (he : ∀ y, enc (mk y) = .agg (cells y)) (hb : ∀ y, bd' y → bd (mk y)) (hf : ∀ x, ∃ l, enc x = .agg l) : Tyd P (n + 1) t true enc bd where
 ag := by simp [qEL, hu, q3l]
 form := fun h => by cases h
 form' := fun _ => hf
 tyd := fun {H en w base sp held fuel cs d ps} ht => by
  cases fuel with
  | zero => simp [DataW.trod] at ht
  | succ fuel =>
   obtain ⟨hl, xs, hd, hm⟩ := qAj hu ht
   simp only at hd
   subst hd
   obtain ⟨y, hy, hc⟩ := h.tyd hm
   refine ⟨mk y, hb y hy, ?_⟩
   simp only [q1r, hu, he]
   exact hc
theorem Tyd.arg {α : Type} {P : Program} {n t : Nat} {agg : Bool} {enc : α → V} {bd : α → Prop} (h : Tyd P n t agg enc bd) (hp : q60 P n t = true) {H : Type} {en : TypeId × Value → H} {w : World} {base : Nat} {sp : Nat → Bool} {held : Bool} {v : Value} {d : DataW H} {ps : List MemPlace}
  (ht : DataW.Trod en P w base sp held t v d ps) : ∃ x, bd x ∧ VLe (argD P n t d) (enc x) := by
 obtain ⟨fuel, ht⟩ := ht
 obtain ⟨x, hx, hc⟩ := h.tyd ht
 refine ⟨x, hx, ?_⟩
 unfold argD
 cases agg with
 | true =>
  obtain ⟨l, hl⟩ := h.form' rfl x
  rw [hl] at hc ⊢
  rw [h.ag]
  exact q4u hc.vles
 | false =>
  rw [h.ag]
  obtain ⟨c, hcc, _⟩ := q4Q hp h.ag ht
  have : (enc x).cells = [enc x] := by
   cases he : enc x <;> first | rfl | exact absurd he (h.form rfl x _)
  rw [hcc, this] at hc
  rw [hcc]
  exact hc.1.2
theorem qAt {P : Program} {w : World} {r : Reach} {base t : Nat} {v : Value} (h : Value.okWide P w r base t v) : (qEL P t = true → ∃ cs, v = .agg cs) ∧ (qEL P t = false → ∀ cs, v ≠ .agg cs) := by
 unfold Value.okWide at h
 unfold qEL
 cases hu : P.underlying t with
 | none =>
  rw [hu] at h
  refine ⟨fun h' => by simp at h', fun _ cs hv => ?_⟩
  subst hv
  simp [Cell.okWide, Cell.ok, hu] at h
 | some d =>
  rw [hu] at h
  cases d with
  | struct fs =>
   obtain ⟨cs, rfl, _⟩ := h
   exact ⟨fun _ => ⟨cs, rfl⟩, fun h' => by simp [q3l] at h'⟩
  | array n e =>
   obtain ⟨cs, rfl, _⟩ := h
   exact ⟨fun _ => ⟨cs, rfl⟩, fun h' => by simp [q3l] at h'⟩
  | _ =>
   refine ⟨fun h' => by simp [q3l] at h', fun _ cs hv => ?_⟩
   subst hv
   simp [Cell.okWide, Cell.ok, hu] at h
theorem law_arg {H : Type} {enc : TypeId × Value → H} {P : Program} {w : World} {base base' : Nat} {sp : Nat → Bool} {held : Bool} {t : Nat} (hp : q60 P 9 t = true) {r : Reach} {v : Value} {d : DataW H} {ps : List MemPlace}
  (hw : Value.okWide P w r base' t v) (h : DataW.Trod enc P w base sp held t v d ps) : q0X w (qJF w) (fun _ => none) (argD P 9 t d) v :=
 qTB hp h (qAt hw).1 (qAt hw).2
def x6u (Q : List V → Prop) : q0G := fun args bin => match bin with
 | [] => some (Q args, .bool true, [])
 | _ :: _ => none
theorem q07 {P : Program} : q0D P (lk ([] : List (Nat × (Fl × q0G)))) := fun f b S h => by simp [lk] at h
theorem q01 {P : Program} {f : Nat} {b : Fl} {S : q0G} {l : List (Nat × (Fl × q0G))} (h : qQ8 P b f S) (hl : q0D P (lk l)) : q0D P (lk ((f, (b, S)) :: l)) := fun f' b' S' h' => by
 simp only [lk] at h'
 split at h'
 ·rename_i hk
  have := q0j.1 hk
  subst this
  cases h'
  exact h
 ·exact hl f' b' S' h'
theorem q57 {α : Type} (dec : V → α) (n : Nat) (g : Nat → V) (t : Nat) : (q0M dec (.sl n g t)).length = n := by simp [q0M]
theorem qHh {α : Type} [Inhabited α] {dec : V → α} {enc : α → V} {sz n : Nat} {g : Nat → V} (h : ∀ i, i < n → ELe (g i) (gL enc (q0M dec (.sl n g 1)) i)) :
  BLe (.arr sz n g q0i) (.arr sz (q0M dec (.sl n g 1)).length (gL enc (q0M dec (.sl n g 1))) q0i) := by
 rw [q57]
 exact q1B h (Or.inl rfl)
structure q03 where
 path : ByteArray
 data : Int
 version : Int
 owner : Int
 next : Int
instance : Inhabited q03 := ⟨⟨ByteArray.empty, 0, 0, 0, 0⟩⟩
noncomputable instance : DecidableEq q03 := fun _ _ => Classical.propDecidable _
def q00 (t : Nat) (x : q03) : V := .agg [.str (x.path), .int .i64 (x.data), .int .i64 (x.version), .int .i64 (x.owner), .int .i64 (x.next)]
def q04 : V → q03
 | .agg [c0, c1, c2, c3, c4] => ⟨qNl c0, q24 c1, q24 c2, q24 c3, q24 c4⟩
 | _ => default
@[simp] theorem q11 (t : Nat) (x : q03) : q04 (q00 t x) = x := by
 simp only [q04, q00, q54, q47, q5B]
def q03.bd (x : q03) : Prop := (x.path.size ≤ maxLen)
theorem qHX {x y : q03} : x = y ↔ x.path = y.path ∧ x.data = y.data ∧ x.version = y.version ∧ x.owner = y.owner ∧ x.next = y.next := by
 cases x; cases y; simp
theorem qLo (t t' : Nat) (x : q03) : ELe (q00 t x) (q00 t' x) := qKN ⟨PLe.refl _, PLe.refl _, PLe.refl _, PLe.refl _, PLe.refl _, trivial⟩
structure q06 where
 id : Int
 upto : Int
instance : Inhabited q06 := ⟨⟨0, 0⟩⟩
noncomputable instance : DecidableEq q06 := fun _ _ => Classical.propDecidable _
def q02 (t : Nat) (x : q06) : V := .agg [.int .i64 (x.id), .int .i64 (x.upto)]
def q08 : V → q06
 | .agg [c0, c1] => ⟨q24 c0, q24 c1⟩
 | _ => default
@[simp] theorem q1h (t : Nat) (x : q06) : q08 (q02 t x) = x := by
 simp only [q08, q02, q54, q47, q5B]
theorem qBr {x y : q06} : x = y ↔ x.id = y.id ∧ x.upto = y.upto := by
 cases x; cases y; simp
theorem qGh (t t' : Nat) (x : q06) : ELe (q02 t x) (q02 t' x) := qKN ⟨PLe.refl _, PLe.refl _, trivial⟩
structure TOp where
 kind : Int
 path : ByteArray
 data : Int
 version : Int
 seq : Bool
 own : Bool
instance : Inhabited TOp := ⟨⟨0, ByteArray.empty, 0, 0, false, false⟩⟩
noncomputable instance : DecidableEq TOp := fun _ _ => Classical.propDecidable _
def q1E (t : Nat) (x : TOp) : V := .agg [.int .i64 (x.kind), .str (x.path), .int .i64 (x.data), .int .i64 (x.version), .bool (x.seq), .bool (x.own)]
def q17 : V → TOp
 | .agg [c0, c1, c2, c3, c4, c5] => ⟨q24 c0, qNl c1, q24 c2, q24 c3, qXt c4, qXt c5⟩
 | _ => default
@[simp] theorem q5K (t : Nat) (x : TOp) : q17 (q1E t x) = x := by
 simp only [q17, q1E, q54, q47, q5B]
def TOp.bd (x : TOp) : Prop := (x.path.size ≤ maxLen)
def q1U (t : Nat) (x : TOp) : V := .ptr (q1E t x).cells 0 t
def q1V : V → TOp
 | .ptr cs _ _ => q17 (.agg cs)
 | _ => default
@[simp] theorem qAa (t : Nat) (x : TOp) : q1V (q1U t x) = x := q5K t x
structure qDu where
 client : Int
 number : Int
 time : Int
 ops : List TOp
instance : Inhabited qDu := ⟨⟨0, 0, 0, []⟩⟩
noncomputable instance : DecidableEq qDu := fun _ _ => Classical.propDecidable _
def qDu.bd (x : qDu) : Prop := (x.ops.length ≤ maxLen ∧ ∀ y ∈ x.ops, y.bd)
structure q0W where
 code : Int
 value : Int
 path : ByteArray
instance : Inhabited q0W := ⟨⟨0, 0, ByteArray.empty⟩⟩
noncomputable instance : DecidableEq q0W := fun _ _ => Classical.propDecidable _
def q0S (t : Nat) (x : q0W) : V := .agg [.int .i64 (x.code), .int .i64 (x.value), .str (x.path)]
def q0h : V → q0W
 | .agg [c0, c1, c2] => ⟨q24 c0, q24 c1, qNl c2⟩
 | _ => default
@[simp] theorem q2u (t : Nat) (x : q0W) : q0h (q0S t x) = x := by
 simp only [q0h, q0S, q54, q47, q5B]
def q0W.bd (x : q0W) : Prop := (x.path.size ≤ maxLen)
theorem qI6 {x y : q0W} : x = y ↔ x.code = y.code ∧ x.value = y.value ∧ x.path = y.path := by
 cases x; cases y; simp
structure q0L where
 client : Int
 number : Int
 reply : q0W
instance : Inhabited q0L := ⟨⟨0, 0, default⟩⟩
noncomputable instance : DecidableEq q0L := fun _ _ => Classical.propDecidable _
def q0A (t : Nat) (x : q0L) : V := .agg [.int .i64 (x.client), .int .i64 (x.number), .int .i64 (x.reply.code), .int .i64 (x.reply.value), .str (x.reply.path)]
def q0K : V → q0L
 | .agg [c0, c1, c2, c3, c4] => ⟨q24 c0, q24 c1, ⟨q24 c2, q24 c3, qNl c4⟩⟩
 | _ => default
@[simp] theorem q1y (t : Nat) (x : q0L) : q0K (q0A t x) = x := by
 simp only [q0K, q0A, q54, q47, q5B]
def q0L.bd (x : q0L) : Prop := (x.reply.bd)
theorem qIj {x y : q0L} : x = y ↔ x.client = y.client ∧ x.number = y.number ∧ x.reply = y.reply := by
 cases x; cases y; simp
theorem qN2 (t t' : Nat) (x : q0L) : ELe (q0A t x) (q0A t' x) := qKN ⟨PLe.refl _, PLe.refl _, PLe.refl _, PLe.refl _, PLe.refl _, trivial⟩
structure q05 where
 nodes : List q03
 sessions : List q06
 now : Int
 marks : List q0L
instance : Inhabited q05 := ⟨⟨[], [], 0, []⟩⟩
noncomputable instance : DecidableEq q05 := fun _ _ => Classical.propDecidable _
def q0C (t : Nat) (x : q05) : V := .agg [q0H (q00 1) t (x.nodes), q0H (q02 1) t (x.sessions), .int .i64 (x.now), q0H (q0A 1) t (x.marks)]
def q0B : V → q05
 | .agg [c0, c1, c2, c3] => ⟨(q0M q04) c0, (q0M q08) c1, q24 c2, (q0M q0K) c3⟩
 | _ => default
@[simp] theorem q2D (t : Nat) (x : q05) : q0B (q0C t x) = x := by
 simp only [q0B, q0C, q54, q47, q5B, q1P (enc := (q02 1)) (dec := q08) (q1h 1), q1P (enc := (q0A 1)) (dec := q0K) (q1y 1), q1P (enc := (q00 1)) (dec := q04) (q11 1)]
def q05.bd (x : q05) : Prop := (x.nodes.length ≤ maxLen ∧ ∀ y ∈ x.nodes, y.bd) ∧ (x.sessions.length ≤ maxLen) ∧ (x.marks.length ≤ maxLen ∧ ∀ y ∈ x.marks, y.bd)
theorem qM7 {x y : q05} : x = y ↔ x.nodes = y.nodes ∧ x.sessions = y.sessions ∧ x.now = y.now ∧ x.marks = y.marks := by
 cases x; cases y; simp
def q0d (t : Nat) (x : q05) : V := .ptr (q0C t x).cells 0 t
def q0w : V → q05
 | .ptr cs _ _ => q0B (.agg cs)
 | _ => default
@[simp] theorem q40 (t : Nat) (x : q05) : q0w (q0d t x) = x := q2D t x
structure qND where
 client : Int
 path : ByteArray
instance : Inhabited qND := ⟨⟨0, ByteArray.empty⟩⟩
noncomputable instance : DecidableEq qND := fun _ _ => Classical.propDecidable _
def qND.bd (x : qND) : Prop := (x.path.size ≤ maxLen)
structure qEu where
 client : Int
 path : ByteArray
 kind : Int
instance : Inhabited qEu := ⟨⟨0, ByteArray.empty, 0⟩⟩
noncomputable instance : DecidableEq qEu := fun _ _ => Classical.propDecidable _
def qEu.bd (x : qEu) : Prop := (x.path.size ≤ maxLen)
structure q0q where
 code : Int
 text : ByteArray
instance : Inhabited q0q := ⟨⟨0, ByteArray.empty⟩⟩
noncomputable instance : DecidableEq q0q := fun _ _ => Classical.propDecidable _
def q5g (t : Nat) (x : q0q) : V := .agg [.int .i64 (x.code), .str (x.text)]
def q0q.bd (x : q0q) : Prop := (x.text.size ≤ maxLen)
structure q1O where
 code : Int
 texts : List ByteArray
instance : Inhabited q1O := ⟨⟨0, []⟩⟩
noncomputable instance : DecidableEq q1O := fun _ _ => Classical.propDecidable _
def q71 (t : Nat) (x : q1O) : V := .agg [.int .i64 (x.code), q0H q3M t (x.texts)]
def q1O.bd (x : q1O) : Prop := (x.texts.length ≤ maxLen ∧ ∀ y ∈ x.texts, y.size ≤ maxLen)
structure q0F where
 code : Int
 path : ByteArray
 nodes : List q03
instance : Inhabited q0F := ⟨⟨0, ByteArray.empty, []⟩⟩
noncomputable instance : DecidableEq q0F := fun _ _ => Classical.propDecidable _
def q1b (t : Nat) (x : q0F) : V := .agg [.int .i64 (x.code), .str (x.path), q0H (q00 1) t (x.nodes)]
def q0o : V → q0F
 | .agg [c0, c1, c2] => ⟨q24 c0, qNl c1, (q0M q04) c2⟩
 | _ => default
@[simp] theorem q7A (t : Nat) (x : q0F) : q0o (q1b t x) = x := by
 simp only [q0o, q1b, q54, q47, q5B, q1P (enc := (q00 1)) (dec := q04) (q11 1)]
def q0F.bd (x : q0F) : Prop := (x.path.size ≤ maxLen) ∧ (x.nodes.length ≤ maxLen ∧ ∀ y ∈ x.nodes, y.bd)
structure q0R where
 code : Int
 sessions : List q06
instance : Inhabited q0R := ⟨⟨0, []⟩⟩
noncomputable instance : DecidableEq q0R := fun _ _ => Classical.propDecidable _
def q0R.bd (x : q0R) : Prop := (x.sessions.length ≤ maxLen)
structure q5n where
 code : Int
 live : List q06
 over : List Int
instance : Inhabited q5n := ⟨⟨0, [], []⟩⟩
noncomputable instance : DecidableEq q5n := fun _ _ => Classical.propDecidable _
def q5n.bd (x : q5n) : Prop := (x.live.length ≤ maxLen) ∧ (x.over.length ≤ maxLen)
structure q0N where
 code : Int
 reply : q0W
 state : q05
instance : Inhabited q0N := ⟨⟨0, default, default⟩⟩
noncomputable instance : DecidableEq q0N := fun _ _ => Classical.propDecidable _
def q0b (t : Nat) (x : q0N) : V := .agg [.int .i64 (x.code), .int .i64 (x.reply.code), .int .i64 (x.reply.value), .str (x.reply.path), q0H (q00 1) t (x.state.nodes), q0H (q02 1) t (x.state.sessions), .int .i64 (x.state.now), q0H (q0A 1) t (x.state.marks)]
def q0P : V → q0N
 | .agg [c0, c1, c2, c3, c4, c5, c6, c7] => ⟨q24 c0, ⟨q24 c1, q24 c2, qNl c3⟩, ⟨(q0M q04) c4, (q0M q08) c5, q24 c6, (q0M q0K) c7⟩⟩
 | _ => default
@[simp] theorem q4y (t : Nat) (x : q0N) : q0P (q0b t x) = x := by
 simp only [q0P, q0b, q54, q47, q5B, q1P (enc := (q02 1)) (dec := q08) (q1h 1), q1P (enc := (q0A 1)) (dec := q0K) (q1y 1), q1P (enc := (q00 1)) (dec := q04) (q11 1)]
def q0N.bd (x : q0N) : Prop := (x.reply.bd) ∧ (x.state.bd)
theorem qBl {x y : q0N} : x = y ↔ x.code = y.code ∧ x.reply = y.reply ∧ x.state = y.state := by
 cases x; cases y; simp
structure q5e where
 code : Int
 reply : q0W
instance : Inhabited q5e := ⟨⟨0, default⟩⟩
noncomputable instance : DecidableEq q5e := fun _ _ => Classical.propDecidable _
def q5e.bd (x : q5e) : Prop := (x.reply.bd)
structure q5s where
 code : Int
 watches : List qND
 events : List qEu
instance : Inhabited q5s := ⟨⟨0, [], []⟩⟩
noncomputable instance : DecidableEq q5s := fun _ _ => Classical.propDecidable _
def q5s.bd (x : q5s) : Prop := (x.watches.length ≤ maxLen ∧ ∀ y ∈ x.watches, y.bd) ∧ (x.events.length ≤ maxLen ∧ ∀ y ∈ x.events, y.bd)
@[simp] theorem qEt (t : Nat) (xs : List Int) : q0M q24 (q0H q2l t xs) = xs := q1P qLi t xs
@[simp] theorem qXF (t : Nat) (xs : List ByteArray) : q0M qNl (q0H q3M t xs) = xs := q1P qMX t xs
@[simp] theorem q0s (t : Nat) (xs : List q03) : q0M q04 (q0H (q00 1) t xs) = xs := q1P (q11 1) t xs
@[simp] theorem q19 (t : Nat) (xs : List q06) : q0M q08 (q0H (q02 1) t xs) = xs := q1P (q1h 1) t xs
@[simp] theorem qXo (t : Nat) (xs : List TOp) : q0M q17 (q0H (q1E 1) t xs) = xs := q1P (q5K 1) t xs
@[simp] theorem qTi (t : Nat) (xs : List q0W) : q0M q0h (q0H (q0S 1) t xs) = xs := q1P (q2u 1) t xs
@[simp] theorem q4d (t : Nat) (xs : List q0L) : q0M q0K (q0H (q0A 1) t xs) = xs := q1P (q1y 1) t xs
@[simp] theorem qQf (t : Nat) (xs : List q05) : q0M q0B (q0H (q0C 1) t xs) = xs := q1P (q2D 1) t xs
@[simp] theorem qQB (t : Nat) (xs : List q0F) : q0M q0o (q0H (q1b 1) t xs) = xs := q1P (q7A 1) t xs
@[simp] theorem qK5 (t : Nat) (xs : List q0N) : q0M q0P (q0H (q0b 1) t xs) = xs := q1P (q4y 1) t xs
open Go.Proofs
noncomputable def tt : TT := qFd Tryz.prog (List.range 344)
theorem htt : q31 Tryz.prog tt := qPN _ _
theorem q1C : Tryz.prog.follows .mixedOrders = true := by kernel_rfl
theorem q0U {n : Int} (h : -9223372036854775808 ≤ n ∧ n ≤ 9223372036854775807) : inK .i64 n := Go.IntWalk.i64_in _ (by omega)
theorem okB {fn : Func} {pol : Nat} {args args' : List V} {r : V} {cx : Cx} (hb : q0f cx fn pol args' fun r' => VLe r' r) (hD : q0D Tryz.prog cx.D) (hle : q4E args args')
  (h3 : Nat.ble args.length fn.ntmps = true := by kernel_rfl) (h4 : cx.tt = tt := by kernel_rfl) (h5 : cx.M = noM := by kernel_rfl) (h6 : cx.nt = fn.ntmps := by kernel_rfl) :
  ([] : List Blk) = [] ∧ ([] : List Blk) = [] ∧ args.length ≤ fn.ntmps ∧ ∃ cx : Cx, q31 Tryz.prog cx.tt ∧ q0D Tryz.prog cx.D ∧ q3a Tryz.prog cx.M ∧ cx.nt = fn.ntmps ∧ ∃ args', q4E args args' ∧ q0f cx fn pol args' (fun r' => VLe r' r) :=
 ⟨rfl, rfl, Nat.le_of_ble_eq_true h3, cx, h4 ▸ htt, hD, h5 ▸ q2K, h6, args', hle, hb⟩
theorem okQ {fn : Func} {tpl : List (Nat × Nat)} {args args' : List V} {bin bin' bout : List Blk} {r : V} {cx : Cx} (hb : q3H cx fn tpl args' bin' fun r' bs => VLe r' r ∧ q1d bs bout) (hD : q0D Tryz.prog cx.D) (hle : q4E args args') (hbin : q1d bin bin')
  (h3 : Nat.ble args.length fn.ntmps = true := by kernel_rfl) (h4 : cx.tt = tt := by kernel_rfl) (h5 : cx.M = noM := by kernel_rfl) (h6 : cx.nt = fn.ntmps := by kernel_rfl) :
  args.length ≤ fn.ntmps ∧ ∃ cx : Cx, q31 Tryz.prog cx.tt ∧ q0D Tryz.prog cx.D ∧ q3a Tryz.prog cx.M ∧ cx.nt = fn.ntmps ∧ ∃ args' bin', q4E args args' ∧ q1d bin bin' ∧ q3H cx fn tpl args' bin' (fun r' bs => VLe r' r ∧ q1d bs bout) :=
 ⟨Nat.le_of_ble_eq_true h3, cx, h4 ▸ htt, hD, h5 ▸ q2K, h6, args', bin', hle, hbin, hb⟩
def inR (n lo hi : Int) : Prop := lo ≤ n ∧ n ≤ hi
instance (n lo hi : Int) : Decidable (inR n lo hi) := inferInstanceAs (Decidable (_ ∧ _))
def ba (l : List UInt8) : ByteArray := ⟨l.toArray⟩
@[simp] theorem q6A (l : List UInt8) : (ba l).data.toList = l := by simp [ba]
@[simp] theorem qMo (s : ByteArray) : ba s.data.toList = s := by cases s; simp [ba]
theorem q3f {a b : ByteArray} (h : a.data.toList = b.data.toList) : a = b := by rw [← qMo a, ← qMo b, h]
theorem q2W (s : ByteArray) : s.size = s.data.toList.length := by cases s; rfl
theorem qDo (l : List UInt8) : (ba l).size = l.length := by rw [q2W, q6A]
theorem q16 (a b : ByteArray) : q1R a b = decide (a = b) := by
 unfold q1R
 rw [Lib.toList_data, Lib.toList_data, Bool.eq_iff_iff, decide_eq_true_eq, beq_iff_eq]
 exact ⟨q3f, fun h => by rw [h]⟩
theorem qFg : ∀ x y : List UInt8, Op.bytesLess x y = decide (x < y)
 | [], [] => by simp [Op.bytesLess]
 | _ :: _, [] => by simp [Op.bytesLess]
 | [], _ :: _ => by simp [Op.bytesLess]
 | a :: x, b :: y => by
  rw [Op.bytesLess, qFg x y, Bool.eq_iff_iff, decide_eq_true_eq, List.cons_lt_cons_iff]
  simp
def lt (a b : ByteArray) : Prop := a.data.toList < b.data.toList
noncomputable instance (a b : ByteArray) : Decidable (lt a b) := Classical.propDecidable _
theorem qBO (a b : ByteArray) : qDx a b = decide (lt a b) := by
 unfold qDx
 rw [Lib.toList_data, Lib.toList_data, qFg, Bool.eq_iff_iff, decide_eq_true_eq, decide_eq_true_eq]
 exact Iff.rfl
theorem lt_irrefl (a : ByteArray) : ¬ lt a a := List.lt_irrefl _
theorem lt_trans {a b c : ByteArray} (h : lt a b) (g : lt b c) : lt a c := List.lt_trans h g
theorem qHc {a b : ByteArray} (h : lt a b) : ¬ lt b a := fun g => lt_irrefl a (lt_trans h g)
theorem qI3 {a b : ByteArray} (h : ¬ lt a b) (g : ¬ lt b a) : a = b := q3f (List.le_antisymm (List.not_lt.1 g) (List.not_lt.1 h))
theorem qPr : ∀ a b : List UInt8, Lib.compareBytes a b < 0 ↔ a < b
 | [], [] => by simp [Lib.compareBytes]
 | [], _ :: _ => by simp [Lib.compareBytes]
 | _ :: _, [] => by simp [Lib.compareBytes]
 | a :: x, b :: y => by
  unfold Lib.compareBytes
  rw [List.cons_lt_cons_iff]
  by_cases h1 : a < b
  ·simp [h1]
  ·by_cases h2 : b < a
   ·have : a ≠ b := fun e => by subst e; exact h1 h2
    simp [h1, h2, this]
   ·have : a = b := UInt8.le_antisymm (UInt8.not_lt.1 h2) (UInt8.not_lt.1 h1)
    simp [h1, h2, this, qPr x y]
theorem qLW : ∀ a b : List UInt8, Lib.compareBytes a b = 0 ↔ a = b
 | [], [] => by simp [Lib.compareBytes]
 | [], _ :: _ => by simp [Lib.compareBytes]
 | _ :: _, [] => by simp [Lib.compareBytes]
 | a :: x, b :: y => by
  unfold Lib.compareBytes
  by_cases h1 : a < b
  ·have : a ≠ b := fun e => by subst e; exact UInt8.lt_irrefl a h1
   simp [h1, this]
  ·by_cases h2 : b < a
   ·have : a ≠ b := fun e => by subst e; exact h1 h2
    simp [h1, h2, this]
   ·have : a = b := UInt8.le_antisymm (UInt8.not_lt.1 h2) (UInt8.not_lt.1 h1)
    simp [h1, h2, this, qLW x y]
def qJ0 (a b : ByteArray) : Int := Lib.compareBytes a.data.toList b.data.toList
theorem qL6 (a b : ByteArray) : qJ0 a b < 0 ↔ lt a b := qPr _ _
theorem qRr (a b : ByteArray) : qJ0 a b = 0 ↔ a = b := (qLW _ _).trans ⟨q3f, fun h => by rw [h]⟩
theorem q3L (s : ByteArray) (a b : Nat) : (s.extract a b).data.toList = (s.data.toList.drop a).take (b - a) := by
 rw [ByteArray.data_extract]
 simp [List.extract]
theorem q7M (s : ByteArray) (i : Nat) (h : i < s.size) : q0c s i = ((s.data.toList[i]'(by rw [← q2W]; exact h)).toNat : Int) := by
 unfold q0c
 have h' : i < s.data.size := h
 have e : s.data.getD (i : Int).toNat 0 = s.data[i] := by
  rw [Int.toNat_natCast, Array.getD_eq_getD_getElem?, Array.getElem?_eq_getElem h', Option.getD_some]
 rw [e]
 simp
theorem q7t {s : ByteArray} {i : Nat} (h : i < s.size) (c : UInt8) : q0c s i = (c.toNat : Int) ↔ s.data.toList[i]'(by rw [← q2W]; exact h) = c := by
 rw [q7M s i h]
 constructor
 ·intro e; exact UInt8.toNat_inj.1 (by omega)
 ·intro e; rw [e]
def q9d (c : UInt8) : List UInt8 → List (List UInt8)
 | [] => [[]]
 | x :: r => if x = c then [] :: q9d c r else match q9d c r with
  | p :: q => (x :: p) :: q
  | [] => [[x]]
theorem qH1 (c : UInt8) : ∀ l, q9d c l ≠ []
 | [] => by simp [q9d]
 | x :: r => by
  unfold q9d
  split
  ·simp
  ·split <;> simp
theorem qDO {c : UInt8} : ∀ {p r : List UInt8}, c ∉ p → q9d c (p ++ c :: r) = p :: q9d c r
 | [], r, _ => by simp [q9d]
 | x :: p, r, h => by
  have h1 : x ≠ c := fun e => h (by simp [e])
  have h2 : c ∉ p := fun e => h (by simp [e])
  rw [List.cons_append, q9d, if_neg h1, qDO h2]
theorem qAu {c : UInt8} : ∀ {p : List UInt8}, c ∉ p → q9d c p = [p]
 | [], _ => by simp [q9d]
 | x :: p, h => by
  have h1 : x ≠ c := fun e => h (by simp [e])
  have h2 : c ∉ p := fun e => h (by simp [e])
  rw [q9d, if_neg h1, qAu h2]
theorem qIi (c : UInt8) : ∀ l, (q9d c l).length = l.count c + 1
 | [] => by simp [q9d]
 | x :: r => by
  have ih := qIi c r
  unfold q9d
  by_cases h : x = c
  ·subst h
   rw [if_pos rfl, List.count_cons_self, List.length_cons, ih]
  ·rw [if_neg h, List.count_cons_of_ne (by simpa using h)]
   split
   ·rename_i p q e; rw [e] at ih; simpa using ih
   ·rename_i e; exact absurd e (qH1 c r)
theorem qPi (c : UInt8) : ∀ l : List UInt8, (c ∉ l ∧ Lib.indexByte l c = -1) ∨ ∃ p r, l = p ++ c :: r ∧ c ∉ p ∧ Lib.indexByte l c = (p.length : Int)
 | [] => .inl ⟨by simp, rfl⟩
 | x :: l => by
  unfold Lib.indexByte
  by_cases h : x = c
  ·subst h
   exact .inr ⟨[], l, rfl, by simp, by simp⟩
  ·have hb : (x == c) = false := by simpa using h
   rcases qPi c l with ⟨h1, h2⟩ | ⟨p, r, h1, h2, h3⟩
   ·refine .inl ⟨by simp [h1, Ne.symm h], ?_⟩
    simp [hb, h2]
   ·refine .inr ⟨x :: p, r, by rw [h1]; rfl, by simp [h2, Ne.symm h], ?_⟩
    have : ((p.length : Int) == -1) = false := by rw [beq_eq_false_iff_ne]; omega
    rw [h3]
    simp [hb, this]
noncomputable def cnt (s : ByteArray) : Nat := s.data.toList.count 47
def q1i (s : ByteArray) : List ByteArray := (q9d 47 s.data.toList).map ba
theorem q9v (s : ByteArray) : (q1i s).length = cnt s + 1 := by rw [q1i, List.length_map, qIi, cnt]
theorem qOc {s : ByteArray} {p r : List UInt8} (h : s.data.toList = p ++ 47 :: r) (hp : 47 ∉ p) : q1i s = ba p :: q1i (ba r) := by
 unfold q1i
 rw [h, qDO hp, List.map_cons, q6A]
theorem qL3 {s : ByteArray} (h : 47 ∉ s.data.toList) : q1i s = [s] := by
 unfold q1i
 rw [qAu h]
 simp
theorem qMG (c : UInt8) : ∀ (l : List UInt8), ∀ p ∈ q9d c l, p.length ≤ l.length
 | [], p, h => by simp [q9d] at h; simp [h]
 | x :: r, p, h => by
  have ih := qMG c r
  unfold q9d at h
  split at h
  ·rcases List.mem_cons.1 h with h | h
   ·simp [h]
   ·have := ih p h; simp; omega
  ·split at h
   ·rename_i q t e
    rcases List.mem_cons.1 h with h | h
    ·have := ih q (by rw [e]; simp)
     rw [h]; simp; omega
    ·have := ih p (by rw [e]; simp [h])
     simp; omega
   ·simp at h; simp [h]
theorem qNf {s p : ByteArray} (h : p ∈ q1i s) : p.size ≤ s.size := by
 unfold q1i at h
 obtain ⟨l, h1, rfl⟩ := List.mem_map.1 h
 rw [qDo, q2W]
 exact qMG _ _ _ h1
theorem qDU {α : Type} (x : α) : ∀ (a : List α) (i : Nat), i < a.length → (a.set i x).take (i + 1) = a.take i ++ [x]
 | [], _, h => by simp at h
 | y :: r, 0, _ => by simp
 | y :: r, i + 1, h => by
  have := qDU x r i (by simpa using h)
  simp [this]
theorem qIz {l : List UInt8} {f i : Nat} (h : f ≤ i) (hi : i < l.length) : l.drop f = (l.drop f).take (i - f) ++ l[i] :: l.drop (i + 1) := by
 have h1 := (List.take_append_drop (i - f) (l.drop f)).symm
 rw [List.drop_drop, show f + (i - f) = i by omega, List.drop_eq_getElem_cons hi] at h1
 exact h1
def qNk (s : ByteArray) (f i : Nat) (out : List ByteArray) : Prop :=
 i ≤ s.size + 1 ∧ out.length ≤ i ∧ (i ≤ s.size → f ≤ i ∧ 47 ∉ (s.data.toList.drop f).take (i - f) ∧ out ++ (q9d 47 (s.data.toList.drop f)).map ba = q1i s) ∧ (i = s.size + 1 → out = q1i s)
theorem qPC {s : ByteArray} {f i : Nat} {out : List ByteArray} (h : qNk s f i out) (hi : i ≤ s.size) (hb : i = s.size ∨ q0c s i = 47) : qNk s (i + 1) (i + 1) (out ++ [s.extract f i]) := by
 obtain ⟨h1, h2, h3, h4⟩ := h
 obtain ⟨g1, g2, g3⟩ := h3 hi
 have hl := q2W s
 refine ⟨by omega, by simp; omega, fun h => ⟨Nat.le_refl _, by simp, ?_⟩, fun h => ?_⟩
 ·have hlt : i < s.data.toList.length := by omega
  have hc : s.data.toList[i] = 47 := by
   rcases hb with hb | hb
   ·omega
   ·exact (q7t (by omega) 47).1 hb
  have e := qIz g1 hlt
  rw [hc] at e
  rw [← g3, e, qDO g2, List.append_assoc, List.map_cons, List.singleton_append]
  congr 2
  exact q3f (by rw [q3L, q6A])
 ·have hi' : i = s.size := by omega
  have ht : (s.data.toList.drop f).take (i - f) = s.data.toList.drop f := List.take_of_length_le (by rw [List.length_drop]; omega)
  rw [ht] at g2
  rw [← g3, qAu g2]
  simp only [List.map_cons, List.map_nil]
  congr 2
  exact q3f (by rw [q3L, q6A, ht])
theorem qT7 {s : ByteArray} {f i : Nat} {out : List ByteArray} (h : qNk s f i out) (hi : i < s.size) (hb : q0c s i ≠ 47) : qNk s f (i + 1) out := by
 obtain ⟨h1, h2, h3, h4⟩ := h
 obtain ⟨g1, g2, g3⟩ := h3 (by omega)
 have hl := q2W s
 refine ⟨by omega, by omega, fun h => ⟨by omega, ?_, g3⟩, fun h => by omega⟩
 have hlt : i < s.data.toList.length := by omega
 have hc : s.data.toList[i] ≠ 47 := fun e => hb ((q7t (by omega) 47).2 e)
 have e : (s.data.toList.drop f).take (i + 1 - f) = (s.data.toList.drop f).take (i - f) ++ [s.data.toList[i]] := by
  rw [show i + 1 - f = (i - f) + 1 by omega]
  have hk : i - f < (s.data.toList.drop f).length := by rw [List.length_drop]; omega
  rw [List.take_succ_eq_append_getElem hk, List.getElem_drop]
  congr 3
  omega
 rw [e]
 intro hm
 rcases List.mem_append.1 hm with hm | hm
 ·exact g2 hm
 ·exact hc (by simp at hm; exact hm.symm)
theorem qJd (s : ByteArray) : qNk s 0 0 [] := ⟨by omega, by simp, fun _ => ⟨by omega, by simp, by simp [q1i]⟩, fun h => by omega⟩
def qId (c : Int) : Prop := ¬ ((c < 97 ∨ 122 < c) ∧ (c < 48 ∨ 57 < c))
noncomputable instance (c : Int) : Decidable (qId c) := Classical.propDecidable _
def q4C (s : ByteArray) : Prop := (∀ i : Nat, i < s.size → qId (q0c s i)) ∧ 1 ≤ s.size ∧ s.size ≤ 8
noncomputable instance (s : ByteArray) : Decidable (q4C s) := Classical.propDecidable _
abbrev q1Q : ByteArray := ⟨#[]⟩
abbrev top : ByteArray := ⟨#[47]⟩
def q56 (s : ByteArray) : Prop := 2 ≤ (q1i s).length ∧ (q1i s).getD 0 default = q1Q ∧ ∀ p ∈ (q1i s).tail, q4C p
noncomputable instance (s : ByteArray) : Decidable (q56 s) := Classical.propDecidable _
noncomputable def q10 (s : ByteArray) : Int := if 24 < s.size ∨ 4 < cnt s then 2 else if s = top ∨ q56 s then 0 else 5
noncomputable def qCd (s : ByteArray) : List ByteArray := if s = top ∨ ¬ q56 s then [] else (q1i s).tail
def q73 (s : ByteArray) : Prop := ∃ r, s.data.toList = 47 :: r
theorem q3p {s : ByteArray} (h : q10 s = 0) : q73 s := by
 unfold q10 at h
 split at h
 ·cases h
 split at h
 ·rename_i h1
  rcases h1 with h1 | h1
  ·exact ⟨[], by rw [h1]⟩
  ·obtain ⟨h2, h3, _⟩ := h1
   cases hl : s.data.toList with
   | nil => rw [q9v, cnt, hl] at h2; simp at h2
   | cons x r =>
    by_cases hx : x = 47
    ·exact ⟨r, by rw [hl, hx]⟩
    ·exfalso
     unfold q1i at h3
     rw [hl, q9d, if_neg hx] at h3
     cases hc : q9d 47 r with
     | nil => exact qH1 _ _ hc
     | cons p q =>
      rw [hc] at h3
      have := congrArg ByteArray.size h3
      rw [List.map_cons, List.getD_cons_zero, qDo] at this
      exact absurd (show p.length + 1 = 0 from this) (by omega)
 ·cases h
theorem q6g {s : ByteArray} (h : q10 s = 0) : s.size ≤ 24 := by
 unfold q10 at h
 split at h
 ·cases h
 ·omega
theorem q4b {s : ByteArray} (h : q73 s) : 0 < s.size ∧ q0c s 0 = 47 := by
 obtain ⟨r, h⟩ := h
 have h1 : 0 < s.size := by rw [q2W, h]; simp
 refine ⟨h1, ?_⟩
 have := (q7t h1 47).2 (by simp [h])
 simpa using this
theorem qV2 {s : ByteArray} (h : q73 s) : ¬ lt s top := by
 obtain ⟨r, h⟩ := h
 unfold lt
 rw [h]
 simp
def q2a (s : ByteArray) : Nat → Nat
 | 0 => 0
 | i + 1 => if q0c s i = 47 then i else q2a s i
theorem q86 (s : ByteArray) : ∀ i, q2a s i ≤ i
 | 0 => Nat.le_refl _
 | i + 1 => by
  have := q86 s i
  unfold q2a
  split <;> omega
abbrev q1S (s : ByteArray) : Nat := q2a s s.size
theorem q6O {s : ByteArray} : ∀ n, 0 < n → q2a s n < n
 | 0, h => by omega
 | n + 1, _ => by
  unfold q2a
  split
  ·omega
  ·have := q86 s n; omega
def upF (s : ByteArray) : ByteArray := if q1S s = 0 then top else s.extract 0 (q1S s)
def q35 (s : ByteArray) : ByteArray := s.extract (q1S s + 1) s.size
theorem x1x {s : ByteArray} (h : q73 s) : s.extract 0 (max (q1S s) 1) = upF s := by
 unfold upF
 split
 ·rename_i h0
  rw [h0]
  apply q3f
  obtain ⟨r, h⟩ := h
  rw [q3L, h]
  simp
 ·rename_i h0
  congr 1
  omega
theorem q6Y (s : ByteArray) (a b : Nat) (h : a ≤ b) (hb : b ≤ s.size) : (s.extract a b).size = b - a := by
 rw [q2W, q3L, List.length_take, List.length_drop, ← q2W]; omega
set_option maxRecDepth 100000
set_option maxHeartbeats 4000000
noncomputable def qVK : q0G := qMI
theorem qYd : q0T Tryz.prog 269 qVK := qGs Tryz.func269 (by kernel_rfl) (by kernel_rfl) (by kernel_rfl) (by kernel_rfl)
noncomputable def qRm : q0G := q8Z
theorem qXj : q0T Tryz.prog 291 qRm := qBQ Tryz.func291 (by kernel_rfl) (by kernel_rfl) (by kernel_rfl) (by kernel_rfl)
noncomputable def qXb : q0G := qED
theorem x5i : q0T Tryz.prog 296 qXb := qDY Tryz.func296 (by kernel_rfl) (by kernel_rfl) (by kernel_rfl) (by kernel_rfl)
noncomputable def qC6 (s : ByteArray) : Int := Lib.indexByte s.data.toList 47
theorem qE0 : top.size = 1 := rfl
theorem qNO : q0c top 0 = 47 := rfl
theorem b47 : (Int.toNat 47).toUInt8 = 47 := rfl
def qJc (s : ByteArray) (sub : ByteArray) : Prop := sub = top ∧ s.size ≤ 1000
noncomputable def qVH (s : ByteArray) (sub : ByteArray) : V := .int .i64 (cnt s)
noncomputable def qO0 : q0G := fun args bin => match args, bin with
 | [.str a0, .str a1], [] => some (qJc a0 a1, qVH a0 a1, [])
 | _, _ => none
noncomputable def x7N : Nat → Option (Fl × q0G) := lk [(269, (.ro, qVK))]
theorem qZ9 : q0D Tryz.prog x7N := q01 qYd (q07)
noncomputable def x5T (s : ByteArray) (sub : ByteArray) : Cx := ⟨tt, x7N, Tryz.f232.ntmps, [0, 1, 4, 5, 6, 9, 15, 24], [], [2, 5], fun _ => none, [], noM, []⟩
theorem x2Q (s : ByteArray) (sub : ByteArray) (hpre : qJc s sub) : q0f (x5T s sub) Tryz.f232 0 [.str (s), .str (sub)] (fun rr => VLe rr (qVH s sub)) := by
 have key : (((((↑(ByteArray.size sub) : Int) == (0 : Int)) = true) → (False)) ∧ ((((↑(ByteArray.size sub) : Int) == (0 : Int)) = false) → (((((↑(ByteArray.size sub) : Int) == (1 : Int)) = true) → ((((0 : Int) ≤ (0 : Int)) ∧ ((0 : Int) < (↑(ByteArray.size sub) : Int))) ∧ ((True) ∧ (VLe (vi (↑(Lib.countByte (Array.toList (ByteArray.data s)) (Nat.toUInt8 (Int.toNat (q0c sub (0 : Int))))) : Int)) (vi (↑(cnt s) : Int)))))) ∧ ((((↑(ByteArray.size sub) : Int) == (1 : Int)) = false) → (False))))) := by
  delta vi
  obtain ⟨rfl, hs⟩ := hpre
  simp only [qE0, qNO, b47]
  exact ⟨fun h => by simp at h, fun h => ⟨fun h => ⟨by simp, trivial, VLe.refl _⟩, fun h => by simp at h⟩⟩
 exact Eq.mp (by kernel_rfl) key
theorem qXZ : q0T Tryz.prog 232 qO0 := by
 refine q09 q1C (pol := 0) Tryz.func232 rfl (by kernel_rfl) fun args bin ob r bout hDe hob => ?_
 unfold qO0 at hDe
 split at hDe
 ·rename_i a0 a1
  cases hDe
  exact okB (x2Q a0 a1 (hob)) qZ9 (args_of_vles ⟨VLe.refl _, VLe.refl _, trivial⟩)
 ·cases hDe
def qPL (s : ByteArray) (c : Int) : Prop := c = 47
noncomputable def qX8 (s : ByteArray) (c : Int) : V := .int .i64 (qC6 s)
noncomputable def qQp : q0G := fun args bin => match args, bin with
 | [.str a0, .int .u8 a1], [] => some (qPL a0 a1, qX8 a0 a1, [])
 | _, _ => none
noncomputable def x7M : Nat → Option (Fl × q0G) := lk [(291, (.ro, qRm))]
theorem x0R : q0D Tryz.prog x7M := q01 qXj (q07)
noncomputable def x5o (s : ByteArray) (c : Int) : Cx := ⟨tt, x7M, Tryz.f282.ntmps, [0, 1, 4], [], [], fun _ => none, [], noM, []⟩
theorem qZn (s : ByteArray) (c : Int) (hpre : qPL s c) : q0f (x5o s c) Tryz.f282 0 [.str (s), .int .u8 (c)] (fun rr => VLe rr (qX8 s c)) := by
 have key : ((True) ∧ (VLe (vi (Lib.indexByte (Array.toList (ByteArray.data s)) (Nat.toUInt8 (Int.toNat c)))) (vi (qC6 s)))) := by
  delta vi
  subst hpre
  exact ⟨trivial, VLe.refl _⟩
 exact Eq.mp (by kernel_rfl) key
theorem x3q : q0T Tryz.prog 282 qQp := by
 refine q09 q1C (pol := 0) Tryz.func282 rfl (by kernel_rfl) fun args bin ob r bout hDe hob => ?_
 unfold qQp at hDe
 split at hDe
 ·rename_i a0 a1
  cases hDe
  exact okB (qZn a0 a1 (hob)) x0R (args_of_vles ⟨VLe.refl _, VLe.refl _, trivial⟩)
 ·cases hDe
def qTC (s : ByteArray) (sub : ByteArray) : Prop := sub = top
noncomputable def qVM (s : ByteArray) (sub : ByteArray) : V := .int .i64 (qC6 s)
noncomputable def qQi : q0G := fun args bin => match args, bin with
 | [.str a0, .str a1], [] => some (qTC a0 a1, qVM a0 a1, [])
 | _, _ => none
noncomputable def x6K : Nat → Option (Fl × q0G) := lk [(282, (.ro, qQp))]
theorem x04 : q0D Tryz.prog x6K := q01 x3q (q07)
noncomputable def x1d (s : ByteArray) (sub : ByteArray) : Cx := ⟨tt, x6K, Tryz.f267.ntmps, [0, 1, 4, 5, 6, 7, 8, 9, 10, 11, 12, 13, 16, 24, 31, 36, 59, 64, 73, 93, 107, 114, 132, 139], [], [6], fun _ => none, [], noM, []⟩
noncomputable def q89 (sub : ByteArray) : Int := (↑(ByteArray.size sub) : Int)
theorem x3J (s : ByteArray) (sub : ByteArray) (hpre : qTC s sub) : q0f (x1d s sub) Tryz.f267 0 [.str (s), .str (sub)] (fun rr => VLe rr (qVM s sub)) := by
 have key : ((tq (!(q89 sub) == (0 : Int))) ∧ ((tq (!(q89 sub) == (0 : Int))) ∧ (((true = true) → ((((q89 sub) == (0 : Int)) = false) → ((!(q89 sub) == (0 : Int)) = true))) ∧ (∀ b : Bool, ((b = bif (q89 sub) == (0 : Int) then true else q1R sub s) → (((b = true) → (VLe (vi 0) (vi (qC6 s)))) ∧ ((b = false) → (((((q89 sub) == (1 : Int)) = true) → ((((0 : Int) ≤ (0 : Int)) ∧ ((0 : Int) < (q89 sub))) ∧ ((qPL s (q0c sub (0 : Int))) ∧ (VLe (vi (qC6 s)) (vi (qC6 s)))))) ∧ ((((q89 sub) == (1 : Int)) = false) → (False)))))))))) := by
  delta q89; delta vi
  subst hpre
  simp only [qE0, qNO]
  repeat (first | (refine And.intro (fun h _ => h) ?_) | (refine And.intro (fun _ h => h) ?_) | (refine And.intro ?aa ?_; case aa => (exact trivial)) | (refine And.intro ?aa ?_; case aa => (intros; simp_all [qPL]; done)) | (refine And.intro ?aa ?_; case aa => (intros; exact q0U (by omega))) | (refine And.intro ?aa ?_; case aa => (intros; simp only [decide_eq_true_eq] at *; omega)) | (intro q hq))
  refine ⟨fun h => ?_, fun h => ⟨fun h => ⟨by simp, rfl, VLe.refl _⟩, fun h => by simp at h⟩⟩
  rw [hq] at h
  simp [q16] at h
  refine q0J ?_
  rw [← h]
  rfl
 exact Eq.mp (by kernel_rfl) key
theorem x3e : q0T Tryz.prog 267 qQi := by
 refine q09 q1C (pol := 0) Tryz.func267 rfl (by kernel_rfl) fun args bin ob r bout hDe hob => ?_
 unfold qQi at hDe
 split at hDe
 ·rename_i a0 a1
  cases hDe
  exact okB (x3J a0 a1 (hob)) x04 (args_of_vles ⟨VLe.refl _, VLe.refl _, trivial⟩)
 ·cases hDe
def qTJ (s : ByteArray) (sub : ByteArray) : Prop := sub = top
noncomputable def qVD (s : ByteArray) (sub : ByteArray) : V := .int .i64 (qC6 s)
noncomputable def qSD : q0G := fun args bin => match args, bin with
 | [.str a0, .str a1], [] => some (qTJ a0 a1, qVD a0 a1, [])
 | _, _ => none
noncomputable def x60 : Nat → Option (Fl × q0G) := lk [(267, (.ro, qQi))]
theorem x3z : q0D Tryz.prog x60 := q01 x3e (q07)
noncomputable def qZY (s : ByteArray) (sub : ByteArray) : Cx := ⟨tt, x60, Tryz.f231.ntmps, [0, 1, 4], [], [], fun _ => none, [], noM, []⟩
theorem x5O (s : ByteArray) (sub : ByteArray) (hpre : qTJ s sub) : q0f (qZY s sub) Tryz.f231 0 [.str (s), .str (sub)] (fun rr => VLe rr (qVD s sub)) := by
 have key : ((qTC s sub) ∧ (VLe (vi (qC6 s)) (vi (qC6 s)))) := by
  delta vi
  exact ⟨hpre, VLe.refl _⟩
 exact Eq.mp (by kernel_rfl) key
theorem qYt : q0T Tryz.prog 231 qSD := by
 refine q09 q1C (pol := 0) Tryz.func231 rfl (by kernel_rfl) fun args bin ob r bout hDe hob => ?_
 unfold qSD at hDe
 split at hDe
 ·rename_i a0 a1
  cases hDe
  exact okB (x5O a0 a1 (hob)) x3z (args_of_vles ⟨VLe.refl _, VLe.refl _, trivial⟩)
 ·cases hDe
theorem qQH {l : List ByteArray} {i : Nat} {x : ByteArray} (hi : i < l.length) : q5d (gL q3M l) i (.str x) = gL q3M (l.set i x) := by
 funext k
 simp only [q2G, gL]
 by_cases e : k = i
 ·subst e; rw [if_pos rfl, q2S _ _ _ _ hi]; rfl
 ·rw [if_neg e, q2X _ _ _ _ e]
theorem q2h {α : Type} [Inhabited α] (enc : α → V) {sz te te' : Nat} {g : Nat → V} : BLe (.arr sz 0 g te) (.arr sz ([] : List α).length (gL enc []) te') := q1B (fun i hi => absurd hi (Nat.not_lt_zero i)) (Or.inr (Or.inr (Or.inr rfl)))
theorem qNI {a b : Blk} (h : a = b) : BLe a b := by rw [h]; exact BLe.refl _
theorem qUq {n i : Nat} (h : i < n) : gL q3M (List.replicate n ByteArray.empty) i = .str ⟨#[]⟩ := by
 simp [gL, h]
 rfl
def qSR (s : ByteArray) (sep : ByteArray) (save : Int) (n : Int) : Prop := sep = top ∧ save = 0 ∧ n = -1 ∧ s.size ≤ 1000
noncomputable def qWj (s : ByteArray) (sep : ByteArray) (save : Int) (n : Int) : V := q0H q3M 2 (q1i s)
noncomputable def qTA : q0G := fun args bin => match args, bin with
 | [.str a0, .str a1, .int .i64 a2, .int .i64 a3], [] => some (qSR a0 a1 a2 a3, qWj a0 a1 a2 a3, [])
 | _, _ => none
noncomputable def qOo (s : ByteArray) (sep : ByteArray) (save : Int) (n : Int) : q0O :=
 ⟨ByteArray × Nat × List ByteArray, fun p => ⟨[(0, .str p.1), (1, .str top), (2, .int .i64 0), (3, .int .i64 (cnt s)), (9, .osl (q1l 9) (cnt s + 1)), (10, .int .i64 p.2.1)], [(q1l 9, .arr 1 (cnt s + 1) (gL q3M p.2.2) q0i)]⟩,
  fun p => p.1.size ≤ s.size ∧ p.2.2.length = cnt s + 1 ∧ p.2.1 + cnt p.1 = cnt s ∧ p.2.2.take p.2.1 ++ q1i p.1 = q1i s, fun p => cnt s - p.2.1⟩
noncomputable def qZO (s : ByteArray) (sep : ByteArray) (save : Int) (n : Int) : Nat → Option q0O := fun rg_ => match rg_ with
 | 11 => some (qOo s sep save n)
 | _ => none
noncomputable def x6Q : Nat → Option (Fl × q0G) := lk [(232, (.ro, qO0)), (231, (.ro, qSD))]
theorem x4A : q0D Tryz.prog x6Q := q01 qXZ (q01 qYt (q07))
noncomputable def x0g (s : ByteArray) (sep : ByteArray) (save : Int) (n : Int) : Cx := ⟨tt, x6Q, Tryz.f270.ntmps, [0, 1, 2, 3, 8, 9, 10, 11, 13, 15, 20, 36, 41], [(11, ⟨[(0, none), (1, none), (2, none), (3, none), (9, some 1), (10, none)], []⟩)], [2, 4], qZO s sep save n, [], noM, []⟩
def qHb (s : ByteArray) (x : ByteArray × Nat × List ByteArray) : Prop := ((ByteArray.size x.1 ≤ ByteArray.size s) ∧ ((List.length x.2.2 = cnt s + 1) ∧ ((Prod.fst x.2 + cnt x.1 = cnt s) ∧ (List.take x.2.1 x.2.2 ++ q1i x.1 = q1i s))))
def qMm (s : ByteArray) (x : ByteArray × Nat × List ByteArray) : Prop := ((((0 : Int) ≤ (↑x.2.1 : Int)) ∧ ((↑x.2.1 : Int) < (↑(cnt s + 1) : Int))) ∧ ((Int.toNat (↑x.2.1 : Int) < cnt s + 1) ∧ ((inK IntKind.i64 ((↑x.2.1 : Int) + (1 : Int))) ∧ ((((0 : Int) ≤ (↑x.2.1 : Int) + (1 : Int)) ∧ ((↑x.2.1 : Int) + (1 : Int) ≤ (↑(cnt s + 1) : Int))) ∧ (VLe (V.sl (Int.toNat ((↑x.2.1 : Int) + (1 : Int))) (q5d (gL q3M x.2.2) (Int.toNat (↑x.2.1 : Int)) (V.str x.1)) 2) (q0H q3M 2 (q1i s)))))))
noncomputable def q87 (x : ByteArray × Nat × List ByteArray) : Int := (↑(ByteArray.size x.1) : Int)
def qKj (s : ByteArray) (x : ByteArray × Nat × List ByteArray) : Prop := ((qHb s x) → (((decide ((↑x.2.1 : Int) < (↑(cnt s) : Int)) = true) → ((qTJ x.1 top) ∧ (((decide (qC6 x.1 < (0 : Int)) = true) → (qMm s x)) ∧ ((decide (qC6 x.1 < (0 : Int)) = false) → ((inK IntKind.i64 (qC6 x.1 + (0 : Int))) ∧ ((((0 : Int) ≤ Option.getD none (0 : Int)) ∧ ((Option.getD none (0 : Int) ≤ Option.getD (some (qC6 x.1 + (0 : Int))) (q87 x)) ∧ (Option.getD (some (qC6 x.1 + (0 : Int))) (q87 x) ≤ (q87 x)))) ∧ ((((0 : Int) ≤ (↑x.2.1 : Int)) ∧ ((↑x.2.1 : Int) < (↑(cnt s + 1) : Int))) ∧ ((Int.toNat (↑x.2.1 : Int) < cnt s + 1) ∧ ((inK IntKind.i64 (qC6 x.1 + (↑1 : Int))) ∧ ((((0 : Int) ≤ Option.getD (some (qC6 x.1 + (↑1 : Int))) (0 : Int)) ∧ ((Option.getD (some (qC6 x.1 + (↑1 : Int))) (0 : Int) ≤ Option.getD none (q87 x)) ∧ (Option.getD none (q87 x) ≤ (q87 x)))) ∧ ((inK IntKind.i64 ((↑x.2.1 : Int) + (1 : Int))) ∧ (∃ y : ByteArray × Nat × List ByteArray, ((SLe (AS.mk [(0, V.str (ByteArray.extract x.1 (Int.toNat (Option.getD (some (qC6 x.1 + (↑1 : Int))) (0 : Int))) (Int.toNat (Option.getD none (q87 x))))), (1, V.str top), (2, vi 0), (3, vi (↑(cnt s) : Int)), (9, V.osl 32000640 (cnt s + 1)), (10, vi ((↑x.2.1 : Int) + (1 : Int)))] [(32000640, Blk.arr 1 (cnt s + 1) (q5d (gL q3M x.2.2) (Int.toNat (↑x.2.1 : Int)) (V.str (ByteArray.extract x.1 0 (Int.toNat (Option.getD (some (qC6 x.1 + (0 : Int))) (q87 x)))))) 100)]) (AS.mk [(0, V.str y.1), (1, V.str top), (2, vi 0), (3, vi (↑(cnt s) : Int)), (9, V.osl 32000640 (cnt s + 1)), (10, vi (↑y.2.1 : Int))] [(32000640, Blk.arr 1 (cnt s + 1) (gL q3M y.2.2) 100)])) ∧ (((ByteArray.size y.1 ≤ ByteArray.size s) ∧ ((List.length y.2.2 = cnt s + 1) ∧ ((Prod.fst y.2 + cnt y.1 = cnt s) ∧ (List.take y.2.1 y.2.2 ++ q1i y.1 = q1i s)))) ∧ (cnt s - Prod.fst y.2 < cnt s - Prod.fst x.2))))))))))))))) ∧ ((decide ((↑x.2.1 : Int) < (↑(cnt s) : Int)) = false) → (qMm s x))))
noncomputable def q1p (s : ByteArray) : Int := (↑(ByteArray.size s) : Int)
noncomputable def qMt (s : ByteArray) (x : ByteArray × Nat × List ByteArray) : AS := (AS.mk [(0, V.str x.1), (1, V.str top), (2, vi 0), (3, vi (↑(cnt s) : Int)), (9, V.osl 32000640 (cnt s + 1)), (10, vi (↑x.2.1 : Int))] [(32000640, Blk.arr 1 (cnt s + 1) (gL q3M x.2.2) 100)])
noncomputable def qKm (s : ByteArray) : Nat := (Int.toNat (if (q1p s) + (1 : Int) < (↑(cnt s) : Int) + (1 : Int) then (q1p s) + (1 : Int) else (↑(cnt s) : Int) + (1 : Int)))
theorem x4U (s : ByteArray) (sep : ByteArray) (save : Int) (n : Int) (hpre : qSR s sep save n) : q0f (x0g s sep save n) Tryz.f270 1 [.str (s), .str (sep), .int .i64 (save), .int .i64 (n)] (fun rr => VLe rr (qWj s sep save n)) := by
 have key : ((((n == 0) = true) → (False)) ∧ (((n == 0) = false) → (((q1R sep (ByteArray.mk #[]) = true) → (False)) ∧ ((q1R sep (ByteArray.mk #[]) = false) → (((decide (n < (0 : Int)) = true) → ((qJc s sep) ∧ ((inK IntKind.i64 ((↑(cnt s) : Int) + (1 : Int))) ∧ ((inK IntKind.i64 ((q1p s) + (1 : Int))) ∧ ((((0 : Int) ≤ if (q1p s) + (1 : Int) < (↑(cnt s) : Int) + (1 : Int) then (q1p s) + (1 : Int) else (↑(cnt s) : Int) + (1 : Int)) ∧ (((if (q1p s) + (1 : Int) < (↑(cnt s) : Int) + (1 : Int) then (q1p s) + (1 : Int) else (↑(cnt s) : Int) + (1 : Int)) ≤ if (q1p s) + (1 : Int) < (↑(cnt s) : Int) + (1 : Int) then (q1p s) + (1 : Int) else (↑(cnt s) : Int) + (1 : Int)) ∧ ((if (q1p s) + (1 : Int) < (↑(cnt s) : Int) + (1 : Int) then (q1p s) + (1 : Int) else (↑(cnt s) : Int) + (1 : Int)) ≤ (↑1073741824 : Int)))) ∧ ((inK IntKind.i64 ((if (q1p s) + (1 : Int) < (↑(cnt s) : Int) + (1 : Int) then (q1p s) + (1 : Int) else (↑(cnt s) : Int) + (1 : Int)) - (1 : Int))) ∧ ((∃ x : ByteArray × Nat × List ByteArray, ((SLe (AS.mk [(0, V.str s), (1, V.str sep), (2, vi save), (3, vi ((if (q1p s) + (1 : Int) < (↑(cnt s) : Int) + (1 : Int) then (q1p s) + (1 : Int) else (↑(cnt s) : Int) + (1 : Int)) - (1 : Int))), (9, V.osl 32000640 (qKm s)), (10, vi 0)] [(32000640, Blk.arr 1 (qKm s) (fun (x : Nat) ↦ V.str (ByteArray.mk #[])) 100)]) (qMt s x)) ∧ (qHb s x))) ∧ (∀ x : ByteArray × Nat × List ByteArray, (qKj s x))))))))) ∧ ((decide (n < (0 : Int)) = false) → ((inK IntKind.i64 ((q1p s) + (1 : Int))) ∧ ((((0 : Int) ≤ if (q1p s) + (1 : Int) < n then (q1p s) + (1 : Int) else n) ∧ (((if (q1p s) + (1 : Int) < n then (q1p s) + (1 : Int) else n) ≤ if (q1p s) + (1 : Int) < n then (q1p s) + (1 : Int) else n) ∧ ((if (q1p s) + (1 : Int) < n then (q1p s) + (1 : Int) else n) ≤ (↑1073741824 : Int)))) ∧ ((inK IntKind.i64 ((if (q1p s) + (1 : Int) < n then (q1p s) + (1 : Int) else n) - (1 : Int))) ∧ ((∃ x : ByteArray × Nat × List ByteArray, ((SLe (AS.mk [(0, V.str s), (1, V.str sep), (2, vi save), (3, vi ((if (q1p s) + (1 : Int) < n then (q1p s) + (1 : Int) else n) - (1 : Int))), (9, V.osl 32000640 (Int.toNat (if (q1p s) + (1 : Int) < n then (q1p s) + (1 : Int) else n))), (10, vi 0)] [(32000640, Blk.arr 1 (Int.toNat (if (q1p s) + (1 : Int) < n then (q1p s) + (1 : Int) else n)) (fun (x : Nat) ↦ V.str (ByteArray.mk #[])) 100)]) (qMt s x)) ∧ (qHb s x))) ∧ (∀ x : ByteArray × Nat × List ByteArray, (qKj s x)))))))))))) := by
  delta qKm; delta qMt; delta q1p; delta qKj; delta q87; delta qMm; delta qHb; delta vi
  obtain ⟨rfl, rfl, rfl, hs⟩ := hpre
  have hc : cnt s ≤ s.size := by unfold cnt; rw [q2W]; exact List.count_le_length
  have em : (if (s.size : Int) + 1 < (cnt s : Int) + 1 then (s.size : Int) + 1 else (cnt s : Int) + 1) = (cnt s : Int) + 1 := if_neg (by omega)
  have em2 : ((cnt s : Int) + 1).toNat = cnt s + 1 := by omega
  simp only [em, em2]
  refine ⟨fun h => by simp at h, fun _ => ⟨fun h => ?_, fun _ => ⟨fun _ => ?_, fun h => by simp at h⟩⟩⟩
  ·rw [q16] at h
   exact absurd (congrArg ByteArray.size (of_decide_eq_true h)) (by decide)
  refine ⟨⟨rfl, hs⟩, q0U (by omega), q0U (by omega), ⟨by omega, by omega, by omega⟩, q0U (by omega), ⟨(s, 0, List.replicate (cnt s + 1) ByteArray.empty), q1X ⟨rfl, VLe.refl _, rfl, VLe.refl _, rfl, VLe.refl _, rfl, q0J (by omega), rfl, VLe.refl _, rfl, q0J (by simp), trivial⟩ ⟨rfl, q1B (fun i hi => ELe.of_eq (qUq hi).symm) (Or.inl rfl), trivial⟩, by simp, by simp, by simp, by simp⟩, ?_⟩
  rintro ⟨r, i, a⟩ ⟨h1, h2, h3, h4⟩
  simp only at h1 h2 h3 h4 ⊢
  refine ⟨fun h => ?_, fun h => ?_⟩
  ·have hlt : i < cnt s := by simpa using h
   rcases qPi 47 r.data.toList with ⟨e1, _⟩ | ⟨p, q, e1, e2, e3⟩
   ·have : cnt r = 0 := List.count_eq_zero.2 e1
    omega
   ·have hx : qC6 r = (p.length : Int) := e3
    have hr : r.size = p.length + 1 + q.length := by rw [q2W, e1]; simp; omega
    have hq : cnt r = cnt (ba q) + 1 := by
     have : p.count 47 = 0 := List.count_eq_zero.2 e2
     unfold cnt
     rw [e1, q6A, List.count_append, List.count_cons_self, this, Nat.zero_add]
    have x1 : r.extract 0 p.length = ba p := q3f (by rw [q3L, e1]; simp)
    have x2 : r.extract (p.length + 1) r.size = ba q := q3f (by
     rw [q3L, e1, hr]
     have : p.length + 1 + q.length - (p.length + 1) = q.length := by omega
     rw [this]
     simp)
    have n1 : ((p.length : Int) + ((1 : Nat) : Int)).toNat = p.length + 1 := by omega
    have n2 : ((p.length : Int) + 1).toNat = p.length + 1 := by omega
    simp only [hx, Option.getD_some, Option.getD_none, Int.add_zero, Int.toNat_natCast, n1, n2, x1, x2]
    refine ⟨rfl, fun h => ?_, fun _ => ⟨q0U (by omega), ⟨by omega, by omega, by omega⟩, ⟨by omega, by omega⟩, by omega, q0U (by omega), ⟨by omega, by omega, by omega⟩, q0U (by omega), (ba q, i + 1, a.set i (ba p)), ?_, ⟨?_, by simpa using h2, ?_, ?_⟩, ?_⟩⟩
    ·have := of_decide_eq_true h
     omega
    ·exact q1X ⟨rfl, VLe.refl _, rfl, VLe.refl _, rfl, VLe.refl _, rfl, VLe.refl _, rfl, VLe.refl _, rfl, q0J (by simp), trivial⟩ ⟨rfl, qNI (by rw [qQH (by omega)]), trivial⟩
    ·show (ba q).size ≤ s.size
     rw [qDo]; omega
    ·simp only; omega
    ·show (a.set i (ba p)).take (i + 1) ++ q1i (ba q) = q1i s
     rw [qDU _ _ _ (by omega), List.append_assoc, List.singleton_append, ← qOc e1 e2, h4]
    ·simp only; omega
  ·have hge : i = cnt s := by
    have := of_decide_eq_false h
    omega
   have hz : cnt r = 0 := by omega
   have e1 : q1i r = [r] := qL3 (List.count_eq_zero.1 hz)
   have e2 : a.set i r = q1i s := by
    rw [← h4, e1, ← qDU r a i (by omega), List.take_of_length_le (by rw [List.length_set]; omega)]
   refine ⟨⟨by omega, by omega⟩, by simp; omega, q0U (by omega), ⟨by omega, by omega⟩, ?_⟩
   rw [Int.toNat_natCast, qQH (by omega), e2]
   exact q3A (by rw [← e2, List.length_set]; omega) (fun k hk => by simp [gL, hk]) (Or.inl rfl)
 exact Eq.mp (by kernel_rfl) key
theorem x0P : q0T Tryz.prog 270 qTA := by
 refine q09 q1C (pol := 1) Tryz.func270 rfl (by kernel_rfl) fun args bin ob r bout hDe hob => ?_
 unfold qTA at hDe
 split at hDe
 ·rename_i a0 a1 a2 a3
  cases hDe
  exact okB (x4U a0 a1 a2 a3 (hob)) x4A (args_of_vles ⟨VLe.refl _, VLe.refl _, VLe.refl _, VLe.refl _, trivial⟩)
 ·cases hDe
def qK9 (s : ByteArray) (sep : ByteArray) : Prop := sep = top ∧ s.size ≤ 1000
noncomputable def qU3 (s : ByteArray) (sep : ByteArray) : V := q0H q3M 2 (q1i s)
noncomputable def qSa : q0G := fun args bin => match args, bin with
 | [.str a0, .str a1], [] => some (qK9 a0 a1, qU3 a0 a1, [])
 | _, _ => none
noncomputable def x71 : Nat → Option (Fl × q0G) := lk [(270, (.ro, qTA))]
theorem x43 : q0D Tryz.prog x71 := q01 x0P (q07)
noncomputable def qYe (s : ByteArray) (sep : ByteArray) : Cx := ⟨tt, x71, Tryz.f233.ntmps, [0, 1, 4], [], [], fun _ => none, [], noM, []⟩
theorem qYZ (s : ByteArray) (sep : ByteArray) (hpre : qK9 s sep) : q0f (qYe s sep) Tryz.f233 1 [.str (s), .str (sep)] (fun rr => VLe rr (qU3 s sep)) := by
 have key : ((qSR s sep (0 : Int) (-1 : Int)) ∧ (VLe (q0H q3M 2 (q1i s)) (q0H q3M 2 (q1i s)))) := by
  exact ⟨⟨hpre.1, rfl, rfl, hpre.2⟩, VLe.refl _⟩
 exact Eq.mp (by kernel_rfl) key
theorem x0H : q0T Tryz.prog 233 qSa := by
 refine q09 q1C (pol := 1) Tryz.func233 rfl (by kernel_rfl) fun args bin ob r bout hDe hob => ?_
 unfold qSa at hDe
 split at hDe
 ·rename_i a0 a1
  cases hDe
  exact okB (qYZ a0 a1 (hob)) x43 (args_of_vles ⟨VLe.refl _, VLe.refl _, trivial⟩)
 ·cases hDe
def q4w (n : Int) (low : Int) (high : Int) : Prop := True
noncomputable def qWf (n : Int) (low : Int) (high : Int) : V := .bool (decide (inR n low high))
noncomputable def q8i : q0G := fun args bin => match args, bin with
 | [.int .i64 a0, .int .i64 a1, .int .i64 a2], [] => some (q4w a0 a1 a2, qWf a0 a1 a2, [])
 | _, _ => none
noncomputable def x6M : Nat → Option (Fl × q0G) := lk []
theorem qY9 : q0D Tryz.prog x6M := q07
noncomputable def x1q (n : Int) (low : Int) (high : Int) : Cx := ⟨tt, x6M, Tryz.f120.ntmps, [0, 1, 2, 6], [], [], fun _ => none, [], noM, []⟩
theorem qYJ (n : Int) (low : Int) (high : Int) (hpre : q4w n low high) : q0f (x1q n low high) Tryz.f120 0 [.int .i64 (n), .int .i64 (low), .int .i64 (high)] (fun rr => VLe rr (qWf n low high)) := by
 have key : ((tq (decide (low ≤ n))) ∧ ((tq (decide (low ≤ n))) ∧ (((true = true) → ((decide (low ≤ n) = true) → (decide (low ≤ n) = true))) ∧ (∀ b : Bool, ((b = bif decide (low ≤ n) then decide (n ≤ high) else false) → (VLe (V.bool b) (V.bool (decide (inR n low high))))))))) := by
  repeat (first | (refine And.intro (fun h _ => h) ?_) | (refine And.intro (fun _ h => h) ?_) | (refine And.intro ?aa ?_; case aa => (simp []; done)) | (refine And.intro ?aa ?_; case aa => (simp_all []; done)) | (refine And.intro ?aa ?_; case aa => (intros; exact q0U (by omega))) | (refine And.intro ?aa ?_; case aa => (intros; simp only [decide_eq_true_eq] at *; omega)) | (intro q hq))
  subst_vars
  refine q0e ?_
  rw [Bool.eq_iff_iff]
  simp
  try simp only [inR]
  try omega
 exact Eq.mp (by kernel_rfl) key
theorem qAW : q0T Tryz.prog 120 q8i := by
 refine q09 q1C (pol := 0) Tryz.func120 rfl (by kernel_rfl) fun args bin ob r bout hDe hob => ?_
 unfold q8i at hDe
 split at hDe
 ·rename_i a0 a1 a2
  cases hDe
  exact okB (qYJ a0 a1 a2 (hob)) qY9 (args_of_vles ⟨VLe.refl _, VLe.refl _, VLe.refl _, trivial⟩)
 ·cases hDe
def q4f (n : Int) (low : Int) (high : Int) : Prop := True
noncomputable def qWT (n : Int) (low : Int) (high : Int) : V := .bool (decide (inR n low high))
noncomputable def q9G : q0G := fun args bin => match args, bin with
 | [.int .i64 a0, .int .i64 a1, .int .i64 a2], [] => some (q4f a0 a1 a2, qWT a0 a1 a2, [])
 | _, _ => none
noncomputable def x6O : Nat → Option (Fl × q0G) := lk []
theorem x0U : q0D Tryz.prog x6O := q07
noncomputable def x1r (n : Int) (low : Int) (high : Int) : Cx := ⟨tt, x6O, Tryz.f151.ntmps, [0, 1, 2, 6], [], [], fun _ => none, [], noM, []⟩
theorem x3E (n : Int) (low : Int) (high : Int) (hpre : q4f n low high) : q0f (x1r n low high) Tryz.f151 0 [.int .i64 (n), .int .i64 (low), .int .i64 (high)] (fun rr => VLe rr (qWT n low high)) := by
 have key : ((tq (decide (n ≥ low))) ∧ ((tq (decide (n ≥ low))) ∧ (((true = true) → ((decide (n ≥ low) = true) → (decide (n ≥ low) = true))) ∧ (∀ b : Bool, ((b = bif decide (n ≥ low) then decide (n ≤ high) else false) → (VLe (V.bool b) (V.bool (decide (inR n low high))))))))) := by
  repeat (first | (refine And.intro (fun h _ => h) ?_) | (refine And.intro (fun _ h => h) ?_) | (refine And.intro ?aa ?_; case aa => (simp []; done)) | (refine And.intro ?aa ?_; case aa => (simp_all []; done)) | (refine And.intro ?aa ?_; case aa => (intros; exact q0U (by omega))) | (refine And.intro ?aa ?_; case aa => (intros; simp only [decide_eq_true_eq] at *; omega)) | (intro q hq))
  subst_vars
  refine q0e ?_
  rw [Bool.eq_iff_iff]
  simp
  try simp only [inR]
  try omega
 exact Eq.mp (by kernel_rfl) key
theorem qAT : q0T Tryz.prog 151 q9G := by
 refine q09 q1C (pol := 0) Tryz.func151 rfl (by kernel_rfl) fun args bin ob r bout hDe hob => ?_
 unfold q9G at hDe
 split at hDe
 ·rename_i a0 a1 a2
  cases hDe
  exact okB (x3E a0 a1 a2 (hob)) x0U (args_of_vles ⟨VLe.refl _, VLe.refl _, VLe.refl _, trivial⟩)
 ·cases hDe
def qF0 (s : ByteArray) : Prop := s.size ≤ 1000
noncomputable def qVT (s : ByteArray) : V := .bool (decide (q4C s))
noncomputable def qPH : q0G := fun args bin => match args, bin with
 | [.str a0], [] => some (qF0 a0, qVT a0, [])
 | _, _ => none
noncomputable def qRQ (s : ByteArray) : q0O :=
 ⟨Nat, fun i => ⟨[(0, .str s), (5, .int .i64 s.size), (6, .int .i64 i)], []⟩, fun i => i ≤ s.size ∧ ∀ j : Nat, j < i → qId (q0c s j), fun i => s.size - i⟩
noncomputable def x1L (s : ByteArray) : Nat → Option q0O := fun rg_ => match rg_ with
 | 2 => some (qRQ s)
 | _ => none
noncomputable def x6t : Nat → Option (Fl × q0G) := lk [(120, (.ro, q8i))]
theorem qYQ : q0D Tryz.prog x6t := q01 qAW (q07)
noncomputable def qYg (s : ByteArray) : Cx := ⟨tt, x6t, Tryz.f234.ntmps, [0, 2, 3, 5, 6, 7, 30], [(2, ⟨[(0, none), (5, none), (6, none)], []⟩)], [], x1L s, [], noM, []⟩
noncomputable def q72 (s : ByteArray) : Int := (↑(ByteArray.size s) : Int)
def qEX (s : ByteArray) (x : Nat) : Prop := (((0 : Int) ≤ (↑x : Int)) ∧ ((↑x : Int) < (q72 s)))
theorem x3k (s : ByteArray) (hpre : qF0 s) : q0f (qYg s) Tryz.f234 0 [.str (s)] (fun rr => VLe rr (qVT s)) := by
 have key : ((∃ x : Nat, ((SLe (AS.mk [(0, V.str s), (5, vi (q72 s)), (6, vi 0)] []) (AS.mk [(0, V.str s), (5, vi (q72 s)), (6, vi (↑x : Int))] [])) ∧ ((x ≤ ByteArray.size s) ∧ (∀ j : Nat, ((j < x) → (qId (q0c s (↑j : Int)))))))) ∧ (∀ x : Nat, (((x ≤ ByteArray.size s) ∧ (∀ j : Nat, ((j < x) → (qId (q0c s (↑j : Int)))))) → (((decide ((↑x : Int) < (q72 s)) = true) → ((qEX s x) ∧ ((tq (!decide (q0c s (↑x : Int) < (97 : Int)))) ∧ ((tq (!decide (q0c s (↑x : Int) < (97 : Int)))) ∧ ((((!decide (q0c s (↑x : Int) < (97 : Int))) = true) → (qEX s x)) ∧ ((tq (!decide (q0c s (↑x : Int) < (97 : Int)))) ∧ (((true = true) → ((decide (q0c s (↑x : Int) < (97 : Int)) = false) → ((!decide (q0c s (↑x : Int) < (97 : Int))) = true))) ∧ (∀ b : Bool, ((b = bif decide (q0c s (↑x : Int) < (97 : Int)) then true else decide (q0c s (↑x : Int) > (122 : Int))) → ((tq (b)) ∧ ((tq (b)) ∧ (((b = true) → (qEX s x)) ∧ ((tq (b)) ∧ ((tq (b)) ∧ ((tq (b && !decide (q0c s (↑x : Int) < (48 : Int)))) ∧ ((tq (b && !decide (q0c s (↑x : Int) < (48 : Int)))) ∧ ((((b && !decide (q0c s (↑x : Int) < (48 : Int))) = true) → (qEX s x)) ∧ ((tq (b && !decide (q0c s (↑x : Int) < (48 : Int)))) ∧ ((tq (b)) ∧ (((b = true) → ((b = true) → ((decide (q0c s (↑x : Int) < (48 : Int)) = false) → ((b && !decide (q0c s (↑x : Int) < (48 : Int))) = true)))) ∧ (∀ b_1 : Bool, ((b_1 = bif decide (q0c s (↑x : Int) < (48 : Int)) then true else decide (q0c s (↑x : Int) > (57 : Int))) → (((true = true) → ((b = true) → (b = true))) ∧ (∀ b_2 : Bool, ((b_2 = bif b then b_1 else false) → (((b_2 = true) → (VLe (V.bool false) (V.bool (decide (q4C s))))) ∧ ((b_2 = false) → ((inK IntKind.i64 ((↑x : Int) + (1 : Int))) ∧ (∃ y : Nat, ((SLe (AS.mk [(0, V.str s), (5, vi (q72 s)), (6, vi ((↑x : Int) + (1 : Int)))] []) (AS.mk [(0, V.str s), (5, vi (q72 s)), (6, vi (↑y : Int))] [])) ∧ (((y ≤ ByteArray.size s) ∧ (∀ j : Nat, ((j < y) → (qId (q0c s (↑j : Int)))))) ∧ (ByteArray.size s - y < ByteArray.size s - x)))))))))))))))))))))))))))))))) ∧ ((decide ((↑x : Int) < (q72 s)) = false) → ((q4w (q72 s) (1 : Int) (8 : Int)) ∧ (VLe (V.bool (decide (inR (q72 s) (1 : Int) (8 : Int)))) (V.bool (decide (q4C s)))))))))) := by
  delta qEX; delta q72; delta vi
  unfold qF0 at hpre
  refine ⟨⟨0, SLe.refl _, by omega, fun j hj => by omega⟩, ?_⟩
  rintro i ⟨hi, hj⟩
  refine ⟨fun h => ?_, fun h => ?_⟩
  ·have hlt : i < s.size := by simpa using h
   refine ⟨by omega, ?_⟩
   repeat (first | (refine And.intro (fun h _ => h) ?_) | (refine And.intro (fun _ h => h) ?_) | (refine And.intro ?aa ?_; case aa => (exact (fun _ => ⟨by omega, by omega⟩))) | (refine And.intro ?aa ?_; case aa => (intros; simp_all [q4w]; done)) | (refine And.intro ?aa ?_; case aa => (intros; exact q0U (by omega))) | (refine And.intro ?aa ?_; case aa => (intros; simp only [decide_eq_true_eq] at *; omega)) | (intro q hq))
   have e0 : q = decide (¬ qId (q0c s i)) := by
    subst_vars
    rw [Bool.eq_iff_iff, decide_eq_true_eq]
    unfold qId
    by_cases a1 : q0c s i < 97 <;> by_cases a2 : q0c s i > 122 <;> by_cases a3 : q0c s i < 48 <;> by_cases a4 : q0c s i > 57 <;> simp [a1, a2, a3, a4] <;> omega
   clear hq
   refine ⟨fun h2 => q0e ?_, fun h2 => ⟨q0U (by omega), i + 1, SLe.refl _, ⟨by omega, fun j h3 => ?_⟩, by omega⟩⟩
   ·rw [e0] at h2
    symm
    exact decide_eq_false fun g => of_decide_eq_true h2 (g.1 i hlt)
   ·rw [e0] at h2
    rcases Nat.lt_or_ge j i with h4 | h4
    ·exact hj j h4
    ·have : j = i := by omega
     subst this
     exact Classical.not_not.1 (of_decide_eq_false h2)
  ·have hge : i = s.size := by simp at h; omega
   subst hge
   refine ⟨trivial, q0e ?_⟩
   rw [Bool.eq_iff_iff, decide_eq_true_eq, decide_eq_true_eq]
   unfold inR
   exact ⟨fun g => ⟨hj, by omega, by omega⟩, fun g => by have := g.2; omega⟩
 exact Eq.mp (by kernel_rfl) key
theorem qU9 : q0T Tryz.prog 234 qPH := by
 refine q09 q1C (pol := 0) Tryz.func234 rfl (by kernel_rfl) fun args bin ob r bout hDe hob => ?_
 unfold qPH at hDe
 split at hDe
 ·rename_i a0
  cases hDe
  exact okB (x3k a0 (hob)) qYQ (args_of_vles ⟨VLe.refl _, trivial⟩)
 ·cases hDe
def qIt (s : ByteArray) : Prop := s.size ≤ 1000
noncomputable def qXH (s : ByteArray) : V := .bool (decide (q4C s))
noncomputable def qNt : q0G := fun args bin => match args, bin with
 | [.str a0], [] => some (qIt a0, qXH a0, [])
 | _, _ => none
noncomputable def qQo (s : ByteArray) : q0O :=
 ⟨Nat, fun i => ⟨[(0, .str s), (3, .int .i64 i)], []⟩, fun i => i ≤ s.size ∧ ∀ j : Nat, j < i → qId (q0c s j), fun i => s.size - i⟩
noncomputable def x0a (s : ByteArray) : Nat → Option q0O := fun rg_ => match rg_ with
 | 2 => some (qQo s)
 | _ => none
noncomputable def x6N : Nat → Option (Fl × q0G) := lk [(151, (.ro, q9G))]
theorem x4q : q0D Tryz.prog x6N := q01 qAT (q07)
noncomputable def x52 (s : ByteArray) : Cx := ⟨tt, x6N, Tryz.f251.ntmps, [0, 2, 3, 7, 31], [(2, ⟨[(0, none), (3, none)], []⟩)], [], x0a s, [], noM, []⟩
def qF7 (s : ByteArray) (x : Nat) : Prop := (((0 : Int) ≤ (↑x : Int)) ∧ ((↑x : Int) < (↑(ByteArray.size s) : Int)))
theorem qYT (s : ByteArray) (hpre : qIt s) : q0f (x52 s) Tryz.f251 0 [.str (s)] (fun rr => VLe rr (qXH s)) := by
 have key : ((∃ x : Nat, ((SLe (AS.mk [(0, V.str s), (3, vi 0)] []) (AS.mk [(0, V.str s), (3, vi (↑x : Int))] [])) ∧ ((x ≤ ByteArray.size s) ∧ (∀ j : Nat, ((j < x) → (qId (q0c s (↑j : Int)))))))) ∧ (∀ x : Nat, (((x ≤ ByteArray.size s) ∧ (∀ j : Nat, ((j < x) → (qId (q0c s (↑j : Int)))))) → (((decide ((↑x : Int) < (↑(ByteArray.size s) : Int)) = true) → ((qF7 s x) ∧ ((tq (!decide (q0c s (↑x : Int) < (97 : Int)))) ∧ ((tq (!decide (q0c s (↑x : Int) < (97 : Int)))) ∧ ((((!decide (q0c s (↑x : Int) < (97 : Int))) = true) → (qF7 s x)) ∧ ((tq (!decide (q0c s (↑x : Int) < (97 : Int)))) ∧ (((true = true) → ((decide (q0c s (↑x : Int) < (97 : Int)) = false) → ((!decide (q0c s (↑x : Int) < (97 : Int))) = true))) ∧ (∀ b : Bool, ((b = bif decide (q0c s (↑x : Int) < (97 : Int)) then true else decide (q0c s (↑x : Int) > (122 : Int))) → ((tq (b)) ∧ ((tq (b)) ∧ (((b = true) → (qF7 s x)) ∧ ((tq (b)) ∧ ((tq (b)) ∧ ((tq (b && !decide (q0c s (↑x : Int) < (48 : Int)))) ∧ ((tq (b && !decide (q0c s (↑x : Int) < (48 : Int)))) ∧ ((((b && !decide (q0c s (↑x : Int) < (48 : Int))) = true) → (qF7 s x)) ∧ ((tq (b && !decide (q0c s (↑x : Int) < (48 : Int)))) ∧ ((tq (b)) ∧ (((b = true) → ((b = true) → ((decide (q0c s (↑x : Int) < (48 : Int)) = false) → ((b && !decide (q0c s (↑x : Int) < (48 : Int))) = true)))) ∧ (∀ b_1 : Bool, ((b_1 = bif decide (q0c s (↑x : Int) < (48 : Int)) then true else decide (q0c s (↑x : Int) > (57 : Int))) → (((true = true) → ((b = true) → (b = true))) ∧ (∀ b_2 : Bool, ((b_2 = bif b then b_1 else false) → (((b_2 = true) → (VLe (V.bool false) (V.bool (decide (q4C s))))) ∧ ((b_2 = false) → ((inK IntKind.i64 ((↑x : Int) + (1 : Int))) ∧ (∃ y : Nat, ((SLe (AS.mk [(0, V.str s), (3, vi ((↑x : Int) + (1 : Int)))] []) (AS.mk [(0, V.str s), (3, vi (↑y : Int))] [])) ∧ (((y ≤ ByteArray.size s) ∧ (∀ j : Nat, ((j < y) → (qId (q0c s (↑j : Int)))))) ∧ (ByteArray.size s - y < ByteArray.size s - x)))))))))))))))))))))))))))))))) ∧ ((decide ((↑x : Int) < (↑(ByteArray.size s) : Int)) = false) → ((q4f (↑(ByteArray.size s) : Int) (1 : Int) (8 : Int)) ∧ (VLe (V.bool (decide (inR (↑(ByteArray.size s) : Int) (1 : Int) (8 : Int)))) (V.bool (decide (q4C s)))))))))) := by
  delta qF7; delta vi
  unfold qIt at hpre
  refine ⟨⟨0, SLe.refl _, by omega, fun j hj => by omega⟩, ?_⟩
  rintro i ⟨hi, hj⟩
  refine ⟨fun h => ?_, fun h => ?_⟩
  ·have hlt : i < s.size := by simpa using h
   refine ⟨by omega, ?_⟩
   repeat (first | (refine And.intro (fun h _ => h) ?_) | (refine And.intro (fun _ h => h) ?_) | (refine And.intro ?aa ?_; case aa => (exact (fun _ => ⟨by omega, by omega⟩))) | (refine And.intro ?aa ?_; case aa => (intros; simp_all [q4f]; done)) | (refine And.intro ?aa ?_; case aa => (intros; exact q0U (by omega))) | (refine And.intro ?aa ?_; case aa => (intros; simp only [decide_eq_true_eq] at *; omega)) | (intro q hq))
   have e0 : q = decide (¬ qId (q0c s i)) := by
    subst_vars
    rw [Bool.eq_iff_iff, decide_eq_true_eq]
    unfold qId
    by_cases a1 : q0c s i < 97 <;> by_cases a2 : q0c s i > 122 <;> by_cases a3 : q0c s i < 48 <;> by_cases a4 : q0c s i > 57 <;> simp [a1, a2, a3, a4] <;> omega
   clear hq
   refine ⟨fun h2 => q0e ?_, fun h2 => ⟨q0U (by omega), i + 1, SLe.refl _, ⟨by omega, fun j h3 => ?_⟩, by omega⟩⟩
   ·rw [e0] at h2
    symm
    exact decide_eq_false fun g => of_decide_eq_true h2 (g.1 i hlt)
   ·rw [e0] at h2
    rcases Nat.lt_or_ge j i with h4 | h4
    ·exact hj j h4
    ·have : j = i := by omega
     subst this
     exact Classical.not_not.1 (of_decide_eq_false h2)
  ·have hge : i = s.size := by simp at h; omega
   subst hge
   refine ⟨trivial, q0e ?_⟩
   rw [Bool.eq_iff_iff, decide_eq_true_eq, decide_eq_true_eq]
   unfold inR
   exact ⟨fun g => ⟨hj, by omega, by omega⟩, fun g => by have := g.2; omega⟩
 exact Eq.mp (by kernel_rfl) key
theorem qWo : q0T Tryz.prog 251 qNt := by
 refine q09 q1C (pol := 0) Tryz.func251 rfl (by kernel_rfl) fun args bin ob r bout hDe hob => ?_
 unfold qNt at hDe
 split at hDe
 ·rename_i a0
  cases hDe
  exact okB (qYT a0 (hob)) x4q (args_of_vles ⟨VLe.refl _, trivial⟩)
 ·cases hDe
def qJo (s : ByteArray) (c : Int) : Prop := c = 47 ∧ s.size ≤ 1000
noncomputable def qUH (s : ByteArray) (c : Int) : V := q0H q3M 2 (q1i s)
noncomputable def qOx : q0G := fun args bin => match args, bin with
 | [.str a0, .int .u8 a1], [] => some (qJo a0 a1, qUH a0 a1, [])
 | _, _ => none
noncomputable def qSy (s : ByteArray) (c : Int) : q0O :=
 ⟨Nat × Nat × List ByteArray, fun p => ⟨[(0, .str s), (1, .int .u8 47), (5, .osl (q1l 5) p.2.2.length), (6, .int .i64 p.1), (7, .int .i64 p.2.1)], [(q1l 5, .arr 1 p.2.2.length (gL q3M p.2.2) q0i)]⟩,
  fun p => qNk s p.1 p.2.1 p.2.2, fun p => s.size + 1 - p.2.1⟩
noncomputable def x0N (s : ByteArray) (c : Int) : Nat → Option q0O := fun rg_ => match rg_ with
 | 4 => some (qSy s c)
 | _ => none
noncomputable def x7c : Nat → Option (Fl × q0G) := lk []
theorem x1h : q0D Tryz.prog x7c := q07
noncomputable def qYj (s : ByteArray) (c : Int) : Cx := ⟨tt, x7c, Tryz.f246.ntmps, [0, 1, 4, 5, 6, 7, 12, 25], [(4, ⟨[(0, none), (1, none), (5, some 1), (6, none), (7, none)], []⟩)], [], x0N s c, [], noM, []⟩
noncomputable def q4H (s : ByteArray) : Int := (↑(ByteArray.size s) : Int)
noncomputable def qG0 : Nat × V := (1, V.int IntKind.u8 (47 : Int))
noncomputable def qLy (s : ByteArray) (y : Nat × Nat × List ByteArray) : AS := (AS.mk [(0, V.str s), qG0, (5, V.osl 32000384 (List.length y.2.2)), (6, vi (↑y.1 : Int)), (7, vi (↑y.2.1 : Int))] [(32000384, Blk.arr 1 (List.length y.2.2) (gL q3M y.2.2) 100)])
noncomputable def qMq (s : ByteArray) (x : Nat × Nat × List ByteArray) : Nat → V := (q2o [V.str (ByteArray.extract s (Int.toNat (Option.getD (some (↑x.1 : Int)) (0 : Int))) (Int.toNat (Option.getD (some (↑x.2.1 : Int)) (q4H s))))])
theorem qZN (s : ByteArray) (c : Int) (hpre : qJo s c) : q0f (qYj s c) Tryz.f246 1 [.str (s), .int .u8 (c)] (fun rr => VLe rr (qUH s c)) := by
 have key : ((∃ x : Nat × Nat × List ByteArray, ((SLe (AS.mk [(0, V.str s), (1, V.int IntKind.u8 c), (5, V.osl 32000384 0), (6, vi 0), (7, vi 0)] [(32000384, Blk.arr 1 0 (q2o []) 100)]) (AS.mk [(0, V.str s), qG0, (5, V.osl 32000384 (List.length x.2.2)), (6, vi (↑x.1 : Int)), (7, vi (↑x.2.1 : Int))] [(32000384, Blk.arr 1 (List.length x.2.2) (gL q3M x.2.2) 100)])) ∧ (qNk s x.1 x.2.1 x.2.2))) ∧ (∀ x : Nat × Nat × List ByteArray, ((qNk s x.1 x.2.1 x.2.2) → (((decide ((↑x.2.1 : Int) ≤ (q4H s)) = true) → ((tq (!(↑x.2.1 : Int) == (q4H s))) ∧ ((tq (!(↑x.2.1 : Int) == (q4H s))) ∧ ((((!(↑x.2.1 : Int) == (q4H s)) = true) → (((0 : Int) ≤ (↑x.2.1 : Int)) ∧ ((↑x.2.1 : Int) < (q4H s)))) ∧ ((tq (!(↑x.2.1 : Int) == (q4H s))) ∧ ((tq (!(↑x.2.1 : Int) == (q4H s))) ∧ (((true = true) → ((((↑x.2.1 : Int) == (q4H s)) = false) → ((!(↑x.2.1 : Int) == (q4H s)) = true))) ∧ (∀ b : Bool, ((b = bif (↑x.2.1 : Int) == (q4H s) then true else q0c s (↑x.2.1 : Int) == (47 : Int)) → (((b = true) → ((((0 : Int) ≤ Option.getD (some (↑x.1 : Int)) (0 : Int)) ∧ ((Option.getD (some (↑x.1 : Int)) (0 : Int) ≤ Option.getD (some (↑x.2.1 : Int)) (q4H s)) ∧ (Option.getD (some (↑x.2.1 : Int)) (q4H s) ≤ (q4H s)))) ∧ ((List.length x.2.2 = List.length x.2.2) ∧ ((List.length x.2.2 + 1 ≤ 1073741824) ∧ ((q0r 1 1 (qMq s x)) ∧ ((inK IntKind.i64 ((↑x.2.1 : Int) + (1 : Int))) ∧ ((inK IntKind.i64 ((↑x.2.1 : Int) + (1 : Int))) ∧ (∃ y : Nat × Nat × List ByteArray, ((SLe (AS.mk [(0, V.str s), qG0, (5, V.osl 32000384 (List.length x.2.2 + 1)), (6, vi ((↑x.2.1 : Int) + (1 : Int))), (7, vi ((↑x.2.1 : Int) + (1 : Int)))] [(32000384, Blk.arr 1 (List.length x.2.2 + 1) (q2n (List.length x.2.2) (gL q3M x.2.2) (qMq s x)) 100)]) (qLy s y)) ∧ ((qNk s y.1 y.2.1 y.2.2) ∧ (ByteArray.size s + 1 - Prod.fst y.2 < ByteArray.size s + 1 - Prod.fst x.2))))))))))) ∧ ((b = false) → ((inK IntKind.i64 ((↑x.2.1 : Int) + (1 : Int))) ∧ (∃ y : Nat × Nat × List ByteArray, ((SLe (AS.mk [(0, V.str s), qG0, (5, V.osl 32000384 (List.length x.2.2)), (6, vi (↑x.1 : Int)), (7, vi ((↑x.2.1 : Int) + (1 : Int)))] [(32000384, Blk.arr 1 (List.length x.2.2) (gL q3M x.2.2) 100)]) (qLy s y)) ∧ ((qNk s y.1 y.2.1 y.2.2) ∧ (ByteArray.size s + 1 - Prod.fst y.2 < ByteArray.size s + 1 - Prod.fst x.2)))))))))))))))) ∧ ((decide ((↑x.2.1 : Int) ≤ (q4H s)) = false) → (VLe (q0H q3M 2 x.2.2) (q0H q3M 2 (q1i s)))))))) := by
  delta qMq; delta qLy; delta qG0; delta q4H; delta vi
  obtain ⟨rfl, hs⟩ := hpre
  refine ⟨⟨(0, 0, []), q1X ⟨rfl, VLe.refl _, rfl, VLe.refl _, rfl, VLe.refl _, rfl, VLe.refl _, rfl, VLe.refl _, trivial⟩ ⟨rfl, q2h _, trivial⟩, qJd s⟩, ?_⟩
  rintro ⟨f, i, out⟩ hI
  simp only at hI ⊢
  refine ⟨fun h => ?_, fun h => ?_⟩
  ·have hle : i ≤ s.size := by simpa using h
   have hf := (hI.2.2.1 hle).1
   have hol := hI.2.1
   repeat (first | (refine And.intro (fun h _ => h) ?_) | (refine And.intro (fun _ h => h) ?_) | (refine And.intro ?aa ?_; case aa => (exact (fun h => by simp at h; omega))) | (refine And.intro ?aa ?_; case aa => (intros; simp_all []; done)) | (refine And.intro ?aa ?_; case aa => (intros; exact q0U (by omega))) | (refine And.intro ?aa ?_; case aa => (intros; simp only [decide_eq_true_eq] at *; omega)) | (intro q hq))
   have e0 : q = decide (i = s.size ∨ q0c s i = 47) := by
    subst_vars
    rw [Bool.eq_iff_iff, decide_eq_true_eq]
    by_cases a1 : i = s.size
    ·simp [a1]
    ·have : ((i : Int) == (s.size : Int)) = false := by rw [beq_eq_false_iff_ne]; omega
     simp [a1, this]
   clear hq
   simp only [Option.getD_some, Int.toNat_natCast]
   refine ⟨fun h2 => ?_, fun h2 => ?_⟩
   ·rw [e0] at h2
    refine ⟨⟨by omega, by omega, by omega⟩, trivial, by omega, fun k hk => ?_, q0U (by omega), q0U (by omega), (i + 1, i + 1, out ++ [s.extract f i]), ?_, qPC hI hle (of_decide_eq_true h2), by simp only; omega⟩
    ·have hk0 : k = 0 := by omega
     subst hk0
     exact ⟨rfl, rfl⟩
    ·simp only [List.length_append, List.length_singleton]
     exact q1X ⟨rfl, VLe.refl _, rfl, VLe.refl _, rfl, VLe.refl _, rfl, VLe.refl _, rfl, VLe.refl _, trivial⟩ ⟨rfl, q8M rfl rfl, trivial⟩
   ·rw [e0] at h2
    have h3 := of_decide_eq_false h2
    refine ⟨q0U (by omega), (f, i + 1, out), SLe.refl _, qT7 hI (by omega) fun e => h3 (Or.inr e), by simp only; omega⟩
  ·have : i = s.size + 1 := by
    have := hI.1
    simp at h; omega
   rw [hI.2.2.2 this]
   exact VLe.refl _
 exact Eq.mp (by kernel_rfl) key
theorem qWF : q0T Tryz.prog 246 qOx := by
 refine q09 q1C (pol := 1) Tryz.func246 rfl (by kernel_rfl) fun args bin ob r bout hDe hob => ?_
 unfold qOx at hDe
 split at hDe
 ·rename_i a0 a1
  cases hDe
  exact okB (qZN a0 a1 (hob)) x1h (args_of_vles ⟨VLe.refl _, VLe.refl _, trivial⟩)
 ·cases hDe
def q4h {α : Type} (q : α → Bool) (xs : List α) : Int := match xs.findIdx? q with
 | some i => i
 | none => -1
theorem q3h {α : Type} [Inhabited α] {q : α → Bool} {xs : List α} (h : ∀ j, j < xs.length → q (xs.getD j default) = false) : q4h q xs = -1 := by
 unfold q4h
 have : xs.findIdx? q = none := by
  rw [List.findIdx?_eq_none_iff]
  intro x hx
  obtain ⟨j, hj, rfl⟩ := List.getElem_of_mem hx
  have := h j hj
  simpa [hj] using this
 rw [this]
theorem q33 {α : Type} [Inhabited α] {q : α → Bool} {xs : List α} {i : Nat} (hi : i < xs.length) (h : ∀ j, j < i → q (xs.getD j default) = false) (hq : q (xs.getD i default) = true) : q4h q xs = i := by
 unfold q4h
 have : xs.findIdx? q = some i := by
  rw [List.findIdx?_eq_some_iff_getElem]
  refine ⟨hi, by simpa [hi] using hq, fun j hj => ?_⟩
  have := h j hj
  have hjl : j < xs.length := by omega
  simpa [hjl] using this
 rw [this]
theorem q7L {α : Type} (q : α → Bool) (xs : List α) : decide (0 ≤ q4h q xs) = xs.any q := by
 unfold q4h
 cases h : xs.findIdx? q with
 | none =>
  rw [List.findIdx?_eq_none_iff] at h
  have : xs.any q = false := by rw [List.any_eq_false]; intro x hx; simp [h x hx]
  simp [this]
 | some i =>
  obtain ⟨hi, hp, _⟩ := List.findIdx?_eq_some_iff_getElem.1 h
  have : xs.any q = true := List.any_eq_true.2 ⟨xs[i], List.getElem_mem hi, hp⟩
  simp [this]
theorem q9q {α : Type} [Inhabited α] {q : α → Bool} {xs : List α} {i : Nat} (h : q4h q xs = (i : Int)) : i < xs.length ∧ q (xs.getD i default) = true ∧ ∀ j, j < i → q (xs.getD j default) = false := by
 unfold q4h at h
 cases hf : xs.findIdx? q with
 | none =>
  rw [hf] at h
  exact absurd (show (-1 : Int) = i from h) (by omega)
 | some k =>
  rw [hf] at h
  have hk : k = i := by
   have : (k : Int) = i := h
   omega
  subst hk
  obtain ⟨h1, h2, h3⟩ := List.findIdx?_eq_some_iff_getElem.1 hf
  refine ⟨h1, by simpa [h1] using h2, fun j hj => ?_⟩
  have hjl : j < xs.length := by omega
  have := h3 j hj
  simpa [hjl] using this
theorem qT1 {α : Type} (q : α → Bool) (xs : List α) : -1 ≤ q4h q xs := by
 unfold q4h
 split <;> omega
def q1w (e : Nat → Int) : Nat → Int
 | 0 => 0
 | n + 1 => if q1w e n ≠ 0 then q1w e n else e n
theorem q4X {e : Nat → Int} {i : Nat} (h : q1w e i = 0) (hi : e i ≠ 0) : ∀ n, i < n → q1w e n = e i
 | 0, g => by omega
 | n + 1, g => by
  unfold q1w
  by_cases c : i = n
  ·subst c; rw [if_neg (by simpa using h)]
  ·have := q4X h hi n (by omega)
   rw [this, if_pos hi]
theorem q4U {e : Nat → Int} {i : Nat} (h : q1w e i = 0) (hi : e i = 0) : q1w e (i + 1) = 0 := by
 unfold q1w; rw [if_neg (by simpa using h), hi]
theorem q7p {e : Nat → Int} : ∀ {n : Nat}, q1w e n = 0 → ∀ i, i < n → e i = 0
 | 0, _, i, h => by omega
 | n + 1, h, i, hi => by
  unfold q1w at h
  split at h
  ·rename_i c; exact absurd h c
  ·rename_i c
   by_cases e1 : i = n
   ·subst e1; exact h
   ·exact q7p (Classical.not_not.1 c) i (by omega)
def q2J (n : Nat) (left : Int) : Int := if left - n < 0 then -1 else left - n
theorem q7s (n : Nat) (left : Int) : q2J n left ≤ left ∨ q2J n left < 0 := by unfold q2J; split <;> omega
theorem qPZ {n : Nat} {left : Int} (h : ¬ q2J n left < 0) : (n : Int) ≤ left := by unfold q2J at h; split at h <;> omega
def szA {α : Type} (f : α → Int → Int) : List α → Int → Int
 | [], v => v
 | x :: r, v => if f x v < 0 then -1 else szA f r (f x v)
def szS {α : Type} (f : α → Int → Int) (xs : List α) (left : Int) : Int := if left - xs.length < 0 then -1 else szA f xs (left - xs.length)
theorem qMk {α : Type} {f : α → Int → Int} {xs : List α} {left : Int} (h : left - xs.length < 0) : szS f xs left = -1 := if_pos h
theorem qL4 {α : Type} {f : α → Int → Int} {xs : List α} {left : Int} (h : ¬ left - xs.length < 0) : szS f xs left = szA f (xs.drop 0) (left - xs.length) := if_neg h
theorem qIm {α : Type} [Inhabited α] (f : α → Int → Int) {xs : List α} {i : Nat} (h : i < xs.length) (v : Int) : szA f (xs.drop i) v = if f (xs.getD i default) v < 0 then -1 else szA f (xs.drop (i + 1)) (f (xs.getD i default) v) := by
 have e : xs.getD i default = xs[i] := by simp [h]
 rw [List.drop_eq_getElem_cons h, e]
 rfl
theorem qPt {α : Type} {f : α → Int → Int} {xs : List α} {left : Int} (h : ¬ szS f xs left < 0) : (xs.length : Int) ≤ left := by
 unfold szS at h
 split at h <;> omega
section
variable {α : Type} [Inhabited α]
def qFl (p : α → Bool) : List α → Nat
 | [] => 0
 | x :: r => if p x = true then qFl p r + 1 else 0
theorem qHN {p : α → Bool} : ∀ {l : List α} {i : Nat}, i ≤ l.length → (∀ k, k < i → p (l.getD k default) = true) → (i < l.length → p (l.getD i default) = false) → qFl p l = i
 | [], i, hi, _, _ => by simp at hi; simp [qFl, hi]
 | x :: r, 0, _, _, h => by
  have := h (by simp)
  simp at this
  simp [qFl, this]
 | x :: r, i + 1, hi, h1, h2 => by
  have h0 := h1 0 (by omega)
  simp at h0
  have := qHN (l := r) (i := i) (by simpa using hi) (fun k hk => by simpa using h1 (k + 1) (by omega)) (fun hk => by simpa using h2 (by simpa using hk))
  simp [qFl, h0, this]
omit [Inhabited α] in
theorem q7G {p : α → Bool} : ∀ {l : List α}, qFl p l ≤ l.length
 | [] => by simp [qFl]
 | x :: r => by unfold qFl; split <;> simp [q7G (l := r)]
theorem qBc {p : α → Bool} : ∀ {l : List α} {k : Nat}, k < qFl p l → p (l.getD k default) = true
 | [], k, h => by simp [qFl] at h
 | x :: r, 0, h => by
  unfold qFl at h
  split at h
  ·rename_i c; simpa using c
  ·omega
 | x :: r, k + 1, h => by
  unfold qFl at h
  split at h
  ·simpa using qBc (l := r) (k := k) (by omega)
  ·omega
theorem qHI {p : α → Bool} : ∀ {l : List α}, qFl p l < l.length → p (l.getD (qFl p l) default) = false
 | [], h => by simp at h
 | x :: r, h => by
  unfold qFl at h ⊢
  split
  ·rename_i c
   rw [if_pos c] at h
   simpa using qHI (l := r) (by simpa using h)
  ·rename_i c
   simpa using c
end
noncomputable def q4O (z : q03) : Int :=
 if q10 z.path ≠ 0 then q10 z.path else if ¬ (inR z.data 0 9999 ∧ inR z.version 0 999 ∧ inR z.owner 0 9 ∧ inR z.next 0 100) then 3 else 0
abbrev atZ (l : List q03) (i : Nat) : q03 := l.getD i default
noncomputable def q3d (l : List q03) (i : Nat) : Int :=
 if q4O (atZ l i) ≠ 0 then q4O (atZ l i) else if 0 < i ∧ ¬ lt (atZ l (i - 1)).path (atZ l i).path then 1 else 0
noncomputable def q9R (t : ByteArray) (z : q03) : Bool := decide (z.path = t)
noncomputable def atN (l : List q03) (t : ByteArray) : Int := q4h (q9R t) l
def qNh (l : List q03) : Prop := ∃ z ∈ l, atN l (upF z.path) < 0
def qAo (l : List q03) : Prop := ∃ z ∈ l, (atZ l (atN l (upF z.path)).toNat).owner ≠ 0
noncomputable instance (l : List q03) : Decidable (qNh l) := Classical.propDecidable _
noncomputable instance (l : List q03) : Decidable (qAo l) := Classical.propDecidable _
noncomputable def q0p (l : List q03) : Int :=
 if 20 < l.length then 2 else if q1w (q3d l) l.length ≠ 0 then q1w (q3d l) l.length
 else if atN l top < 0 then 4 else if qNh l then 4 else if qAo l then 1 else 0
def q3Z (l : List q03) : Prop := ∀ i j, i < j → j < l.length → lt (atZ l i).path (atZ l j).path
theorem qLO {l : List q03} (h : ∀ i, 0 < i → i < l.length → lt (atZ l (i - 1)).path (atZ l i).path) : q3Z l := by
 intro i j hij hj
 induction j with
 | zero => omega
 | succ j ih =>
  have h1 := h (j + 1) (by omega) hj
  simp only [Nat.add_sub_cancel] at h1
  by_cases e : i = j
  ·subst e; exact h1
  ·exact lt_trans (ih (by omega) (by omega)) h1
theorem q3F {l : List q03} (h : q1w (q3d l) l.length = 0) : q3Z l := qLO fun i h0 hi => by
 have := q7p h i hi
 unfold q3d at this
 split at this
 ·rename_i c; exact absurd this c
 ·split at this
  ·cases this
  ·rename_i c
   exact Classical.byContradiction fun g => c ⟨h0, g⟩
theorem q84 {l : List q03} (h : q1w (q3d l) l.length = 0) {i : Nat} (hi : i < l.length) : q4O (atZ l i) = 0 := by
 have := q7p h i hi
 unfold q3d at this
 split at this
 ·rename_i c; exact absurd this c
 ·rename_i c; exact Classical.not_not.1 c
theorem q8P {z : q03} (h : q4O z = 0) : q10 z.path = 0 := by
 unfold q4O at h
 split at h
 ·rename_i c; exact absurd h c
 ·rename_i c; exact Classical.not_not.1 c
theorem qJs {z : q03} (h : q4O z = 0) : inR z.data 0 9999 ∧ inR z.version 0 999 ∧ inR z.owner 0 9 ∧ inR z.next 0 100 := by
 unfold q4O at h
 split at h
 ·rename_i c; exact absurd h c
 ·split at h
  ·cases h
  ·rename_i c; exact Classical.not_not.1 c
noncomputable def qCh (t : ByteArray) (z : q03) : Bool := decide (lt z.path t)
noncomputable def q20 (l : List q03) (t : ByteArray) : Nat := qFl (qCh t) l
noncomputable def isZ (l : List q03) (t : ByteArray) : Bool := decide (q20 l t < l.length ∧ (atZ l (q20 l t)).path = t)
theorem qAm {l : List q03} {t : ByteArray} {i : Nat} (hi : i ≤ l.length) (h1 : ∀ k, k < i → lt (atZ l k).path t) (h2 : i < l.length → ¬ lt (atZ l i).path t) : q20 l t = i :=
 qHN hi (fun k hk => decide_eq_true (h1 k hk)) (fun hk => decide_eq_false (h2 hk))
theorem q9K {l : List q03} (hr : q3Z l) (t : ByteArray) : atN l t = if isZ l t = true then (q20 l t : Int) else -1 := by
 unfold atN
 split
 ·rename_i h
  obtain ⟨h1, h2⟩ := of_decide_eq_true h
  refine q33 h1 (fun j hj => ?_) (decide_eq_true h2)
  refine decide_eq_false fun e => ?_
  have := of_decide_eq_true (qBc (p := qCh t) (l := l) (k := j) hj)
  rw [e] at this
  exact lt_irrefl _ this
 ·rename_i h
  refine q3h fun j hj => decide_eq_false fun e => ?_
  have hp : q20 l t = j := qAm (Nat.le_of_lt hj) (fun k hk => by have := hr k j hk hj; rw [e] at this; exact this) (fun _ => by rw [e]; exact lt_irrefl _)
  exact h (decide_eq_true ⟨by rw [hp]; exact hj, by rw [hp]; exact e⟩)
theorem q3e {l : List q03} (hr : q3Z l) (t : ByteArray) : atN l t < 0 ↔ isZ l t = false := by
 rw [q9K hr]
 cases isZ l t <;> simp <;> omega
theorem q5G {l : List q03} (hr : q3Z l) {t : ByteArray} (h : isZ l t = true) : (atN l t).toNat = q20 l t ∧ q20 l t < l.length ∧ (atZ l (q20 l t)).path = t := by
 rw [q9K hr, if_pos h]
 exact ⟨by simp, of_decide_eq_true h⟩
theorem qAC {l : List q03} (h : q1w (q3d l) l.length = 0) (ht : isZ l top = true) : (atZ l 0).path = top ∧ 0 < l.length := by
 have hr := q3F h
 obtain ⟨_, h1, h2⟩ := q5G hr ht
 refine ⟨?_, by omega⟩
 by_cases e : q20 l top = 0
 ·rw [e] at h2; exact h2
 ·have := hr 0 (q20 l top) (by omega) h1
  rw [h2] at this
  exact absurd this (qV2 (q3p (q8P (q84 h (by omega)))))
theorem qMV : upF top = top := by
 unfold upF q1S
 have : q2a top top.size = 0 := by
  show q2a top 1 = 0
  unfold q2a
  split
  ·rfl
  ·rfl
 rw [if_pos this]
theorem q6H (l : List q03) (j : Nat) : l.tail.getD j default = atZ l (j + 1) := by
 unfold atZ
 rw [List.getD_eq_getElem?_getD, List.getD_eq_getElem?_getD, List.getElem?_tail]
theorem q4A {l : List q03} {i : Nat} (h : i < l.length) : atZ l i ∈ l := by
 unfold atZ
 rw [List.getD_eq_getElem?_getD, List.getElem?_eq_getElem h]
 exact List.getElem_mem h
theorem qBM {l : List q03} {z : q03} (h : z ∈ l) : ∃ i, i < l.length ∧ z = atZ l i := by
 obtain ⟨i, hi, rfl⟩ := List.getElem_of_mem h
 exact ⟨i, hi, by simp [atZ, hi]⟩
theorem qI5 {l : List q03} (hz : q1w (q3d l) l.length = 0) (ht : isZ l top = true) : qNh l ↔ ∃ j, j < l.tail.length ∧ isZ l (upF (l.tail.getD j default).path) = false := by
 have hr := q3F hz
 obtain ⟨f1, f2⟩ := qAC hz ht
 constructor
 ·rintro ⟨z, hz1, h⟩
  obtain ⟨i, hi, rfl⟩ := qBM hz1
  have h' := (q3e hr _).1 h
  cases i with
  | zero =>
   rw [f1, qMV, ht] at h'
   cases h'
  | succ i => exact ⟨i, by rw [List.length_tail]; omega, by rw [q6H]; exact h'⟩
 ·rintro ⟨j, hj, h⟩
  have hj' : j + 1 < l.length := by rw [List.length_tail] at hj; omega
  exact ⟨atZ l (j + 1), q4A hj', (q3e hr _).2 (by rw [← q6H]; exact h)⟩
noncomputable def q5F (l : List q03) : Nat → Bool
 | 0 => (atZ l 0).owner != 0
 | i + 1 => bif q5F l i then true else (atZ l (q20 l (upF (l.tail.getD i default).path))).owner != 0
theorem qFJ (l : List q03) : ∀ n, q5F l n = true ↔ (atZ l 0).owner ≠ 0 ∨ ∃ j, j < n ∧ (atZ l (q20 l (upF (l.tail.getD j default).path))).owner ≠ 0
 | 0 => by
  unfold q5F
  rw [bne_iff_ne]
  exact ⟨Or.inl, fun h => h.elim id fun ⟨j, hj, _⟩ => absurd hj (Nat.not_lt_zero j)⟩
 | n + 1 => by
  have ih := qFJ l n
  have e : q5F l (n + 1) = bif q5F l n then true else (atZ l (q20 l (upF (l.tail.getD n default).path))).owner != 0 := rfl
  rw [e]
  cases h : q5F l n with
  | true =>
   refine ⟨fun _ => ?_, fun _ => rfl⟩
   rcases ih.1 h with g | ⟨j, hj, g⟩
   ·exact Or.inl g
   ·exact Or.inr ⟨j, by omega, g⟩
  | false =>
   have hn : ¬ ((atZ l 0).owner ≠ 0 ∨ ∃ j, j < n ∧ (atZ l (q20 l (upF (l.tail.getD j default).path))).owner ≠ 0) := fun g => by
    rw [ih.2 g] at h; cases h
   simp only [cond_false]
   rw [bne_iff_ne]
   constructor
   ·exact fun g => Or.inr ⟨n, by omega, g⟩
   ·rintro (g | ⟨j, hj, g⟩)
    ·exact absurd (Or.inl g) hn
    ·by_cases ej : j = n
     ·rw [← ej]; exact g
     ·exact absurd (Or.inr ⟨j, by omega, g⟩) hn
theorem qKA {l : List q03} (hz : q1w (q3d l) l.length = 0) (ht : isZ l top = true) (hn : ∀ j, j < l.tail.length → isZ l (upF (l.tail.getD j default).path) = true) :
  qAo l ↔ q5F l l.tail.length = true := by
 have hr := q3F hz
 obtain ⟨f1, f2⟩ := qAC hz ht
 obtain ⟨t1, t2, t3⟩ := q5G hr ht
 have p0 : q20 l top = 0 := by
  apply Classical.byContradiction
  intro h
  have := hr 0 (q20 l top) (by omega) t2
  rw [f1, t3] at this
  exact lt_irrefl _ this
 rw [qFJ]
 constructor
 ·rintro ⟨z, hz1, h⟩
  obtain ⟨i, hi, rfl⟩ := qBM hz1
  cases i with
  | zero =>
   rw [f1, qMV, t1, p0] at h
   exact Or.inl h
  | succ i =>
   have hi' : i < l.tail.length := by rw [List.length_tail]; omega
   have h2 := hn i hi'
   have h3 := (q5G hr h2).1
   rw [← q6H, h3] at h
   exact Or.inr ⟨i, hi', h⟩
 ·rintro (h | ⟨j, hj, h⟩)
  ·refine ⟨atZ l 0, q4A f2, ?_⟩
   rw [f1, qMV, t1, p0]
   exact h
  ·have hj' : j + 1 < l.length := by rw [List.length_tail] at hj; omega
   refine ⟨atZ l (j + 1), q4A hj', ?_⟩
   rw [← q6H, (q5G hr (hn j hj)).1]
   exact h
theorem qDF {α : Type} (q : α → Bool) (xs : List α) : q4h q xs < xs.length ∨ q4h q xs = -1 := by
 unfold q4h
 cases h : xs.findIdx? q with
 | none => exact Or.inr rfl
 | some i =>
  obtain ⟨hi, _⟩ := List.findIdx?_eq_some_iff_getElem.1 h
  left
  simp only
  omega
theorem qMZ {l : List q03} (h : q0p l = 0) : l.length ≤ 20 ∧ q1w (q3d l) l.length = 0 ∧ isZ l top = true := by
 unfold q0p at h
 split at h
 ·cases h
 ·rename_i h1
  split at h
  ·rename_i h2; exact absurd h h2
  ·rename_i h2
   have hz := Classical.not_not.1 h2
   split at h
   ·cases h
   ·rename_i h3
    refine ⟨by omega, hz, ?_⟩
    cases hc : isZ l top with
    | true => rfl
    | false => exact absurd ((q3e (q3F hz) _).2 hc) h3
theorem qGa {l : List q03} (h : q0p l = 0) : q3Z l := q3F (qMZ h).2.1
def qKS (n : Int) : ByteArray := q4g 1 (q2o [.int .u8 (48 + n)])
theorem qBV (n : Int) : (qKS n).size = 1 := rfl
def q42 (s : ByteArray) (n : Int) : ByteArray := s ++ qKS (n.tdiv 10) ++ qKS (n.tmod 10)
def q1n (p s : ByteArray) : ByteArray := if p = top then top ++ s else p ++ top ++ s
noncomputable def qKx (l : List q03) (z : q03) : List q03 := l.take (q20 l z.path) ++ z :: l.drop (q20 l z.path)
theorem qOT (l : List q03) (z : q03) : (qKx l z).length = l.length + 1 := by
 have h : q20 l z.path ≤ l.length := q7G
 unfold qKx
 rw [List.length_append, List.length_cons, List.length_take, List.length_drop]
 omega
noncomputable def upN (l : List q03) (p : ByteArray) : Nat := (atN l (upF p)).toNat
noncomputable def q3Q (l : List q03) (i : Nat) : List q03 := l.set i ⟨(atZ l i).path, (atZ l i).data, (atZ l i).version, (atZ l i).owner, (atZ l i).next + 1⟩
noncomputable def q4q (l out : List q03) (p : ByteArray) (data owner : Int) : q0F :=
 if 0 ≤ atN l p then ⟨6, q1Q, []⟩ else if 20 ≤ l.length then ⟨2, q1Q, []⟩ else ⟨0, p, qKx out ⟨p, data, 0, owner, 0⟩⟩
noncomputable def q2I (l : List q03) (p : ByteArray) (data owner : Int) (seq : Bool) : q0F :=
 if ¬ (inR data 0 9999 ∧ inR owner 0 9) then ⟨3, q1Q, []⟩
 else if p = top then ⟨1, q1Q, []⟩
 else if atN l (upF p) < 0 then ⟨4, q1Q, []⟩
 else if (atZ l (upN l p)).owner ≠ 0 then ⟨8, q1Q, []⟩
 else if seq = false then q4q l l p data owner
 else if 100 ≤ (atZ l (upN l p)).next then ⟨3, q1Q, []⟩
 else if ¬ q4C (q42 (q35 p) (atZ l (upN l p)).next) then ⟨5, q1Q, []⟩
 else if q10 (q1n (upF p) (q42 (q35 p) (atZ l (upN l p)).next)) ≠ 0 then ⟨q10 (q1n (upF p) (q42 (q35 p) (atZ l (upN l p)).next)), q1Q, []⟩
 else q4q l (q3Q l (upN l p)) (q1n (upF p) (q42 (q35 p) (atZ l (upN l p)).next)) data owner
noncomputable def q48 (l : List q03) (i : Nat) (data : Int) : List q03 := l.set i ⟨(atZ l i).path, data, (atZ l i).version + 1, (atZ l i).owner, (atZ l i).next⟩
noncomputable def q2H (l : List q03) (p : ByteArray) (data v : Int) : q0F :=
 if ¬ inR data 0 9999 then ⟨3, q1Q, []⟩
 else if atN l p < 0 then ⟨4, q1Q, []⟩
 else if v ≠ -1 ∧ v ≠ (atZ l (atN l p).toNat).version then ⟨7, q1Q, []⟩
 else if 999 ≤ (atZ l (atN l p).toNat).version then ⟨2, q1Q, []⟩
 else ⟨0, q1Q, q48 l (atN l p).toNat data⟩
noncomputable def q1F (l : List q03) (p : ByteArray) : List ByteArray := (l.filter fun z => decide (z.path ≠ top ∧ upF z.path = p)).map fun z => q35 z.path
noncomputable def q34 (l : List q03) (p : ByteArray) (v : Int) : q0F :=
 if p = top then ⟨1, q1Q, []⟩
 else if atN l p < 0 then ⟨4, q1Q, []⟩
 else if v ≠ -1 ∧ v ≠ (atZ l (atN l p).toNat).version then ⟨7, q1Q, []⟩
 else if q1F l p ≠ [] then ⟨8, q1Q, []⟩
 else ⟨0, q1Q, l.take (atN l p).toNat ++ l.drop ((atN l p).toNat + 1)⟩
theorem qKM (l : List q03) (p : ByteArray) (data owner : Int) (seq : Bool) : (q2I l p data owner seq).nodes.length ≤ l.length + 1 := by
 have hp : ∀ out q, out.length = l.length → (q4q l out q data owner).nodes.length ≤ l.length + 1 := by
  intro out q ho
  unfold q4q
  split
  ·exact Nat.zero_le _
  split
  ·exact Nat.zero_le _
  ·show (qKx _ _).length ≤ _
   rw [qOT]
   omega
 unfold q2I
 repeat' split
 all_goals first | exact Nat.zero_le _ | exact hp _ _ rfl | exact hp _ _ (by unfold q3Q; rw [List.length_set])
def isS (id : Int) (s : q06) : Bool := decide (s.id = id)
def sAt (l : List q06) (id : Int) : Int := q4h (isS id) l
def qQK (id : Int) (s : q06) : Bool := decide (s.id < id)
def q8N (l : List q06) (id : Int) : Nat := qFl (qQK id) l
def q9Y (l : List q06) (id : Int) : Bool := decide (q8N l id < l.length ∧ (l.getD (q8N l id) default).id = id)
def qOl (l : List q06) : Prop := ∀ i j, i < j → j < l.length → (l.getD i default).id < (l.getD j default).id
theorem qHO {l : List q06} {id : Int} {i : Nat} (hi : i ≤ l.length) (h1 : ∀ k, k < i → (l.getD k default).id < id) (h2 : i < l.length → ¬ (l.getD i default).id < id) : q8N l id = i :=
 qHN hi (fun k hk => decide_eq_true (h1 k hk)) fun h => decide_eq_false (h2 h)
theorem qQ7 {l : List q06} (hr : qOl l) (id : Int) : sAt l id = if q9Y l id = true then (q8N l id : Int) else -1 := by
 by_cases h : q9Y l id = true
 ·rw [if_pos h]
  obtain ⟨h1, h2⟩ := of_decide_eq_true h
  refine q33 h1 (fun j hj => ?_) (decide_eq_true h2)
  have h3 := of_decide_eq_true (qBc (p := qQK id) (l := l) hj)
  exact decide_eq_false fun e => by omega
 ·rw [if_neg h]
  refine q3h fun j hj => decide_eq_false fun e => h ?_
  have hp : q8N l id = j := qHO (by omega) (fun k hk => by have := hr k j hk hj; omega) fun _ => by omega
  exact decide_eq_true ⟨by rw [hp]; exact hj, by rw [hp]; exact e⟩
theorem qSY (l : List q06) (id : Int) : q8N l id ≤ l.length := q7G
def q8I (l : List q06) (id now : Int) : Bool := decide (0 ≤ sAt l id ∧ now ≤ (l.getD (sAt l id).toNat default).upto)
def q37 (l : List q06) (id now : Int) : q0R :=
 if 0 ≤ sAt l id then ⟨6, []⟩ else if 6 ≤ l.length then ⟨2, []⟩ else ⟨0, l.take (q8N l id) ++ ⟨id, now + 10⟩ :: l.drop (q8N l id)⟩
def q1z (l : List q06) (id : Int) : List q06 := l.filter fun s => decide (s.id ≠ id)
def q0t (ids : List Int) (z : q03) : Bool := decide (z.owner ≠ 0 ∧ z.owner ∈ ids)
def q28 (l : List q03) (ids : List Int) : List q03 := l.filter fun z => !q0t ids z
def okK (k : Int) : Prop := inR k 1 8
noncomputable instance (k : Int) : Decidable (okK k) := Classical.propDecidable _
def q6x (k : Int) : Prop := inR k 3 8
def q91 (k : Int) : Prop := k = 3 ∨ k = 5
def q94 (k : Int) : Prop := k = 4 ∨ k = 5 ∨ k = 8
noncomputable instance (k : Int) : Decidable (q6x k) := Classical.propDecidable _
noncomputable instance (k : Int) : Decidable (q91 k) := Classical.propDecidable _
noncomputable instance (k : Int) : Decidable (q94 k) := Classical.propDecidable _
noncomputable def opF (o : TOp) : Int :=
 if ¬ okK o.kind ∨ (¬ q6x o.kind ∧ o.path ≠ q1Q) ∨ (¬ q91 o.kind ∧ o.data ≠ 0) ∨ (¬ q94 o.kind ∧ o.version ≠ 0) ∨ (o.kind ≠ 3 ∧ (o.seq = true ∨ o.own = true)) then 1
 else if ¬ q6x o.kind then 0
 else if q10 o.path ≠ 0 then q10 o.path
 else if ¬ (inR o.data 0 9999 ∧ inR o.version (-1) 999) then 3 else 0
noncomputable def q3G (l : List q03) (o : TOp) : q0W :=
 if atN l o.path < 0 then ⟨4, 0, q1Q⟩
 else if o.kind = 6 then ⟨0, (atZ l (atN l o.path).toNat).data, q1Q⟩
 else if o.kind = 7 then ⟨0, (q1F l o.path).length, q1Q⟩
 else if o.version ≠ -1 ∧ o.version ≠ (atZ l (atN l o.path).toNat).version then ⟨7, 0, q1Q⟩
 else ⟨0, (atZ l (atN l o.path).toNat).version, q1Q⟩
def q5H (s : q05) (r : q0F) (value : Int) : q05 × q0W :=
 if r.code ≠ 0 then (s, ⟨r.code, 0, q1Q⟩) else (⟨r.nodes, s.sessions, s.now, s.marks⟩, ⟨0, value, r.path⟩)
noncomputable def qPP (l : List q03) (p : ByteArray) : Int := if 0 ≤ atN l p then (atZ l (atN l p).toNat).version + 1 else 0
noncomputable def doF (s : q05) (c : Int) (o : TOp) : q05 × q0W :=
 if o.kind = 1 then
  if (q37 s.sessions c s.now).code ≠ 0 then (s, ⟨(q37 s.sessions c s.now).code, 0, q1Q⟩) else (⟨s.nodes, (q37 s.sessions c s.now).sessions, s.now, s.marks⟩, ⟨0, 0, q1Q⟩)
 else if ¬ q8I s.sessions c s.now = true then (s, ⟨9, 0, q1Q⟩)
 else if o.kind = 2 then (⟨q28 s.nodes [c], q1z s.sessions c, s.now, s.marks⟩, ⟨0, 0, q1Q⟩)
 else if o.kind = 3 then q5H s (q2I s.nodes o.path o.data (if o.own = true then c else 0) o.seq) 0
 else if o.kind = 4 then q5H s (q34 s.nodes o.path o.version) 0
 else if o.kind = 5 then q5H s (q2H s.nodes o.path o.data o.version) (qPP s.nodes o.path)
 else (s, q3G s.nodes o)
theorem qMA (c : Int) : q0Y (.ptr [.int .i64 c] 0 1) = c := rfl
theorem q3V {α : Type} [Inhabited α] {l : List α} {i : Nat} (h : i < l.length) : l.take (i + 1) = l.take i ++ [l.getD i default] := by
 rw [List.take_add_one]
 simp [h]
theorem qBB {α : Type} [Inhabited α] (xs : List α) (i j : Nat) (x : α) : (xs.set i x).getD j default = if i = j ∧ i < xs.length then x else xs.getD j default := by
 simp only [List.getD_eq_getElem?_getD, List.getElem?_set]
 by_cases h : i = j
 ·subst h
  by_cases h2 : i < xs.length
  ·simp [h2]
  ·simp [h2]
 ·simp [h]
def qGK {α : Type} [Inhabited α] (q : α → Bool) (l : List α) (i j : Nat) (ys : List α) : Prop :=
 ys.length = l.length ∧ i < j ∧ j ≤ l.length ∧ ys.take i = (l.take j).filter (fun x => !q x) ∧ ∀ k, j ≤ k → k < l.length → ys.getD k default = l.getD k default
theorem qAs {α : Type} [Inhabited α] {q : α → Bool} {l : List α} {n : Nat} (hn : n ≤ l.length) (h : ∀ j, j < n → q (l.getD j default) = false) : (l.take n).filter (fun x => !q x) = l.take n := by
 rw [List.filter_eq_self]
 intro x hx
 obtain ⟨j, hj, rfl⟩ := List.getElem_of_mem hx
 have hj' : j < n := by rw [List.length_take] at hj; omega
 have := h j hj'
 rw [List.getElem_take]
 simpa [show j < l.length by omega] using this
theorem qM8 {α : Type} {q : α → Bool} {x : α} : (q x = true → [x].filter (fun x => !q x) = []) ∧ (q x = false → [x].filter (fun x => !q x) = [x]) := ⟨fun h => by simp [h], fun h => by simp [h]⟩
theorem qG9 {α : Type} [Inhabited α] {q : α → Bool} {l : List α} {i : Nat} (h : q4h q l = (i : Int)) : qGK q l i (i + 1) l := by
 obtain ⟨h1, h2, h3⟩ := q9q h
 refine ⟨rfl, by omega, h1, ?_, fun _ _ _ => rfl⟩
 rw [q3V h1, List.filter_append, qAs (by omega) h3, qM8.1 h2, List.append_nil]
theorem qHl {α : Type} [Inhabited α] {q : α → Bool} {l : List α} (h : q4h q l = -1) : l.filter (fun x => !q x) = l := by
 have := qAs (q := q) (l := l) (n := l.length) (Nat.le_refl _) fun j hj => by
  cases hq : q (l.getD j default) with
  | false => rfl
  | true =>
   exfalso
   have h2 := q7L q l
   rw [h] at h2
   have : l.any q = true := List.any_eq_true.2 ⟨l.getD j default, by simp [hj], hq⟩
   rw [this] at h2
   simp at h2
 rwa [List.take_length] at this
theorem qHi {α : Type} [Inhabited α] {q : α → Bool} {l ys : List α} {i j : Nat} (h : qGK q l i j ys) (hj : j < l.length) (hq : q (l.getD j default) = false) : qGK q l (i + 1) (j + 1) (ys.set i (l.getD j default)) := by
 obtain ⟨h1, h2, h3, h4, h5⟩ := h
 refine ⟨by rw [List.length_set]; exact h1, by omega, by omega, ?_, fun k hk hl => ?_⟩
 ·have hi : i < (ys.set i (l.getD j default)).length := by rw [List.length_set]; omega
  rw [q3V hi, q3V hj, List.filter_append, ← h4, qBB, if_pos ⟨rfl, by omega⟩]
  rw [qM8.2 hq, List.take_set_of_le (Nat.le_refl i)]
 ·rw [qBB, if_neg (by omega)]
  exact h5 k (by omega) hl
theorem qHm {α : Type} [Inhabited α] {q : α → Bool} {l ys : List α} {i j : Nat} (h : qGK q l i j ys) (hj : j < l.length) (hq : q (l.getD j default) = true) : qGK q l i (j + 1) ys := by
 obtain ⟨h1, h2, h3, h4, h5⟩ := h
 refine ⟨h1, by omega, by omega, ?_, fun k hk hl => h5 k (by omega) hl⟩
 rw [q3V hj, List.filter_append, ← h4, qM8.1 hq, List.append_nil]
theorem qLk {α : Type} [Inhabited α] {q : α → Bool} {l ys : List α} {i : Nat} (h : qGK q l i l.length ys) : ys.take i = l.filter (fun x => !q x) := by
 obtain ⟨h1, h2, h3, h4, h5⟩ := h
 rwa [List.take_length] at h4
theorem qNR {α : Type} [Inhabited α] {enc : α → V} {sz i k : Nat} {ys zs : List α} {z : Nat → V} (h : ys.take i = zs) (hi : i ≤ ys.length) : BLe (.arr sz i (q2f (gL enc ys) i k z) q0i) (.arr sz zs.length (gL enc zs) q0i) := by
 subst h
 have e : (ys.take i).length = i := by rw [List.length_take]; omega
 rw [e]
 refine q1B (fun j hj => ?_) (Or.inl rfl)
 have e2 : q2f (gL enc ys) i k z j = gL enc (ys.take i) j := by
  unfold q2f gL
  rw [if_neg (by omega)]
  congr 1
  simp [List.getD_eq_getElem?_getD, List.getElem?_take, hj]
 rw [e2]
 exact ELe.refl _
theorem qI9 {α : Type} [Inhabited α] {enc : α → V} {sz n i te : Nat} {xs : List α} {v : V} {x : α} (hi : i < xs.length) (h : v = enc x) :
  BLe (.arr sz n (q5d (gL enc xs) i v) te) (.arr sz n (gL enc (xs.set i x)) te) := by
 subst h
 refine q1B (fun k hk => ?_) (Or.inl rfl)
 have e : q5d (gL enc xs) i (enc x) k = gL enc (xs.set i x) k := by
  rw [q2G]
  unfold gL
  rw [qBB]
  by_cases e : k = i
  ·subst e; rw [if_pos rfl, if_pos ⟨rfl, hi⟩]
  ·rw [if_neg e, if_neg (fun h => e h.1.symm)]
 rw [e]
 exact ELe.refl _
theorem qLX {α : Type} {q : α → Bool} {l : List α} (h : (q4h q l == -1) = false) : ∃ i : Nat, q4h q l = (i : Int) := by
 have h1 := qT1 q l
 have h2 : ¬ q4h q l = -1 := by simpa using h
 exact ⟨(q4h q l).toNat, by omega⟩
def qPS (x : q06) (c : Int) : Prop := True
noncomputable def qXN (x : q06) (c : Int) : V := .bool (isS c x)
noncomputable def qMw : q0G := fun args bin => match args, bin with
 | [a0, a1], [] => some (VLe a0 (q02 1 ((q08 a0))) ∧ VLe a1 (q0u 1 ((q0Y a1))) ∧ qPS (q08 a0) (q0Y a1), qXN (q08 a0) (q0Y a1), [])
 | _, _ => none
noncomputable def x7y : Nat → Option (Fl × q0G) := lk []
theorem x4Q : q0D Tryz.prog x7y := q07
noncomputable def x5M (x : q06) (c : Int) : Cx := ⟨tt, x7y, Tryz.f180.ntmps, [0, 1, 2, 3], [], [], fun _ => none, [], noM, []⟩
theorem x3r (x : q06) (c : Int) (hpre : qPS x c) : q0f (x5M x c) Tryz.f180 0 [q02 1 (x), q0u 1 (c)] (fun rr => VLe rr (qXN x c)) := by
 have key : (VLe (V.bool (q06.id x == c)) (V.bool (isS c x))) := by
  refine q0e ?_
  unfold isS
  rw [Bool.eq_iff_iff]
  simp
 exact Eq.mp (by kernel_rfl) key
theorem qT5 : q0T Tryz.prog 180 qMw := by
 refine q09 q1C (pol := 0) Tryz.func180 rfl (by kernel_rfl) fun args bin ob r bout hDe hob => ?_
 unfold qMw at hDe
 split at hDe
 ·rename_i a0 a1
  cases hDe
  exact okB (x3r (q08 a0) (q0Y a1) (hob.2.2)) x4Q (args_of_vles ⟨hob.1, hob.2.1, trivial⟩)
 ·cases hDe
def qAv (xs : List q06) (c : Int) : Prop := xs.length ≤ maxLen ∧ (True)
noncomputable def qF1 (xs : List q06) (c : Int) : V := .int .i64 (q4h (fun s => isS c s) xs)
noncomputable def qB7 : q0G := fun args bin => match args, bin with
 | [a0, .fn 180 [a1]], [] => some (VLe a0 (q0H (q02 1) 1 (((q0M q08) a0))) ∧ VLe a1 (q0u 1 ((q0Y a1))) ∧ qAv ((q0M q08) a0) (q0Y a1), qF1 ((q0M q08) a0) (q0Y a1), [])
 | _, _ => none
noncomputable def qGO (xs : List q06) (c : Int) : q0O :=
 ⟨Nat, fun i => ⟨[(0, q0H (q02 1) 1 xs), (1, .fn 180 [q0u 1 (c)]), (7, .int .i64 xs.length), (8, .int .i64 i)], []⟩,
  fun i => i ≤ xs.length ∧ ∀ j, j < i → (fun s => isS c s) (xs.getD j default) = false, fun i => xs.length - i⟩
noncomputable def qLm (xs : List q06) (c : Int) : Nat → Option q0O := fun rg_ => match rg_ with
 | 2 => some (qGO xs c)
 | _ => none
noncomputable def qHo : Nat → Option (Fl × q0G) := lk [(180, (.ro, qMw))]
theorem qKh : q0D Tryz.prog qHo := q01 qT5 (q07)
noncomputable def qMN (xs : List q06) (c : Int) : Cx := ⟨tt, qHo, Tryz.f236.ntmps, [0, 1, 4, 5, 7, 8, 9, 16], [(2, ⟨[(0, none), (1, none), (7, none), (8, none)], []⟩)], [], qLm xs c, [], noM, []⟩
noncomputable def q4S (xs : List q06) (x : Nat) : V := (q02 1 (List.getD xs (Int.toNat (↑x : Int)) default))
theorem qLZ (xs : List q06) (c : Int) (hpre : qAv xs c) : q0f (qMN xs c) Tryz.f236 0 [q0H (q02 1) 1 (xs), .fn 180 [q0u 1 (c)]] (fun rr => VLe rr (qF1 xs c)) := by
 have key : ((∃ x : Nat, ((SLe (AS.mk [(0, q0H (q02 1) 1 xs), (1, V.fn (180 : FuncId) [q0u 1 c]), (7, vi (↑(List.length xs) : Int)), (8, vi 0)] []) (AS.mk [(0, q0H (q02 1) 1 xs), (1, V.fn (180 : FuncId) [q0u 1 c]), (7, vi (↑(List.length xs) : Int)), (8, vi (↑x : Int))] [])) ∧ ((x ≤ List.length xs) ∧ (∀ j : Nat, ((j < x) → (isS c (List.getD xs j default) = false)))))) ∧ (∀ x : Nat, (((x ≤ List.length xs) ∧ (∀ j : Nat, ((j < x) → (isS c (List.getD xs j default) = false)))) → (((decide ((↑x : Int) < (↑(List.length xs) : Int)) = true) → ((((0 : Int) ≤ (↑x : Int)) ∧ ((↑x : Int) < (↑(List.length xs) : Int))) ∧ (((VLe (q4S xs x) (q02 1 (q08 (q4S xs x)))) ∧ ((VLe (V.ptr [vi c] 0 1) (q0u 1 (q0Y (V.ptr [vi c] 0 1)))) ∧ (qPS (q08 (q4S xs x)) (q0Y (V.ptr [vi c] 0 1))))) ∧ (((isS (q0Y (V.ptr [vi c] 0 1)) (q08 (q4S xs x)) = true) → (VLe (vi (↑x : Int)) (vi (q4h (fun (s : q06) ↦ isS c s) xs)))) ∧ ((isS (q0Y (V.ptr [vi c] 0 1)) (q08 (q4S xs x)) = false) → ((inK IntKind.i64 ((↑x : Int) + (1 : Int))) ∧ (∃ y : Nat, ((SLe (AS.mk [(0, q0H (q02 1) 1 xs), (1, V.fn (180 : FuncId) [q0u 1 c]), (7, vi (↑(List.length xs) : Int)), (8, vi ((↑x : Int) + (1 : Int)))] []) (AS.mk [(0, q0H (q02 1) 1 xs), (1, V.fn (180 : FuncId) [q0u 1 c]), (7, vi (↑(List.length xs) : Int)), (8, vi (↑y : Int))] [])) ∧ (((y ≤ List.length xs) ∧ (∀ j : Nat, ((j < y) → (isS c (List.getD xs j default) = false)))) ∧ (List.length xs - y < List.length xs - x)))))))))) ∧ ((decide ((↑x : Int) < (↑(List.length xs) : Int)) = false) → (VLe (vi (-1)) (vi (q4h (fun (s : q06) ↦ isS c s) xs)))))))) := by
  delta q4S; delta vi
  obtain ⟨hlen, hp⟩ := hpre
  unfold maxLen at hlen
  refine ⟨⟨0, SLe.refl _, by omega, fun j hj => absurd hj (Nat.not_lt_zero j)⟩, ?_⟩
  rintro i ⟨hi, hj⟩
  refine ⟨fun h => ?_, fun h => ?_⟩
  ·have hlt : i < xs.length := by simpa using h
   have hin : xs.getD i default ∈ xs := by simp [hlt]
   simp only [Int.toNat_natCast, q1h, q7O]
   refine ⟨⟨by omega, by omega⟩, ⟨VLe.refl _, VLe.refl _, trivial⟩, fun h2 => q0J (q33 hlt hj h2).symm, fun h2 => ⟨q0U (by omega), i + 1, SLe.refl _, ⟨by omega, fun j h3 => ?_⟩, by omega⟩⟩
   rcases Nat.lt_or_ge j i with h4 | h4
   ·exact hj j h4
   ·have : j = i := by omega
    subst this
    exact h2
  ·have hge : i = xs.length := by simp at h; omega
   exact q0J (q3h fun j h3 => hj j (by omega)).symm
 exact Eq.mp (by kernel_rfl) key
theorem qNH : q0T Tryz.prog 236 qB7 := by
 refine q09 q1C (pol := 0) Tryz.func236 rfl (by kernel_rfl) fun args bin ob r bout hDe hob => ?_
 unfold qB7 at hDe
 split at hDe
 ·rename_i a0 a1
  cases hDe
  exact okB (qLZ ((q0M q08) a0) (q0Y a1) (hob.2.2)) qKh (args_of_vles ⟨hob.1, qF2 ⟨hob.2.1, trivial⟩, trivial⟩)
 ·cases hDe
def qAO (l : List q06) (c : Int) : Prop := l.length ≤ 1000
noncomputable def q2B (l : List q06) (c : Int) : List q06 := l.filter fun s => !isS c s
noncomputable def qFp (l : List q06) (c : Int) : List Blk := [(.arr 2 (q2B l c).length (gL (q02 1) (q2B l c)) q0i)]
noncomputable def qFO (l : List q06) (c : Int) : V := .osl 0 (q2B l c).length
noncomputable def qAz : q0G := fun args bin => match args, bin with
 | [.osl i0 m0, .fn 180 [a1]], [.arr s0 n0 g0 t0] => some ((i0 = 0 ∧ s0 = 2 ∧ t0 = q0i ∧ n0 = m0 ∧ ∀ i, i < n0 → ELe (g0 i) (gL (q02 1) ((q0M q08) (.sl n0 g0 1)) i)) ∧ VLe a1 (q0u 1 ((q0Y a1))) ∧ qAO ((q0M q08) (.sl n0 g0 1)) (q0Y a1), qFO ((q0M q08) (.sl n0 g0 1)) (q0Y a1), qFp ((q0M q08) (.sl n0 g0 1)) (q0Y a1))
 | _, _ => none
noncomputable def qHD (l : List q06) (c : Int) : q0O :=
 ⟨Nat × Nat × List q06, fun p => ⟨[(0, .osl (q1l 0) l.length), (1, .fn 180 [q0u 1 c]), (5, .int .i64 p.1), (6, .int .i64 p.2.1)], [(q1l 0, .arr 2 l.length (gL (q02 1) p.2.2) q0i)]⟩, fun p => qGK (isS c) l p.1 p.2.1 p.2.2, fun p => l.length - p.2.1⟩
noncomputable def qN5 (l : List q06) (c : Int) : Nat → Option q0O := fun rg_ => match rg_ with
 | 5 => some (qHD l c)
 | _ => none
noncomputable def qI1 : Nat → Option (Fl × q0G) := lk [(236, (.ro, qB7)), (180, (.ro, qMw))]
theorem qLK : q0D Tryz.prog qI1 := q01 qNH (q01 qT5 (q07))
noncomputable def qFK (l : List q06) (c : Int) : Cx := ⟨tt, qI1, Tryz.f179.ntmps, [0, 1, 4, 5, 6, 7, 12, 19, 29], [(5, ⟨[(0, some 2), (1, none), (5, none), (6, none)], []⟩)], [], qN5 l c, [], noM, []⟩
noncomputable def q3q (x : Nat × Nat × List q06) : V := (q02 1 (List.getD x.2.2 (Int.toNat (↑x.2.1 : Int)) default))
noncomputable def q3K (l : List q06) : List q06 := (q0M q08 (q0H (q02 1) 1 l))
noncomputable def q8n (l : List q06) (c : Int) (y : Nat × Nat × List q06) : AS := (AS.mk [(0, V.osl 32000064 (List.length l)), (1, V.fn (180 : FuncId) [q0u 1 c]), (5, vi (↑y.1 : Int)), (6, vi (↑y.2.1 : Int))] [(32000064, Blk.arr 2 (List.length l) (gL (q02 1) y.2.2) 100)])
theorem qKY (l : List q06) (c : Int) (hpre : qAO l c) : q8A (qFK l c) Tryz.f179 [(0, 2)] [.osl 25600000 (l).length, .fn 180 [q0u 1 (c)]] [(25600000, .arr 2 l.length (gL (q02 1) l) q0i)] (fun rr bs => VLe rr (qFO l c) ∧ q1d bs (qFp l c)) := by
 have key : (((VLe (q0H (q02 1) 1 l) (q0H (q02 1) 1 (q3K l))) ∧ ((VLe (V.ptr [vi c] 0 1) (q0u 1 (q0Y (V.ptr [vi c] 0 1)))) ∧ (qAv (q3K l) (q0Y (V.ptr [vi c] 0 1))))) ∧ ((((q4h (fun (s : q06) ↦ isS (q0Y (V.ptr [vi c] 0 1)) s) (q3K l) == (-1)) = true) → ((VLe (V.osl 0 (List.length l)) (V.osl 0 (List.length (q2B l c)))) ∧ ((BLe (Blk.arr 2 (List.length l) (gL (q02 1) l) 100) (Blk.arr 2 (List.length (q2B l c)) (gL (q02 1) (q2B l c)) 100)) ∧ (True)))) ∧ (((q4h (fun (s : q06) ↦ isS (q0Y (V.ptr [vi c] 0 1)) s) (q3K l) == (-1)) = false) → ((inK IntKind.i64 (q4h (fun (s : q06) ↦ isS (q0Y (V.ptr [vi c] 0 1)) s) (q3K l) + (1 : Int))) ∧ ((∃ x : Nat × Nat × List q06, ((SLe (AS.mk [(0, V.osl 32000064 (List.length l)), (1, V.fn (180 : FuncId) [V.ptr [vi c] 0 1]), (5, vi (q4h (fun (s : q06) ↦ isS (q0Y (V.ptr [vi c] 0 1)) s) (q3K l))), (6, vi (q4h (fun (s : q06) ↦ isS (q0Y (V.ptr [vi c] 0 1)) s) (q3K l) + (1 : Int)))] [(32000064, Blk.arr 2 (List.length l) (gL (q02 1) l) 100)]) (AS.mk [(0, V.osl 32000064 (List.length l)), (1, V.fn (180 : FuncId) [q0u 1 c]), (5, vi (↑x.1 : Int)), (6, vi (↑x.2.1 : Int))] [(32000064, Blk.arr 2 (List.length l) (gL (q02 1) x.2.2) 100)])) ∧ (qGK (isS c) l x.1 x.2.1 x.2.2))) ∧ (∀ x : Nat × Nat × List q06, ((qGK (isS c) l x.1 x.2.1 x.2.2) → (((decide ((↑x.2.1 : Int) < (↑(List.length l) : Int)) = true) → ((((0 : Int) ≤ (↑x.2.1 : Int)) ∧ ((↑x.2.1 : Int) < (↑(List.length l) : Int))) ∧ ((Int.toNat (↑x.2.1 : Int) < List.length l) ∧ (((VLe (q3q x) (q02 1 (q08 (q3q x)))) ∧ ((VLe (V.ptr [vi c] 0 1) (q0u 1 (q0Y (V.ptr [vi c] 0 1)))) ∧ (qPS (q08 (q3q x)) (q0Y (V.ptr [vi c] 0 1))))) ∧ ((((!isS (q0Y (V.ptr [vi c] 0 1)) (q08 (q3q x))) = true) → ((((0 : Int) ≤ (↑x.1 : Int)) ∧ ((↑x.1 : Int) < (↑(List.length l) : Int))) ∧ ((Int.toNat (↑x.1 : Int) < List.length l) ∧ ((inK IntKind.i64 ((↑x.1 : Int) + (1 : Int))) ∧ ((inK IntKind.i64 ((↑x.2.1 : Int) + (1 : Int))) ∧ (∃ y : Nat × Nat × List q06, ((SLe (AS.mk [(0, V.osl 32000064 (List.length l)), (1, V.fn (180 : FuncId) [q0u 1 c]), (5, vi ((↑x.1 : Int) + (1 : Int))), (6, vi ((↑x.2.1 : Int) + (1 : Int)))] [(32000064, Blk.arr 2 (List.length l) (q5d (gL (q02 1) x.2.2) (Int.toNat (↑x.1 : Int)) (q3q x)) 100)]) (q8n l c y)) ∧ ((qGK (isS c) l y.1 y.2.1 y.2.2) ∧ (List.length l - Prod.fst y.2 < List.length l - Prod.fst x.2))))))))) ∧ (((!isS (q0Y (V.ptr [vi c] 0 1)) (q08 (q3q x))) = false) → ((inK IntKind.i64 ((↑x.2.1 : Int) + (1 : Int))) ∧ (∃ y : Nat × Nat × List q06, ((SLe (AS.mk [(0, V.osl 32000064 (List.length l)), (1, V.fn (180 : FuncId) [q0u 1 c]), (5, vi (↑x.1 : Int)), (6, vi ((↑x.2.1 : Int) + (1 : Int)))] [(32000064, Blk.arr 2 (List.length l) (gL (q02 1) x.2.2) 100)]) (q8n l c y)) ∧ ((qGK (isS c) l y.1 y.2.1 y.2.2) ∧ (List.length l - Prod.fst y.2 < List.length l - Prod.fst x.2))))))))))) ∧ ((decide ((↑x.2.1 : Int) < (↑(List.length l) : Int)) = false) → ((((0 : Int) ≤ (↑x.1 : Int)) ∧ (((↑x.1 : Int) ≤ Option.getD none (↑(List.length l) : Int)) ∧ (Option.getD none (↑(List.length l) : Int) ≤ (↑(List.length l) : Int)))) ∧ ((((0 : Int) ≤ (↑x.1 : Int)) ∧ ((↑x.1 : Int) ≤ (↑(List.length l) : Int))) ∧ ((VLe (V.osl 0 (Int.toNat (↑x.1 : Int))) (V.osl 0 (List.length (q2B l c)))) ∧ ((BLe (Blk.arr 2 (Int.toNat (↑x.1 : Int)) (q2f (gL (q02 1) x.2.2) (Int.toNat (↑x.1 : Int)) (Int.toNat (Option.getD none (↑(List.length l) : Int)) - Int.toNat (↑x.1 : Int)) fun (x : Nat) ↦ V.agg [vi 0, vi 0]) 100) (Blk.arr 2 (List.length (q2B l c)) (gL (q02 1) (q2B l c)) 100)) ∧ (True)))))))))))))) := by
  delta q8n; delta q3K; delta q3q; delta vi
  have hl : l.length ≤ 1000 := hpre
  simp only [q19, q1h, qMA, Option.getD_none]
  refine ⟨⟨VLe.refl _, VLe.refl _, by unfold maxLen; omega, trivial⟩, fun h => ?_, fun h => ?_⟩
  ·have e : q2B l c = l := qHl (q := fun s => isS c s) (eq_of_beq h)
   rw [e]
   exact ⟨VLe.refl _, BLe.refl _, trivial⟩
  ·obtain ⟨i0, hi0⟩ := qLX h
   have hlt := (q9q hi0).1
   simp only [hi0]
   have v0 : ((i0 : Nat) : Int) + 1 = ((i0 + 1 : Nat) : Int) := by omega
   refine ⟨q0U (by omega), ⟨(i0, i0 + 1, l), q1X ⟨rfl, VLe.refl _, rfl, VLe.refl _, rfl, VLe.refl _, rfl, q0J v0, trivial⟩ ⟨rfl, BLe.refl _, trivial⟩, qG9 hi0⟩, ?_⟩
   rintro ⟨i, j, ys⟩ hd
   simp only at hd ⊢
   have hd1 := hd.1
   have hd2 := hd.2.1
   have hd3 := hd.2.2.1
   have v1 : ((i : Nat) : Int) + 1 = ((i + 1 : Nat) : Int) := by omega
   have v2 : ((j : Nat) : Int) + 1 = ((j + 1 : Nat) : Int) := by omega
   simp only [Int.toNat_natCast]
   refine ⟨fun h => ?_, fun h => ?_⟩
   ·have hj : j < l.length := by have := of_decide_eq_true h; omega
    have hy : ys.getD j default = l.getD j default := hd.2.2.2.2 j (Nat.le_refl j) hj
    rw [hy]
    refine ⟨⟨by omega, by omega⟩, hj, ⟨VLe.refl _, VLe.refl _, trivial⟩, fun h2 => ?_, fun h2 => ?_⟩
    ·have hq : isS c (l.getD j default) = false := by
      cases hb : isS c (l.getD j default) with
      | false => rfl
      | true => rw [hb] at h2; cases h2
     have hi : i < ys.length := by omega
     exact ⟨⟨by omega, by omega⟩, by omega, q0U (by omega), q0U (by omega), (i + 1, j + 1, ys.set i (l.getD j default)), q1X ⟨rfl, VLe.refl _, rfl, VLe.refl _, rfl, q0J v1, rfl, q0J v2, trivial⟩ ⟨rfl, qI9 hi rfl, trivial⟩, qHi hd hj hq, by simp only; omega⟩
    ·have hq : isS c (l.getD j default) = true := by
      cases hb : isS c (l.getD j default) with
      | true => rfl
      | false => rw [hb] at h2; cases h2
     exact ⟨q0U (by omega), (i, j + 1, ys), q1X ⟨rfl, VLe.refl _, rfl, VLe.refl _, rfl, VLe.refl _, rfl, q0J v2, trivial⟩ ⟨rfl, BLe.refl _, trivial⟩, qHm hd hj hq, by simp only; omega⟩
   ·have hj : j = l.length := by have := of_decide_eq_false h; omega
    subst hj
    have e : ys.take i = q2B l c := qLk hd
    have el : i = (q2B l c).length := by rw [← e, List.length_take]; omega
    refine ⟨⟨by omega, by omega, by omega⟩, ⟨by omega, by omega⟩, VLe.of_eq ?_, qNR e (by omega), trivial⟩
    rw [← el]
 exact Eq.mp (by kernel_rfl) key
theorem qNV : q6N Tryz.prog 179 qAz := by
 refine q2q q1C (tpl := [(0, 2)]) Tryz.func179 rfl (by kernel_rfl) fun args bin ob r bout hDe hob => ?_
 unfold qAz at hDe
 split at hDe
 ·rename_i i0 m0 a1 s0 n0 g0 t0
  cases hDe
  obtain ⟨⟨rfl, rfl, rfl, rfl, hg0⟩, hv1, hpre⟩ := hob
  exact ⟨Nat.le_of_ble_eq_true (by kernel_rfl), qFK ((q0M q08) (.sl n0 g0 1)) (q0Y a1), Eq.mp (by kernel_rfl) htt, Eq.mp (by kernel_rfl) qLK, Eq.mp (by kernel_rfl) (q2K (P := Tryz.prog)), by kernel_rfl, false, n0, 2, q0i, g0, gL (q02 1) ((q0M q08) (.sl n0 g0 1)), [.fn 180 [a1]], [.fn 180 [q0u 1 ((q0Y a1))]], [], [], rfl, rfl, args_of_vles (l' := [.fn 180 [q0u 1 ((q0Y a1))]]) ⟨qF2 ⟨hv1, trivial⟩, trivial⟩, rfl, q1B (fun i hi => hg0 i hi) (Or.inl rfl), trivial, rfl, (((q0M q08) (.sl n0 g0 1))).length, (q57 _ _ _ _).symm, .inr (Eq.mp (by kernel_rfl) (qKY ((q0M q08) (.sl n0 g0 1)) (q0Y a1) hpre))⟩
 ·cases hDe
theorem qPc {w : World} {X0 io : Nat → Prop} {bin : List Blk} {ι : q0x} {Fr : Nat → Nat → Prop} (hE : Ent w X0 io bin ι Fr) : Ext w w X0 io (fun b => w.heap.size ≤ b) ι bin.length bin ι Fr :=
 {own := fun id blk b sz k hb hi => ⟨(hE.own id blk b sz k hb hi).1, .inr ⟨(hE.own id blk b sz k hb hi).2, (List.getElem?_eq_some_iff.1 hb).1⟩⟩
  nob := hE.nob
  inj := hE.inj
  fr := hE.fr
  frS := hE.frS
  fr0 := hE.fr0
  fr2 := fun t b h2 hf => absurd hf (hE.fr2 t b h2)
  cl := fun t b h2 hf => absurd hf (hE.fr2 t b h2)
  same := fun id h => rfl
  os := rfl, tape := rfl, output := rfl, hsize := Nat.le_refl _
  frame := fun _ _ _ => rfl
  shape := fun _ _ h => h }
def ovD (sz : Nat) : q0G := fun args bin => match args, bin with
 | [.osl 0 n, .oss 1 lo m c e], [.arr s1 n1 g1 t1, .arr s2 n2 g2 t2] => some (s2 = sz, .bool false, [.arr s1 n1 g1 t1, .arr s2 n2 g2 t2])
 | _, _ => none
theorem q5p {P : Program} (w : World) (tS tR e : TypeId) (ht : P.underlying tS = some (.slice e)) (size : Nat) (hz : ∀ w, (Go.sizeOf e).run P w = .ok size w)
  (a b : Option Addr) (la ca lb cb : Nat) (h : la = 0 ∨ lb = 0 ∨ size = 0) :
  (Extern.SlicesOverlaps.overlaps #[tS, tS] #[tR] #[.slice a la ca, .slice b lb cb]).run P w = .ok (.bool false) w := by
 change Sem.run P (α := Value) (do
  let some t := (#[tS, tS] : Array TypeId)[0]? | stuck "slices.overlaps: no parameter types"
  let .slice elem ← underlying t | stuck "slices.overlaps: slice type expected"
  let size ← sizeOf elem
  match a, b with
  | some a, some b =>
   if la = 0 ∨ lb = 0 ∨ size = 0 then pure (Value.bool false)
   else if a.block != b.block && (← frozen a) && (← frozen b) then unsupported .addressObserved
   else do
    if a.block != b.block then do
     noView a; noView b
     if ← mayBeOne a b then return Value.bool ((← choose (.extern "sameAddr.stringBytes" 2)) == 1)
    pure (Value.bool (a.block == b.block && a.off < b.off + lb * size && b.off < a.off + la * size))
  | _, _ => pure (Value.bool false)) w = _
 cases a <;> cases b <;> simp [q70 ht, hz, h]
theorem qHe {P : Program} {tt : TT} (hT : q31 P tt) {f : Nat} {fn : Func} (hf : P.funcs[f]? = some fn) (hname : (fn.name == "runtime.NumGoroutine") = false)
  (hb : fn.body.isNone = true) (hn : Extern.findNext fn = none) {tS tR : Nat} {ti : TI} (he : Extern.find fn = some (Extern.SlicesOverlaps.overlaps #[tS, tS] #[tR])) (hti : q1k tt tS = some ti) : q0T P f (ovD ti.size) := by
 refine ⟨fun args bin ob r bout hD hob vals w X0 io ι Fr hE hs hv => ?_⟩
 unfold ovD at hD
 split at hD
 ·rename_i n lo m c e s1 n1 g1 t1 s2 n2 g2 t2
  cases hD
  obtain ⟨el, hund, hl⟩ : ∃ el, P.underlying tS = some (.slice el) ∧ lk tt el = some ti := by
   unfold q1k at hti
   split at hti
   ·rename_i hl
    exact ⟨_, hT.und _ _ hl, hti⟩
   ·cases hti
  have hz : ∀ w, (Go.sizeOf el).run P w = .ok ti.size w := fun w => q1t hT hl w
  have h0 := hv 0 (by simp)
  have h1 := hv 1 (by simp)
  simp only [List.getD_cons_zero, List.getD_cons_succ] at h0 h1
  refine .inr ⟨.bool false, ?_, .bool false, ι, Fr, rfl, .atom rfl (.bool _), qPc hE⟩
  rw [run_callFunc_extern hf hname hb hn he]
  have key : ∀ v0 v1, q0X w Fr ι (.osl 0 n) v0 → q0X w Fr ι (.oss 1 lo m c e) v1 → (Extern.SlicesOverlaps.overlaps #[tS, tS] #[tR] #[v0, v1]).run P w = .ok (.bool false) w := by
   intro v0 v1 h0 h1
   cases h0 with
   | atom hv _ => simp [isP] at hv
   | osl0 a hi =>
    cases h1 with
    | atom hv _ => simp [isP] at hv
    | oss => exact q5p w tS tR el hund ti.size hz _ _ _ _ _ _ (.inl rfl)
    | oss0 => exact q5p w tS tR el hund ti.size hz _ _ _ _ _ _ (.inl rfl)
   | @osl _ _ b0 z0 m0 cap0 c0 e0 hi0 hn0 hc0 hs0 hcs0 =>
    cases h1 with
    | atom hv _ => simp [isP] at hv
    | oss0 => exact q5p w tS tR el hund ti.size hz _ _ _ _ _ _ (.inr (.inl rfl))
    | @oss _ _ _ _ b1 z1 m1 cap1 c1 e1 _ hi1 hn1 hc1 hcc1 hx1 hs1 hcs1 =>
     by_cases hzero : n = 0 ∨ m = 0 ∨ ti.size = 0
     ·exact q5p w tS tR el hund ti.size hz _ _ _ _ _ _ hzero
     ·obtain ⟨q1, _⟩ := hE.own 0 _ b0 z0 m0 rfl hi0
      obtain ⟨_, _, cells, e3, hh, _⟩ := q1
      obtain ⟨⟨q2, _⟩, _⟩ := hE.own 1 _ b1 z1 m1 rfl hi1
      have hne : b0 ≠ b1 := fun e => by
       have := hE.inj 0 1 _ _ _ _ rfl rfl hi0 hi1 e
       omega
      have hsz : z1 = ti.size := by rw [← q2]; exact hob
      refine Lib.run_overlaps_apart w tS tR el hund ti.size hz ⟨b0, 0, none⟩ ⟨b1, lo * z1, none⟩ n cap0 m cap1 hne e0 e1 c0 c1 hs0 hs1 (fun h => ?_) ?_ ?_
      ·subst h
       have h3 : (lo + cap1) * z1 = 0 := by omega
       rcases Nat.mul_eq_zero.1 h3 with h4 | h4
       ·exact hzero (.inr (.inl (by omega)))
       ·exact hzero (.inr (.inr (by omega)))
      ·simp [World.frozen?, hh]
      ·simp [World.frozen?, hh]
  have e2 : vals = #[vals.getD 0 Go.undef, vals.getD 1 Go.undef] := qP6 hs rfl rfl
  rw [e2, key _ _ h0 h1]
  rfl
 ·cases hD
noncomputable def ov2 : q0G := ovD 2
noncomputable def ov5 : q0G := ovD 5
theorem q5k {α : Type} [Inhabited α] {enc : α → V} {sz n : Nat} {g : Nat → V} {zs : List α} (hn : n = zs.length) (h : ∀ j, j < n → g j = enc (zs.getD j default)) : BLe (.arr sz n g q0i) (.arr sz zs.length (gL enc zs) q0i) := by
 subst hn
 refine q1B (fun j hj => ?_) (Or.inl rfl)
 rw [h j hj]
 exact ELe.refl _
theorem qKW {α : Type} [Inhabited α] {l v : List α} {i : Nat} (hi : i ≤ l.length) (j : Nat) :
  (l.take i ++ v ++ l.drop i).getD j default = if j < i then l.getD j default else if j < i + v.length then v.getD (j - i) default else l.getD (j - v.length) default := by
 have h1 : (l.take i).length = i := by rw [List.length_take]; omega
 simp only [List.getD_eq_getElem?_getD, List.append_assoc, List.getElem?_append, h1, List.getElem?_take, List.getElem?_drop]
 split
 ·rfl
 ·split
  ·rename_i h2 h3
   rw [if_pos (by omega)]
  ·rename_i h2 h3
   rw [if_neg (by omega)]
   congr 2
   omega
theorem qLa {α : Type} {l v : List α} {i : Nat} (hi : i ≤ l.length) : (l.take i ++ v ++ l.drop i).length = l.length + v.length := by
 simp only [List.length_append, List.length_take, List.length_drop]
 omega
theorem x61 {α : Type} [Inhabited α] {enc : α → V} {sz : Nat} {l v : List α} (j : Nat) (hj : j < l.length + v.length) :
  q2n l.length (q6q sz l.length (gL enc l)) (gL enc v) j = enc ((l.take l.length ++ v ++ l.drop l.length).getD j default) := by
 rw [qKW (Nat.le_refl _)]
 simp only [q2n, q6q, gL]
 by_cases h1 : j < l.length
 ·rw [if_pos h1, if_pos h1, if_pos h1]
 ·rw [if_neg h1, if_neg h1, if_pos hj]
theorem x5x {α : Type} [Inhabited α] {enc : α → V} {sz : Nat} {l v : List α} {k : Nat} {z : Nat → V} (hk : k ≤ l.length) (j : Nat) (hj : j < l.length + v.length) :
  q2f (q2f (q2n k (q6q sz l.length (gL enc l)) z) k v.length (gL enc v)) (k + v.length) (l.length - k) (q29 (q6q sz l.length (gL enc l)) k) j = enc ((l.take k ++ v ++ l.drop k).getD j default) := by
 rw [qKW hk]
 simp only [q2f, q2n, q29, q6q, gL]
 by_cases h1 : j < k
 ·rw [if_neg (by omega), if_neg (by omega), if_pos h1, if_pos (by omega), if_pos h1]
 ·by_cases h2 : j < k + v.length
  ·rw [if_neg (by omega), if_pos ⟨by omega, h2⟩, if_neg h1, if_pos h2]
  ·rw [if_pos ⟨by omega, by omega⟩, if_pos (by omega), if_neg h1, if_neg h2]
   congr 2
   omega
theorem x7L {α : Type} [Inhabited α] {enc : α → V} {sz : Nat} {l v : List α} {k : Nat} (hk : k ≤ l.length) (j : Nat) (hj : j < l.length + v.length) :
  q2f (q2f (q6q sz l.length (gL enc l)) (k + v.length) (l.length - k) (q29 (q6q sz l.length (gL enc l)) k)) k v.length (gL enc v) j = enc ((l.take k ++ v ++ l.drop k).getD j default) := by
 rw [qKW hk]
 simp only [q2f, q29, q6q, gL]
 by_cases h1 : j < k
 ·rw [if_neg (by omega), if_neg (by omega), if_pos (by omega), if_pos h1]
 ·by_cases h2 : j < k + v.length
  ·rw [if_pos ⟨by omega, h2⟩, if_neg h1, if_pos h2]
  ·rw [if_neg (by omega), if_pos ⟨by omega, by omega⟩, if_pos (by omega), if_neg h1, if_neg h2]
   congr 2
   omega
theorem x8w {α : Type} [Inhabited α] {enc : α → V} {sz : Nat} {l : List α} {k : Nat} {z : Nat → V} (hk : k < l.length) (j : Nat) (hj : j < k + (l.length - (k + 1))) {c : Nat} :
  q2f (q2f (q6q sz l.length (gL enc l)) k (l.length - (k + 1)) (q29 (q6q sz l.length (gL enc l)) (k + 1))) (k + (l.length - (k + 1))) c z j = enc ((l.take k ++ l.drop (k + 1)).getD j default) := by
 have h0 : (l.take k).length = k := by rw [List.length_take]; omega
 have e : (l.take k ++ l.drop (k + 1)).getD j default = if j < k then l.getD j default else l.getD (j + 1) default := by
  simp only [List.getD_eq_getElem?_getD, List.getElem?_append, h0, List.getElem?_take, List.getElem?_drop]
  split
  ·rfl
  ·congr 2
   omega
 rw [e]
 simp only [q2f, q29, q6q, gL]
 by_cases h1 : j < k
 ·rw [if_neg (by omega), if_neg (by omega), if_pos (by omega), if_pos h1]
 ·rw [if_neg (by omega), if_pos ⟨by omega, by omega⟩, if_pos (by omega), if_neg h1]
  congr 2
  omega
theorem q6i {α : Type} [Inhabited α] {enc : α → V} {sz n : Nat} {l : List α} (h : ∀ x, (enc x).cells.length = sz ∧ q65 (enc x) = true) : q0r sz n (gL enc l) := fun i hi => h _
theorem q5c {α : Type} [Inhabited α] {enc : α → V} {sz n k m : Nat} {l : List α} (h : ∀ x, (enc x).cells.length = sz ∧ q65 (enc x) = true) (hm : k + m ≤ n) : q0r sz m (q29 (q6q sz n (gL enc l)) k) := fun i hi => by
 simp only [q29, q6q]
 rw [if_pos (by omega)]
 exact h _
theorem x2x : q0T Tryz.prog 271 ov2 := qHe htt Tryz.func271 (by kernel_rfl) (by kernel_rfl) (by kernel_rfl) (tS := 27) (tR := 4) (by kernel_rfl) rfl
noncomputable def x4w : q0G := ov2
theorem x4L : q0T Tryz.prog 273 ov5 := qHe htt Tryz.func273 (by kernel_rfl) (by kernel_rfl) (by kernel_rfl) (tS := 26) (tR := 4) (by kernel_rfl) rfl
noncomputable def qYp : q0G := ov5
def qOG (xs : List Int) (v : Int) : Prop := xs.length ≤ maxLen
noncomputable def qVf (xs : List Int) (v : Int) : V := .int .i64 (q4h (fun x => decide (v = x)) xs)
noncomputable def qSG : q0G := fun args bin => match args, bin with
 | [a0, .int .i64 a1], [] => some (VLe a0 (q0H q2l 1 (((q0M q24) a0))) ∧ qOG ((q0M q24) a0) a1, qVf ((q0M q24) a0) a1, [])
 | _, _ => none
noncomputable def qSz (xs : List Int) (v : Int) : q0O :=
 ⟨Nat, fun i => ⟨[(0, q0H q2l 1 xs), (1, .int .i64 v), (7, .int .i64 xs.length), (8, .int .i64 i)], []⟩,
  fun i => i ≤ xs.length ∧ ∀ j, j < i → (fun x => decide (v = x)) (xs.getD j default) = false, fun i => xs.length - i⟩
noncomputable def x5E (xs : List Int) (v : Int) : Nat → Option q0O := fun rg_ => match rg_ with
 | 2 => some (qSz xs v)
 | _ => none
noncomputable def x7e : Nat → Option (Fl × q0G) := lk []
theorem qYL : q0D Tryz.prog x7e := q07
noncomputable def x4W (xs : List Int) (v : Int) : Cx := ⟨tt, x7e, Tryz.f263.ntmps, [0, 1, 4, 5, 7, 8, 9, 16], [(2, ⟨[(0, none), (1, none), (7, none), (8, none)], []⟩)], [], x5E xs v, [], noM, []⟩
noncomputable def q9S (xs : List Int) : Int := (↑(List.length xs) : Int)
theorem x1D (xs : List Int) (v : Int) (hpre : qOG xs v) : q0f (x4W xs v) Tryz.f263 0 [q0H q2l 1 (xs), .int .i64 (v)] (fun rr => VLe rr (qVf xs v)) := by
 have key : ((∃ x : Nat, ((SLe (AS.mk [(0, q0H q2l 1 xs), (1, vi v), (7, vi (q9S xs)), (8, vi 0)] []) (AS.mk [(0, q0H q2l 1 xs), (1, vi v), (7, vi (q9S xs)), (8, vi (↑x : Int))] [])) ∧ ((x ≤ List.length xs) ∧ (∀ j : Nat, ((j < x) → (decide (v = List.getD xs j default) = false)))))) ∧ (∀ x : Nat, (((x ≤ List.length xs) ∧ (∀ j : Nat, ((j < x) → (decide (v = List.getD xs j default) = false)))) → (((decide ((↑x : Int) < (q9S xs)) = true) → ((((0 : Int) ≤ (↑x : Int)) ∧ ((↑x : Int) < (q9S xs))) ∧ ((((v == List.getD xs (Int.toNat (↑x : Int)) default) = true) → (VLe (vi (↑x : Int)) (vi (q4h (fun (x : Int) ↦ decide (v = x)) xs)))) ∧ (((v == List.getD xs (Int.toNat (↑x : Int)) default) = false) → ((inK IntKind.i64 ((↑x : Int) + (1 : Int))) ∧ (∃ y : Nat, ((SLe (AS.mk [(0, q0H q2l 1 xs), (1, vi v), (7, vi (q9S xs)), (8, vi ((↑x : Int) + (1 : Int)))] []) (AS.mk [(0, q0H q2l 1 xs), (1, vi v), (7, vi (q9S xs)), (8, vi (↑y : Int))] [])) ∧ (((y ≤ List.length xs) ∧ (∀ j : Nat, ((j < y) → (decide (v = List.getD xs j default) = false)))) ∧ (List.length xs - y < List.length xs - x))))))))) ∧ ((decide ((↑x : Int) < (q9S xs)) = false) → (VLe (vi (-1)) (vi (q4h (fun (x : Int) ↦ decide (v = x)) xs)))))))) := by
  delta q9S; delta vi
  unfold qOG maxLen at hpre
  refine ⟨⟨0, SLe.refl _, by omega, fun j hj => absurd hj (Nat.not_lt_zero j)⟩, ?_⟩
  rintro i ⟨hi, hj⟩
  refine ⟨fun h => ?_, fun h => ?_⟩
  ·have hlt : i < xs.length := by simpa using h
   simp only [Int.toNat_natCast]
   refine ⟨⟨by omega, by omega⟩, fun h2 => q0J (q33 hlt hj (by simpa using h2)).symm, fun h2 => ⟨q0U (by omega), i + 1, SLe.refl _, ⟨by omega, fun j h3 => ?_⟩, by omega⟩⟩
   rcases Nat.lt_or_ge j i with h4 | h4
   ·exact hj j h4
   ·have : j = i := by omega
    subst this
    simpa using h2
  ·have hge : i = xs.length := by simp at h; omega
   exact q0J (q3h fun j h3 => hj j (by omega)).symm
 exact Eq.mp (by kernel_rfl) key
theorem x3g : q0T Tryz.prog 263 qSG := by
 refine q09 q1C (pol := 0) Tryz.func263 rfl (by kernel_rfl) fun args bin ob r bout hDe hob => ?_
 unfold qSG at hDe
 split at hDe
 ·rename_i a0 a1
  cases hDe
  exact okB (x1D ((q0M q24) a0) a1 (hob.2)) qYL (args_of_vles ⟨hob.1, VLe.refl _, trivial⟩)
 ·cases hDe
def qQO (xs : List Int) (v : Int) : Prop := xs.length ≤ maxLen
noncomputable def qXL (xs : List Int) (v : Int) : V := .bool (decide (v ∈ xs))
noncomputable def qT2 : q0G := fun args bin => match args, bin with
 | [a0, .int .i64 a1], [] => some (VLe a0 (q0H q2l 1 (((q0M q24) a0))) ∧ qQO ((q0M q24) a0) a1, qXL ((q0M q24) a0) a1, [])
 | _, _ => none
noncomputable def x6F : Nat → Option (Fl × q0G) := lk [(263, (.ro, qSG))]
theorem x2A : q0D Tryz.prog x6F := q01 x3g (q07)
noncomputable def x0r (xs : List Int) (v : Int) : Cx := ⟨tt, x6F, Tryz.f227.ntmps, [0, 1, 4], [], [], fun _ => none, [], noM, []⟩
theorem x3w (xs : List Int) (v : Int) (hpre : qQO xs v) : q0f (x0r xs v) Tryz.f227 0 [q0H q2l 1 (xs), .int .i64 (v)] (fun rr => VLe rr (qXL xs v)) := by
 have key : (((VLe (q0H q2l 1 xs) (q0H q2l 1 (q0M q24 (q0H q2l 1 xs)))) ∧ (qOG (q0M q24 (q0H q2l 1 xs)) v)) ∧ (VLe (V.bool (decide (q4h (fun (x : Int) ↦ decide (v = x)) (q0M q24 (q0H q2l 1 xs)) ≥ (0 : Int)))) (V.bool (decide (v ∈ xs))))) := by
  simp only [qEt]
  refine ⟨⟨VLe.refl _, hpre⟩, q0e ?_⟩
  refine (q7L _ _).trans ?_
  rw [Bool.eq_iff_iff]
  simp
 exact Eq.mp (by kernel_rfl) key
theorem x3d : q0T Tryz.prog 227 qT2 := by
 refine q09 q1C (pol := 0) Tryz.func227 rfl (by kernel_rfl) fun args bin ob r bout hDe hob => ?_
 unfold qT2 at hDe
 split at hDe
 ·rename_i a0 a1
  cases hDe
  exact okB (x3w ((q0M q24) a0) a1 (hob.2)) x2A (args_of_vles ⟨hob.1, VLe.refl _, trivial⟩)
 ·cases hDe
def qPO (z : q03) (ids : List Int) : Prop := ids.length ≤ maxLen
noncomputable def qXA (z : q03) (ids : List Int) : V := .bool (q0t ids z)
noncomputable def qOK : q0G := fun args bin => match args, bin with
 | [a0, a1], [] => some (VLe a0 (q00 1 ((q04 a0))) ∧ VLe a1 (q4l q2l 1 (((q2d q24) a1))) ∧ qPO (q04 a0) ((q2d q24) a1), qXA (q04 a0) ((q2d q24) a1), [])
 | _, _ => none
noncomputable def x7i : Nat → Option (Fl × q0G) := lk [(227, (.ro, qT2))]
theorem x1M : q0D Tryz.prog x7i := q01 x3d (q07)
noncomputable def qYG (z : q03) (ids : List Int) : Cx := ⟨tt, x7i, Tryz.f226.ntmps, [0, 1, 2, 3], [], [], fun _ => none, [], noM, []⟩
theorem x2M (z : q03) (ids : List Int) (hpre : qPO z ids) : q0f (qYG z ids) Tryz.f226 0 [q00 1 (z), q4l q2l 1 (ids)] (fun rr => VLe rr (qXA z ids)) := by
 have key : ((tq (q03.owner z != 0)) ∧ ((tq (q03.owner z != 0)) ∧ ((tq (q03.owner z != 0)) ∧ ((((q03.owner z != 0) = true) → ((VLe (q0H q2l 1 ids) (q0H q2l 1 (q0M q24 (q0H q2l 1 ids)))) ∧ (qQO (q0M q24 (q0H q2l 1 ids)) (q03.owner z)))) ∧ (((true = true) → (((q03.owner z != 0) = true) → ((q03.owner z != 0) = true))) ∧ (∀ b : Bool, ((b = bif q03.owner z != 0 then decide (q03.owner z ∈ q0M q24 (q0H q2l 1 ids)) else false) → (VLe (V.bool b) (V.bool (q0t ids z)))))))))) := by
  have hl : ids.length ≤ maxLen := hpre
  simp only [qEt]
  repeat (first | refine And.intro (fun h _ => h) ?_ | refine And.intro (fun _ h => h) ?_ | refine And.intro (fun _ => ⟨VLe.refl _, hl⟩) ?_)
  intro q hq
  refine q0e ?_
  rw [hq]
  unfold q0t
  rw [Bool.eq_iff_iff, decide_eq_true_eq]
  by_cases a1 : z.owner = 0 <;> simp [a1]
 exact Eq.mp (by kernel_rfl) key
theorem qX7 : q0T Tryz.prog 226 qOK := by
 refine q09 q1C (pol := 0) Tryz.func226 rfl (by kernel_rfl) fun args bin ob r bout hDe hob => ?_
 unfold qOK at hDe
 split at hDe
 ·rename_i a0 a1
  cases hDe
  exact okB (x2M (q04 a0) ((q2d q24) a1) (hob.2.2)) x1M (args_of_vles ⟨hob.1, hob.2.1, trivial⟩)
 ·cases hDe
def qRV (l : List q06) (i : Int) (v : List q06) : Prop := 0 ≤ i ∧ i ≤ l.length ∧ 0 < v.length ∧ l.length + v.length ≤ 1000
noncomputable def q8S (l : List q06) (i : Int) (v : List q06) : List q06 := l.take i.toNat ++ v ++ l.drop i.toNat
noncomputable def qUz (l : List q06) (i : Int) (v : List q06) : List Blk := [(.arr 2 (q8S l i v).length (gL (q02 1) (q8S l i v)) q0i)]
noncomputable def qWt (l : List q06) (i : Int) (v : List q06) : V := .osl 0 (q8S l i v).length
noncomputable def qSO : q0G := fun args bin => match args, bin with
 | [.osl i0 m0, .int .i64 a1, .osl i2 m2], [.arr s0 n0 g0 t0, .arr s2 n2 g2 t2] => some ((i0 = 0 ∧ s0 = 2 ∧ t0 = q0i ∧ n0 = m0 ∧ ∀ i, i < n0 → ELe (g0 i) (gL (q02 1) ((q0M q08) (.sl n0 g0 1)) i)) ∧ (i2 = 1 ∧ s2 = 2 ∧ t2 = q0i ∧ n2 = m2 ∧ ∀ i, i < n2 → ELe (g2 i) (gL (q02 1) ((q0M q08) (.sl n2 g2 1)) i)) ∧ qRV ((q0M q08) (.sl n0 g0 1)) a1 ((q0M q08) (.sl n2 g2 1)), qWt ((q0M q08) (.sl n0 g0 1)) a1 ((q0M q08) (.sl n2 g2 1)), qUz ((q0M q08) (.sl n0 g0 1)) a1 ((q0M q08) (.sl n2 g2 1)))
 | _, _ => none
noncomputable def x6h : Nat → Option (Fl × q0G) := lk [(271, (.rw, x4w)), (272, (.ro, noD (.int .i64 0)))]
theorem x1u : q0D Tryz.prog x6h := q01 x2x (q01 qHd (q07))
noncomputable def qUN (l : List q06) (i : Int) (v : List q06) : Cx := ⟨tt, x6h, Tryz.f235.ntmps, [0, 1, 2, 6, 7, 8, 9, 16, 22, 31, 68], [], [], fun _ => none, [], noM, []⟩
noncomputable def q0Z (l : List q06) : Int := (↑(List.length l) : Int)
noncomputable def q13 (v : List q06) : Int := (↑(List.length v) : Int)
def qHx (l : List q06) (v : List q06) (cp_ : Nat) : Prop := ((Option.getD none (↑(Int.toNat (Option.getD (some ((q0Z l) + (q13 v))) (q0Z l)) - 0) : Int) ≤ (↑(cp_ - Int.toNat (Option.getD none (0 : Int))) : Int)) ∧ (0 + Int.toNat (Option.getD none (↑(Int.toNat (Option.getD (some ((q0Z l) + (q13 v))) (q0Z l)) - 0) : Int)) ≤ cp_))
def qHy (l : List q06) (i : Int) (v : List q06) (cp_ : Nat) : Prop := (((0 : Int) ≤ Option.getD (some i) (0 : Int)) ∧ ((Option.getD (some i) (0 : Int) ≤ Option.getD none (↑(Int.toNat (Option.getD (some ((q0Z l) + (q13 v))) (q0Z l)) - 0) : Int)) ∧ (qHx l v cp_)))
noncomputable def qFq (l : List q06) (i : Int) : Nat → V := (q29 (q6q 2 (List.length l) (gL (q02 1) l)) (match some i with | none => 0 | some l => 0 + Int.toNat l))
noncomputable def qCt (l : List q06) (i : Int) (v : List q06) : Blk := (Blk.arr 2 (List.length (q8S l i v)) (gL (q02 1) (q8S l i v)) 100)
def qN0 (l : List q06) (i : Int) (cp_ : Nat) : Prop := (((0 : Int) ≤ Option.getD (some i) (0 : Int)) ∧ ((Option.getD (some i) (0 : Int) ≤ Option.getD none (q0Z l)) ∧ ((Option.getD none (q0Z l) ≤ (↑cp_ : Int)) ∧ (0 + Int.toNat (Option.getD none (q0Z l)) ≤ cp_))))
def qLL (l : List q06) (i : Int) (v : List q06) : Prop := (Option.getD none (↑(Int.toNat (Option.getD (some i) (q0Z l)) - 0 + Int.toNat ((q0Z l) + (q13 v) - i)) : Int) ≤ (↑(Int.toNat (Option.getD (some i) (q0Z l)) - 0 + Int.toNat ((q0Z l) + (q13 v) - i)) : Int))
def qNQ (l : List q06) (i : Int) (v : List q06) (cp_ : Nat) : Prop := (((0 : Int) ≤ Option.getD (some (i + (q13 v))) (0 : Int)) ∧ ((Option.getD (some (i + (q13 v))) (0 : Int) ≤ Option.getD none (↑(Int.toNat (Option.getD (some ((q0Z l) + (q13 v))) (q0Z l)) - 0) : Int)) ∧ (qHx l v cp_)))
theorem x44 (l : List q06) (i : Int) (v : List q06) (cp_ : Nat) (hcp_ : l.length ≤ cp_) (hpre : qRV l i v) : q8A (qUN l i v) Tryz.f235 [(0, 2)] [.oss 25600000 0 (l).length cp_ true, .int .i64 (i), .osl 25600064 (v).length] [(25600000, .arr 2 cp_ (q6q 2 l.length (gL (q02 1) l)) q0i), (25600064, .arr 2 v.length (gL (q02 1) v) q0i)] (fun rr bs => VLe rr (qWt l i v) ∧ q1d bs (qUz l i v)) := by
 have key : ((qN0 l i cp_) ∧ (((((q13 v) == (0 : Int)) = true) → ((VLe (V.osl 0 (List.length l)) (V.osl 0 (List.length (q8S l i v)))) ∧ ((BLe (Blk.arr 2 (List.length l) (q6q 2 (List.length l) (gL (q02 1) l)) 100) (qCt l i v)) ∧ (True)))) ∧ ((((q13 v) == (0 : Int)) = false) → ((((i == (q0Z l)) = true) → ((List.length l ≤ cp_) ∧ ((List.length l + List.length v ≤ 1073741824) ∧ ((q0r 2 (List.length v) (gL (q02 1) v)) ∧ ((VLe (V.osl 0 (List.length l + List.length v)) (V.osl 0 (List.length (q8S l i v)))) ∧ ((BLe (Blk.arr 2 (List.length l + List.length v) (q2n (List.length l) (q6q 2 (List.length l) (gL (q02 1) l)) (gL (q02 1) v)) 100) (qCt l i v)) ∧ (True))))))) ∧ (((i == (q0Z l)) = false) → ((inK IntKind.i64 ((q0Z l) + (q13 v))) ∧ (((decide ((q0Z l) + (q13 v) > (↑cp_ : Int)) = true) → ((((0 : Int) ≤ Option.getD none (0 : Int)) ∧ ((Option.getD none (0 : Int) ≤ Option.getD (some i) (q0Z l)) ∧ ((Option.getD (some i) (q0Z l) ≤ (↑cp_ : Int)) ∧ (0 + Int.toNat (Option.getD (some i) (q0Z l)) ≤ cp_)))) ∧ ((inK IntKind.i64 ((q0Z l) + (q13 v))) ∧ ((inK IntKind.i64 ((q0Z l) + (q13 v) - i)) ∧ (((0 : Int) ≤ (q0Z l) + (q13 v) - i) ∧ ((Int.toNat (Option.getD (some i) (q0Z l)) - 0 ≤ cp_) ∧ ((cp_ - Int.toNat (Option.getD none (0 : Int)) < Int.toNat (Option.getD (some i) (q0Z l)) - 0 + Int.toNat ((q0Z l) + (q13 v) - i)) ∧ ((Int.toNat (Option.getD (some i) (q0Z l)) - 0 + Int.toNat ((q0Z l) + (q13 v) - i) ≤ 1073741824) ∧ ((((0 : Int) ≤ i) ∧ ((i ≤ Option.getD none (↑(Int.toNat (Option.getD (some i) (q0Z l)) - 0 + Int.toNat ((q0Z l) + (q13 v) - i)) : Int)) ∧ (qLL l i v))) ∧ ((q0r 2 (min (Int.toNat (Option.getD none (↑(Int.toNat (Option.getD (some i) (q0Z l)) - 0 + Int.toNat ((q0Z l) + (q13 v) - i)) : Int)) - Int.toNat i) (List.length v)) (gL (q02 1) v)) ∧ ((inK IntKind.i64 (i + (q13 v))) ∧ ((((0 : Int) ≤ i + (q13 v)) ∧ ((i + (q13 v) ≤ Option.getD none (↑(Int.toNat (Option.getD (some i) (q0Z l)) - 0 + Int.toNat ((q0Z l) + (q13 v) - i)) : Int)) ∧ (qLL l i v))) ∧ ((qN0 l i cp_) ∧ ((q0r 2 (min (Int.toNat (Option.getD none (↑(Int.toNat (Option.getD (some i) (q0Z l)) - 0 + Int.toNat ((q0Z l) + (q13 v) - i)) : Int)) - Int.toNat (i + (q13 v))) (Int.toNat (Option.getD none (q0Z l)) - Int.toNat (Option.getD (some i) (0 : Int)))) (qFq l i)) ∧ ((VLe (V.osl 0 (Int.toNat (Option.getD (some i) (q0Z l)) - 0 + Int.toNat ((q0Z l) + (q13 v) - i))) (V.osl 0 (List.length (q8S l i v)))) ∧ ((BLe (Blk.arr 2 (Int.toNat (Option.getD (some i) (q0Z l)) - 0 + Int.toNat ((q0Z l) + (q13 v) - i)) (q2f (q2f (q2n (Int.toNat (Option.getD (some i) (q0Z l)) - 0) (q6q 2 (List.length l) (gL (q02 1) l)) fun (x : Nat) ↦ V.agg [vi 0, vi 0]) (Int.toNat i) (min (Int.toNat (Option.getD none (↑(Int.toNat (Option.getD (some i) (q0Z l)) - 0 + Int.toNat ((q0Z l) + (q13 v) - i)) : Int)) - Int.toNat i) (List.length v)) (gL (q02 1) v)) (Int.toNat (i + (q13 v))) (min (Int.toNat (Option.getD none (↑(Int.toNat (Option.getD (some i) (q0Z l)) - 0 + Int.toNat ((q0Z l) + (q13 v) - i)) : Int)) - Int.toNat (i + (q13 v))) (Int.toNat (Option.getD none (q0Z l)) - Int.toNat (Option.getD (some i) (0 : Int)))) (qFq l i)) 100) (qCt l i v)) ∧ (True))))))))))))))))) ∧ ((decide ((q0Z l) + (q13 v) > (↑cp_ : Int)) = false) → ((inK IntKind.i64 ((q0Z l) + (q13 v))) ∧ ((((0 : Int) ≤ Option.getD none (0 : Int)) ∧ ((Option.getD none (0 : Int) ≤ Option.getD (some ((q0Z l) + (q13 v))) (q0Z l)) ∧ ((Option.getD (some ((q0Z l) + (q13 v))) (q0Z l) ≤ (↑cp_ : Int)) ∧ (0 + Int.toNat (Option.getD (some ((q0Z l) + (q13 v))) (q0Z l)) ≤ cp_)))) ∧ ((inK IntKind.i64 (i + (q13 v))) ∧ ((qNQ l i v cp_) ∧ ((2 = 2) ∧ ((List.length v = List.length v) ∧ ((cp_ = cp_) ∧ ((((!false) = true) → ((inK IntKind.i64 (i + (q13 v))) ∧ ((qNQ l i v cp_) ∧ ((qHy l i v cp_) ∧ ((q0r 2 (min (Int.toNat (Option.getD none (↑(Int.toNat (Option.getD (some ((q0Z l) + (q13 v))) (q0Z l)) - 0) : Int)) - Int.toNat (Option.getD (some (i + (q13 v))) (0 : Int))) (Int.toNat (Option.getD none (↑(Int.toNat (Option.getD (some ((q0Z l) + (q13 v))) (q0Z l)) - 0) : Int)) - Int.toNat (Option.getD (some i) (0 : Int)))) (qFq l i)) ∧ ((qHy l i v cp_) ∧ ((q0r 2 (min (Int.toNat (Option.getD none (↑(Int.toNat (Option.getD (some ((q0Z l) + (q13 v))) (q0Z l)) - 0) : Int)) - Int.toNat (Option.getD (some i) (0 : Int))) (List.length v)) (gL (q02 1) v)) ∧ ((VLe (V.osl 0 (Int.toNat (Option.getD (some ((q0Z l) + (q13 v))) (q0Z l)) - 0)) (V.osl 0 (List.length (q8S l i v)))) ∧ ((BLe (Blk.arr 2 (Int.toNat (Option.getD (some ((q0Z l) + (q13 v))) (q0Z l)) - 0) (q2f (q2f (q6q 2 (List.length l) (gL (q02 1) l)) (match some (i + (q13 v)) with | none => 0 | some l => 0 + Int.toNat l) (min (Int.toNat (Option.getD none (↑(Int.toNat (Option.getD (some ((q0Z l) + (q13 v))) (q0Z l)) - 0) : Int)) - Int.toNat (Option.getD (some (i + (q13 v))) (0 : Int))) (Int.toNat (Option.getD none (↑(Int.toNat (Option.getD (some ((q0Z l) + (q13 v))) (q0Z l)) - 0) : Int)) - Int.toNat (Option.getD (some i) (0 : Int)))) (qFq l i)) (match some i with | none => 0 | some l => 0 + Int.toNat l) (min (Int.toNat (Option.getD none (↑(Int.toNat (Option.getD (some ((q0Z l) + (q13 v))) (q0Z l)) - 0) : Int)) - Int.toNat (Option.getD (some i) (0 : Int))) (List.length v)) (gL (q02 1) v)) 100) (qCt l i v)) ∧ (True)))))))))) ∧ (((!false) = false) → ((((0 : Int) ≤ Option.getD (some (q0Z l)) (0 : Int)) ∧ ((Option.getD (some (q0Z l)) (0 : Int) ≤ Option.getD none (↑(Int.toNat (Option.getD (some ((q0Z l) + (q13 v))) (q0Z l)) - 0) : Int)) ∧ (qHx l v cp_))) ∧ ((q0r 2 (min (Int.toNat (Option.getD none (↑(Int.toNat (Option.getD (some ((q0Z l) + (q13 v))) (q0Z l)) - 0) : Int)) - Int.toNat (Option.getD (some (q0Z l)) (0 : Int))) (List.length v)) (gL (q02 1) v)) ∧ ((qHy l i v cp_) ∧ ((False) ∧ ((VLe (V.osl 0 (Int.toNat (Option.getD (some ((q0Z l) + (q13 v))) (q0Z l)) - 0)) (V.osl 0 (List.length (q8S l i v)))) ∧ ((BLe (Blk.arr 2 (Int.toNat (Option.getD (some ((q0Z l) + (q13 v))) (q0Z l)) - 0) (q2f (q6q 2 (List.length l) (gL (q02 1) l)) (match some (q0Z l) with | none => 0 | some l => 0 + Int.toNat l) (min (Int.toNat (Option.getD none (↑(Int.toNat (Option.getD (some ((q0Z l) + (q13 v))) (q0Z l)) - 0) : Int)) - Int.toNat (Option.getD (some (q0Z l)) (0 : Int))) (List.length v)) (gL (q02 1) v)) 100) (qCt l i v)) ∧ (True)))))))))))))))))))))))) := by
  delta qNQ; delta qLL; delta qN0; delta qCt; delta qFq; delta qHy; delta qHx; delta q13; delta q0Z; delta vi
  obtain ⟨h1, h2, h3, h4⟩ := hpre
  obtain ⟨k, rfl⟩ := Int.eq_ofNat_of_zero_le h1
  have hk : k ≤ l.length := by omega
  have e0 : q8S l (k : Int) v = l.take k ++ v ++ l.drop k := rfl
  have el : (q8S l (k : Int) v).length = l.length + v.length := by rw [e0, qLa hk]
  have t1 : ((l.length : Int) + (v.length : Int) - (k : Int)).toNat = l.length + v.length - k := by omega
  have t2 : k + (l.length + v.length - k) = l.length + v.length := by omega
  have t3 : ((k : Int) + (v.length : Int)).toNat = k + v.length := by omega
  have t4 : ((l.length : Int) + (v.length : Int)).toNat = l.length + v.length := by omega
  have t5 : l.length + v.length - (k + v.length) = l.length - k := by omega
  have t6 : min (l.length + v.length - k) v.length = v.length := by omega
  have t7 : min (l.length - k) (l.length - k) = l.length - k := by omega
  have t8 : min (l.length - k) (l.length + v.length - k) = l.length - k := by omega
  have enc1 : ∀ x : q06, (q02 1 x).cells.length = 2 ∧ q65 (q02 1 x) = true := fun x => ⟨rfl, rfl⟩
  simp only [Option.getD_some, Option.getD_none, Int.toNat_natCast, Nat.sub_zero, Nat.zero_add, t1, t2, t3, t4, t5, t6, t7, t8, Int.toNat_zero, el]
  refine ⟨⟨by omega, by omega, by omega, by omega⟩, fun h => ?_, fun _ => ⟨fun h => ?_, fun h => ⟨q0U (by omega), fun h5 => ?_, fun h5 => ?_⟩⟩⟩
  ·have := eq_of_beq h
   omega
  ·have hkn : k = l.length := by have := eq_of_beq h; omega
   subst hkn
   refine ⟨by omega, by omega, q6i enc1, VLe.refl _, ?_, trivial⟩
   rw [← el]
   exact q5k rfl fun j hj => by rw [el] at hj; exact x61 j hj
  ·have h6 := of_decide_eq_true h5
   refine ⟨⟨by omega, by omega, by omega, by omega⟩, q0U (by omega), q0U (by omega), by omega, by omega, by omega, by omega, ⟨by omega, by omega, by omega⟩, q6i enc1, q0U (by omega), ⟨by omega, by omega, by omega⟩, ⟨by omega, by omega, by omega, by omega⟩, q5c enc1 (by omega), VLe.refl _, ?_, trivial⟩
   rw [← el]
   exact q5k rfl fun j hj => by rw [el] at hj; exact x5x hk j hj
  ·have h6 := of_decide_eq_false h5
   refine ⟨q0U (by omega), ⟨by omega, by omega, by omega, by omega⟩, q0U (by omega), ⟨by omega, by omega, by omega, by omega⟩, trivial, trivial, trivial, fun _ => ?_, fun h7 => absurd h7 (by decide)⟩
   refine ⟨q0U (by omega), ⟨by omega, by omega, by omega, by omega⟩, ⟨by omega, by omega, by omega, by omega⟩, q5c enc1 (by omega), ⟨by omega, by omega, by omega, by omega⟩, q6i enc1, VLe.refl _, ?_, trivial⟩
   rw [← el]
   exact q5k rfl fun j hj => by rw [el] at hj; exact x7L hk j hj
 exact Eq.mp (by kernel_rfl) key
theorem x0T : q6N Tryz.prog 235 qSO := by
 refine q2q q1C (tpl := [(0, 2)]) Tryz.func235 rfl (by kernel_rfl) fun args bin ob r bout hDe hob => ?_
 unfold qSO at hDe
 split at hDe
 ·rename_i i0 m0 a1 i2 m2 s0 n0 g0 t0 s2 n2 g2 t2
  cases hDe
  obtain ⟨⟨rfl, rfl, rfl, rfl, hg0⟩, ⟨rfl, rfl, rfl, rfl, hg2⟩, hpre⟩ := hob
  exact ⟨Nat.le_of_ble_eq_true (by kernel_rfl), qUN ((q0M q08) (.sl n0 g0 1)) a1 ((q0M q08) (.sl n2 g2 1)), Eq.mp (by kernel_rfl) htt, Eq.mp (by kernel_rfl) x1u, Eq.mp (by kernel_rfl) (q2K (P := Tryz.prog)), by kernel_rfl, true, n0, 2, q0i, g0, gL (q02 1) ((q0M q08) (.sl n0 g0 1)), [.int .i64 a1, .osl 1 n2], [.int .i64 (a1), .osl 1 (((q0M q08) (.sl n2 g2 1))).length], [.arr 2 n2 g2 q0i], [.arr 2 (((q0M q08) (.sl n2 g2 1))).length (gL (q02 1) ((q0M q08) (.sl n2 g2 1))) q0i], rfl, rfl, args_of_vles (l' := [.int .i64 (a1), .osl 1 (((q0M q08) (.sl n2 g2 1))).length]) ⟨VLe.refl _, VLe.of_eq (by rw [q57]), trivial⟩, rfl, q1B (fun i hi => hg0 i hi) (Or.inl rfl), ⟨qHh hg2, trivial⟩, rfl, (((q0M q08) (.sl n0 g0 1))).length, (q57 _ _ _ _).symm, .inl fun cp_ hcp_ => Eq.mp (by kernel_rfl) (x44 ((q0M q08) (.sl n0 g0 1)) a1 ((q0M q08) (.sl n2 g2 1)) cp_ hcp_ hpre)⟩
 ·cases hDe
def qRO (l : List q03) (i : Int) (j : Int) : Prop := 0 ≤ i ∧ i < l.length ∧ j = i + 1 ∧ l.length ≤ 1000
noncomputable def q9g (l : List q03) (i : Int) (j : Int) : List q03 := l.take i.toNat ++ l.drop (i.toNat + 1)
noncomputable def qUL (l : List q03) (i : Int) (j : Int) : List Blk := [(.arr 5 (q9g l i j).length (gL (q00 1) (q9g l i j)) q0i)]
noncomputable def qWx (l : List q03) (i : Int) (j : Int) : V := .osl 0 (q9g l i j).length
noncomputable def qS8 : q0G := fun args bin => match args, bin with
 | [.osl i0 m0, .int .i64 a1, .int .i64 a2], [.arr s0 n0 g0 t0] => some ((i0 = 0 ∧ s0 = 5 ∧ t0 = q0i ∧ n0 = m0 ∧ ∀ i, i < n0 → ELe (g0 i) (gL (q00 1) ((q0M q04) (.sl n0 g0 1)) i)) ∧ qRO ((q0M q04) (.sl n0 g0 1)) a1 a2, qWx ((q0M q04) (.sl n0 g0 1)) a1 a2, qUL ((q0M q04) (.sl n0 g0 1)) a1 a2)
 | _, _ => none
noncomputable def x7w : Nat → Option (Fl × q0G) := lk []
theorem x4E : q0D Tryz.prog x7w := q07
noncomputable def qVV (l : List q03) (i : Int) (j : Int) : Cx := ⟨tt, x7w, Tryz.f243.ntmps, [0, 1, 2, 6, 7, 16], [], [], fun _ => none, [], noM, []⟩
noncomputable def q1W (l : List q03) : Int := (↑(List.length l) : Int)
noncomputable def qKK (l : List q03) (j : Int) : Nat → V := (q29 (q6q 5 (List.length l) (gL (q00 1) l)) (match some j with | none => 0 | some l => 0 + Int.toNat l))
theorem x0C (l : List q03) (i : Int) (j : Int) (cp_ : Nat) (hcp_ : l.length ≤ cp_) (hpre : qRO l i j) : q8A (qVV l i j) Tryz.f243 [(0, 5)] [.oss 25600000 0 (l).length cp_ false, .int .i64 (i), .int .i64 (j)] [(25600000, .arr 5 cp_ (q6q 5 l.length (gL (q00 1) l)) q0i)] (fun rr bs => VLe rr (qWx l i j) ∧ q1d bs (qUL l i j)) := by
 have key : ((((0 : Int) ≤ Option.getD (some i) (0 : Int)) ∧ ((Option.getD (some i) (0 : Int) ≤ j) ∧ ((j ≤ (q1W l)) ∧ ((q1W l) ≤ (↑cp_ : Int))))) ∧ ((((i == j) = true) → ((VLe (V.osl 0 (List.length l)) (V.osl 0 (List.length (q9g l i j)))) ∧ ((BLe (Blk.arr 5 (List.length l) (q6q 5 (List.length l) (gL (q00 1) l)) 100) (Blk.arr 5 (List.length (q9g l i j)) (gL (q00 1) (q9g l i j)) 100)) ∧ (True)))) ∧ (((i == j) = false) → ((((0 : Int) ≤ Option.getD none (0 : Int)) ∧ ((Option.getD none (0 : Int) ≤ Option.getD (some i) (q1W l)) ∧ ((Option.getD (some i) (q1W l) ≤ (↑cp_ : Int)) ∧ (0 + Int.toNat (Option.getD (some i) (q1W l)) ≤ cp_)))) ∧ ((((0 : Int) ≤ Option.getD (some j) (0 : Int)) ∧ ((Option.getD (some j) (0 : Int) ≤ Option.getD none (q1W l)) ∧ ((Option.getD none (q1W l) ≤ (↑cp_ : Int)) ∧ (0 + Int.toNat (Option.getD none (q1W l)) ≤ cp_)))) ∧ ((Int.toNat (Option.getD (some i) (q1W l)) - 0 + (Int.toNat (Option.getD none (q1W l)) - Int.toNat (Option.getD (some j) (0 : Int))) ≤ cp_ - Int.toNat (Option.getD none (0 : Int))) ∧ ((Int.toNat (Option.getD (some i) (q1W l)) - 0 + (Int.toNat (Option.getD none (q1W l)) - Int.toNat (Option.getD (some j) (0 : Int))) ≤ cp_) ∧ ((q0r 5 (Int.toNat (Option.getD none (q1W l)) - Int.toNat (Option.getD (some j) (0 : Int))) (qKK l j)) ∧ ((((0 : Int) ≤ Option.getD (some (↑(Int.toNat (Option.getD (some i) (q1W l)) - 0 + (Int.toNat (Option.getD none (q1W l)) - Int.toNat (Option.getD (some j) (0 : Int)))) : Int)) (0 : Int)) ∧ ((Option.getD (some (↑(Int.toNat (Option.getD (some i) (q1W l)) - 0 + (Int.toNat (Option.getD none (q1W l)) - Int.toNat (Option.getD (some j) (0 : Int)))) : Int)) (0 : Int) ≤ Option.getD (some (q1W l)) (↑(Int.toNat (Option.getD (some i) (q1W l)) - 0 + (Int.toNat (Option.getD none (q1W l)) - Int.toNat (Option.getD (some j) (0 : Int)))) : Int)) ∧ ((Option.getD (some (q1W l)) (↑(Int.toNat (Option.getD (some i) (q1W l)) - 0 + (Int.toNat (Option.getD none (q1W l)) - Int.toNat (Option.getD (some j) (0 : Int)))) : Int) ≤ (↑(cp_ - Int.toNat (Option.getD none (0 : Int))) : Int)) ∧ (0 + Int.toNat (Option.getD (some (q1W l)) (↑(Int.toNat (Option.getD (some i) (q1W l)) - 0 + (Int.toNat (Option.getD none (q1W l)) - Int.toNat (Option.getD (some j) (0 : Int)))) : Int)) ≤ cp_)))) ∧ ((VLe (V.osl 0 (Int.toNat (Option.getD (some i) (q1W l)) - 0 + (Int.toNat (Option.getD none (q1W l)) - Int.toNat (Option.getD (some j) (0 : Int))))) (V.osl 0 (List.length (q9g l i j)))) ∧ ((BLe (Blk.arr 5 (Int.toNat (Option.getD (some i) (q1W l)) - 0 + (Int.toNat (Option.getD none (q1W l)) - Int.toNat (Option.getD (some j) (0 : Int)))) (q2f (q2f (q6q 5 (List.length l) (gL (q00 1) l)) (Int.toNat (Option.getD (some i) (q1W l)) - 0) (Int.toNat (Option.getD none (q1W l)) - Int.toNat (Option.getD (some j) (0 : Int))) (qKK l j)) (match some (↑(Int.toNat (Option.getD (some i) (q1W l)) - 0 + (Int.toNat (Option.getD none (q1W l)) - Int.toNat (Option.getD (some j) (0 : Int)))) : Int) with | none => 0 | some l => 0 + Int.toNat l) (Int.toNat (Option.getD (some (q1W l)) (↑(Int.toNat (Option.getD (some i) (q1W l)) - 0 + (Int.toNat (Option.getD none (q1W l)) - Int.toNat (Option.getD (some j) (0 : Int)))) : Int)) - Int.toNat (Option.getD (some (↑(Int.toNat (Option.getD (some i) (q1W l)) - 0 + (Int.toNat (Option.getD none (q1W l)) - Int.toNat (Option.getD (some j) (0 : Int)))) : Int)) (0 : Int))) fun (x : Nat) ↦ V.agg [V.str (ByteArray.mk #[]), vi 0, vi 0, vi 0, vi 0]) 100) (Blk.arr 5 (List.length (q9g l i j)) (gL (q00 1) (q9g l i j)) 100)) ∧ (True)))))))))))) := by
  delta qKK; delta q1W; delta vi
  obtain ⟨h1, h2, h3, h4⟩ := hpre
  obtain ⟨k, rfl⟩ := Int.eq_ofNat_of_zero_le h1
  subst h3
  have t1 : ((k : Int) + 1).toNat = k + 1 := by omega
  simp only [Option.getD_some, Option.getD_none, Int.toNat_natCast, Nat.sub_zero, Nat.zero_add, t1]
  have hk : k < l.length := by omega
  have e0 : q9g l (k : Int) ((k : Int) + 1) = l.take k ++ l.drop (k + 1) := rfl
  have el : (q9g l (k : Int) ((k : Int) + 1)).length = k + (l.length - (k + 1)) := by
   rw [e0, List.length_append, List.length_take, List.length_drop]
   omega
  have enc1 : ∀ x : q03, (q00 1 x).cells.length = 5 ∧ q65 (q00 1 x) = true := fun x => ⟨rfl, rfl⟩
  simp only [Int.toNat_zero, Nat.sub_zero, el]
  refine ⟨⟨by omega, by omega, by omega, by omega⟩, fun h => ?_, fun _ => ⟨⟨by omega, by omega, by omega, by omega⟩, ⟨by omega, by omega, by omega, by omega⟩, by omega, by omega, q5c enc1 (by omega), ⟨by omega, by omega, by omega, by omega⟩, VLe.refl _, ?_, trivial⟩⟩
  ·have := eq_of_beq h
   omega
  ·rw [← el]
   refine q5k rfl fun j hj => ?_
   rw [el] at hj
   rw [el]
   exact x8w hk j hj
 exact Eq.mp (by kernel_rfl) key
theorem qZ3 : q6N Tryz.prog 243 qS8 := by
 refine q2q q1C (tpl := [(0, 5)]) Tryz.func243 rfl (by kernel_rfl) fun args bin ob r bout hDe hob => ?_
 unfold qS8 at hDe
 split at hDe
 ·rename_i i0 m0 a1 a2 s0 n0 g0 t0
  cases hDe
  obtain ⟨⟨rfl, rfl, rfl, rfl, hg0⟩, hpre⟩ := hob
  exact ⟨Nat.le_of_ble_eq_true (by kernel_rfl), qVV ((q0M q04) (.sl n0 g0 1)) a1 a2, Eq.mp (by kernel_rfl) htt, Eq.mp (by kernel_rfl) x4E, Eq.mp (by kernel_rfl) (q2K (P := Tryz.prog)), by kernel_rfl, false, n0, 5, q0i, g0, gL (q00 1) ((q0M q04) (.sl n0 g0 1)), [.int .i64 a1, .int .i64 a2], [.int .i64 (a1), .int .i64 (a2)], [], [], rfl, rfl, args_of_vles (l' := [.int .i64 (a1), .int .i64 (a2)]) ⟨VLe.refl _, VLe.refl _, trivial⟩, rfl, q1B (fun i hi => hg0 i hi) (Or.inl rfl), trivial, rfl, (((q0M q04) (.sl n0 g0 1))).length, (q57 _ _ _ _).symm, .inl fun cp_ hcp_ => Eq.mp (by kernel_rfl) (x0C ((q0M q04) (.sl n0 g0 1)) a1 a2 cp_ hcp_ hpre)⟩
 ·cases hDe
end Go.Av
