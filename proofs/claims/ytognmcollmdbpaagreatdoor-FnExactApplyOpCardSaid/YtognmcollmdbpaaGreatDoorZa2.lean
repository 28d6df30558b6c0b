/- The proof's texts, joined, without what the row does not reach: part 2. -/
import Derived.Test.YtognmcollmdbpaaGreatDoorZa1
import Derived.Orders
import Derived.LoopN
namespace Go.Av
set_option linter.unusedVariables false
set_option linter.unusedSimpArgs false
structure Ent (w : World) (X0 io : Nat → Prop) (bin : List Blk) (ι : q0x) (Fr : Nat → Nat → Prop) : Prop where
 own : ∀ id blk b sz m, bin[id]? = some blk → ι id = some (b, sz, m) → q8J w Fr ι b sz m blk ∧ io b
 nob : ∀ id blk, bin[id]? = some blk → ι id = none → ∃ sz h te, blk = .arr sz 0 h te
 inj : ∀ id id' blk blk' r r', bin[id]? = some blk → bin[id']? = some blk' → ι id = some r → ι id' = some r' → r.1 = r'.1 → id = id'
 fr : ∀ t b, Fr t b → b < w.heap.size ∧ ¬ X0 b ∧ ∀ id blk r, bin[id]? = some blk → ι id = some r → r.1 ≠ b
 frS : ∀ b, ¬ Fr q0i b
 fr0 : ∀ t b, Fr t b → Fr 0 b
 fr2 : ∀ t b, 2 ≤ t → ¬ Fr t b
 x0 : ∀ b, X0 b → b < w.heap.size ∧ ¬ io b
 io0 : ∀ b, io b → b < w.heap.size
 few : bin.length < 64
structure Ext (w w' : World) (X0 io N : Nat → Prop) (ι : q0x) (m : Nat) (bout : List Blk) (ι' : q0x) (Fr : Nat → Nat → Prop) : Prop where
 own : ∀ id blk b sz k, bout[id]? = some blk → ι' id = some (b, sz, k) → q8J w' Fr ι' b sz k blk ∧ (N b ∨ (io b ∧ id < m))
 nob : ∀ id blk, bout[id]? = some blk → ι' id = none → ∃ sz h te, blk = .arr sz 0 h te
 inj : ∀ id id' blk blk' r r', bout[id]? = some blk → bout[id']? = some blk' → ι' id = some r → ι' id' = some r' → r.1 = r'.1 → id = id'
 fr : ∀ t b, Fr t b → b < w'.heap.size ∧ ¬ X0 b ∧ ∀ id blk r, bout[id]? = some blk → ι' id = some r → r.1 ≠ b
 frS : ∀ b, ¬ Fr q0i b
 fr0 : ∀ t b, Fr t b → Fr 0 b
 fr2 : ∀ t b, 2 ≤ t → Fr t b → N b
 cl : ∀ t b, 2 ≤ t → Fr t b → ∃ arr e, w'.heap[b]? = some (.cells arr e (0, 0))
 same : ∀ id, id < m → ι' id = ι id
 os : w'.os = w.os
 tape : w'.tape = w.tape
 output : w'.output = w.output
 hsize : w.heap.size ≤ w'.heap.size
 frame : ∀ b, b < w.heap.size → ¬ io b → w'.heap[b]? = w.heap[b]?
 shape : ∀ b e, w.shape? b = some e → w'.shape? b = some e
def qFz (P : Program) (f : Nat) (vals : Array Value) (w : World) (R : Ending → World → Prop) : Prop :=
 ((callFunc f vals).run P w = .ok (.enter f vals) w ∧ Calls P f vals w R) ∨
 ∃ v, (callFunc f vals).run P w = .ok (.value v) w ∧ R (.returned v) w
theorem qFz.body {P : Program} {f : Nat} {vals : Array Value} {w : World} {R : Ending → World → Prop} (h : qFz P f vals w R) (he : (callFunc f vals).run P w = .ok (.enter f vals) w) : Calls P f vals w R := by
 rcases h with h | ⟨v, hv, _⟩
 ·exact h.2
 ·rw [he] at hv; cases hv
structure q0T (P : Program) (f : Nat) (D : q0G) : Prop where
 does : ∀ args bin ob r bout, D args bin = some (ob, r, bout) → ob → ∀ (vals : Array Value) (w : World) (X0 io : Nat → Prop) (ι : q0x) (Fr : Nat → Nat → Prop),
  Ent w X0 io bin ι Fr → vals.size = args.length → (∀ j, j < args.length → q0X w Fr ι (args.getD j .undef) (vals.getD j Go.undef)) →
  qFz P f vals w fun e w' => ∃ v ι' Fr', e = .returned v ∧ q0X w' Fr' ι' r v ∧ Ext w w' X0 io (fun b => w.heap.size ≤ b) ι bin.length bout ι' Fr'
structure q6N (P : Program) (f : Nat) (D : q0G) : Prop where
 does : ∀ args bin ob r bout, D args bin = some (ob, r, bout) → ob → ∀ (vals : Array Value) (w : World) (X0 io : Nat → Prop) (ι : q0x) (Fr : Nat → Nat → Prop),
  Ent w X0 io bin ι Fr → (∀ t b, Fr t b → ¬ io b) → vals.size = args.length → (∀ j, j < args.length → q0X w Fr ι (args.getD j .undef) (vals.getD j Go.undef)) →
  qFz P f vals w fun e w' => ∃ v ι' Fr', e = .returned v ∧ q0X w' Fr' ι' r v ∧ Ext w w' X0 io (fun b => w.heap.size ≤ b ∨ io b) ι 0 bout ι' Fr'
def qQ8 (P : Program) (b : Fl) (f : Nat) (D : q0G) : Prop := match b with
 | .mv => q6N P f D
 | _ => q0T P f D
def q0D (P : Program) (D : Nat → Option (Fl × q0G)) : Prop := ∀ f b S, D f = some (b, S) → qQ8 P b f S
theorem q36 (f : Nat → Nat) : ∀ (cs : List V) (j : Nat), j < cs.length → (V.renL f cs).getD j .undef = V.ren f (cs.getD j .undef)
 | [], _, h => by simp at h
 | _ :: _, 0, _ => by simp [V.renL]
 | _ :: cs, j + 1, h => by simpa [V.renL] using q36 f cs j (by simpa using h)
theorem q0n (f : Nat → Nat) : ∀ cs : List V, (V.renL f cs).length = cs.length
 | [] => rfl
 | _ :: cs => by simp [V.renL, q0n f cs]
theorem q2c : ∀ {cs : List V} {j : Nat}, j < cs.length → ∀ id ∈ (cs.getD j .undef).ids, id ∈ V.idsL cs
 | [], _, h, _, _ => by simp at h
 | c :: cs, 0, _, id, hid => by simp only [V.idsL, List.mem_append]; left; simpa using hid
 | c :: cs, j + 1, h, id, hid => by simp only [V.idsL, List.mem_append]; right; exact q2c (cs := cs) (j := j) (by simpa using h) id (by simpa using hid)
theorem q0X.renTag {w w' : World} {Fr Fr' : Nat → Nat → Prop} {ι ι' : q0x} {f h : Nat → Nat} {v : V} {x : Value} (hr : q0X w Fr ι v x)
  (hι : ∀ id ∈ v.ids, ι' (f id) = ι id) (hF : ∀ t b, Fr t b → Fr' (h t) b ∧ w'.heap[b]? = w.heap[b]?) (hS : ∀ b, ¬ Fr q0i b) (hsh : ∀ b e, w.shape? b = some e → w'.shape? b = some e) :
  q0X w' Fr' ι' ((v.ren f).tag h) x := by
 induction hr with
 | atom hv hp =>
  rename_i v x
  cases hp with
  | int => exact .atom rfl (.int _ _)
  | bool => exact .atom rfl (.bool _)
  | str => exact .atom rfl (.str _)
  | nil => exact .atom rfl (.nil _)
  | sl0 => exact .atom rfl (.sl0 _ _ _ _)
  | sl cv hA hcap hsz hc hr =>
   exact .atom rfl ((PRep.sl cv hA hcap hsz hc hr).mono fun b hb => hF _ b hb)
  | ptr cv hA hc hr => exact .atom rfl ((PRep.ptr cv hA hc hr).mono fun b hb => hF _ b hb)
  | agg => simp [isP] at hv
  | tup => simp [isP] at hv
  | fn => simp [isP] at hv
  | undef => exact .atom rfl (.undef _)
 | osl hi hn hc hs hcs =>
  exact .osl (by rw [hι _ (by simp [V.ids])]; exact hi) hn hc (hsh _ _ hs) hcs
 | osl0 a hi => exact .osl0 a (by rw [hι _ (by simp [V.ids])]; exact hi)
 | oss hi hn hc hcc hx hs hcs => exact .oss (by rw [hι _ (by simp [V.ids])]; exact hi) hn hc hcc hx (hsh _ _ hs) hcs
 | oss0 a h0 => exact .oss0 a fun e => by rw [hι _ (by simp [V.ids])]; exact h0 e
 | oref hi him => exact .oref (by rw [hι _ (by simp [V.ids])]; exact hi) him
 | omap hi => exact .omap (by rw [hι _ (by simp [V.ids])]; exact hi)
 | agg arr hs _ ih =>
  refine .agg arr (by rw [q1H, q0n]; exact hs) fun j hj => ?_
  rw [q1H, q0n] at hj
  rw [q3g _ _ _ (by rw [q0n]; exact hj), q36 _ _ _ hj]
  exact ih j hj fun id hid => hι id (q2c hj id hid)
 | tup arr hs _ ih =>
  refine .tup arr (by rw [q1H, q0n]; exact hs) fun j hj => ?_
  rw [q1H, q0n] at hj
  rw [q3g _ _ _ (by rw [q0n]; exact hj), q36 _ _ _ hj]
  exact ih j hj fun id hid => hι id (q2c hj id hid)
 | fn arr hs _ ih =>
  refine .fn arr (by rw [q1H, q0n]; exact hs) fun j hj => ?_
  rw [q1H, q0n] at hj
  rw [q3g _ _ _ (by rw [q0n]; exact hj), q36 _ _ _ hj]
  exact ih j hj fun id hid => hι id (q2c hj id hid)
 | cnd _ hf ih => exact .cnd (fun hc => ih hc hι) hf
theorem qAc {g : G} {s : AS} {a : Act} {w : World} {ι : q0x} {Fr : Nat → Nat → Prop} (h : Rel g s a w ι Fr) {A : Nat → Prop} (hA : ∀ t b, Fr t b → A b)
  (hO : ∀ id blk r, lk s.S id = some blk → ι id = some r → A r.1) {c : V} {x : Value} (hc : q0X w Fr ι c x) : PRep w A (q6Z s.S c) x := by
 cases hc with
 | atom hv hp =>
  cases hp with
  | int => exact .int _ _
  | bool => exact .bool _
  | str => exact .str _
  | nil => exact .nil _
  | sl0 => exact .sl0 _ _ _ _
  | sl cv hA' hcap hsz hc hr => exact (PRep.sl cv hA' hcap hsz hc hr).weaken (hA _)
  | ptr cv hA' hc hr => exact (PRep.ptr cv hA' hc hr).weaken (hA _)
  | agg => simp [isP] at hv
  | tup => simp [isP] at hv
  | fn => simp [isP] at hv
  | undef => exact .undef _
 | osl hi hn hc hs hcs =>
  rename_i id n b sz m cap cz e
  simp only [q6Z]
  split
  ·rename_i sz' m' f te hl
   obtain ⟨rfl, rfl, cells, e', hh, hsz, hlen, hr⟩ := (h.own id _ b sz m hl hi).1
   refine .sl (sz := sz') (off := 0) (fun i j => cells.getD (i * sz' + j) Go.undef) (hO id _ _ hl hi) hc (fun i hin => hlen i (by omega)) (fun i j hin hj => ?_) (fun i j hin hj => (hr i j (by omega) hj).weaken (hA _))
   have e1 : i * sz' + sz' = (i + 1) * sz' := by rw [Nat.add_mul, Nat.one_mul]
   have e2 : (i + 1) * sz' ≤ m' * sz' := Nat.mul_le_mul_right _ (by omega)
   rw [Nat.zero_add]; exact q30 hh (by omega)
  ·exact .undef _
 | osl0 a0 hi =>
  simp only [q6Z]
  split
  ·exact .sl0 _ _ _ _
  ·exact .undef _
 | oref hi hin =>
  rename_i id i off b sz m
  simp only [q6Z]
  split
  ·rename_i sz' m' f te hl
   obtain ⟨rfl, rfl, cells, e', hh, hsz, hlen, hr⟩ := (h.own id _ b sz m hl hi).1
   refine .ptr (base := i * sz') (fun j => cells.getD (i * sz' + j) Go.undef) (hO id _ _ hl hi) (fun j hj => ?_) (fun j hj => (hr i j hin (by rw [← hlen i hin]; exact hj)).weaken (hA _))
   have e1 : i * sz' + sz' = (i + 1) * sz' := by rw [Nat.add_mul, Nat.one_mul]
   have e2 : (i + 1) * sz' ≤ m' * sz' := Nat.mul_le_mul_right _ (by omega)
   rw [hlen i hin] at hj
   exact q30 hh (by omega)
  ·exact .undef _
 | omap => exact .undef _
 | oss => exact .undef _
 | oss0 => exact .undef _
 | agg => exact .undef _
 | tup => exact .undef _
 | fn => exact .undef _
 | cnd => exact .undef _
theorem q2v : ∀ (a b : List (Nat × Option Blk)) (S : List (Nat × Blk)), q0Q S (a ++ b) = q0Q (q0Q S a) b
 | [], _, _ => rfl
 | (id, some x) :: r, b, S => by simp only [List.cons_append, q0Q]; exact q2v r b _
 | (id, none) :: r, b, S => by simp only [List.cons_append, q0Q]; exact q2v r b _
theorem qFD (d : Nat) : ∀ (bs : List Blk) (k : Nat) (S : List (Nat × Blk)) (id : Nat),
  lk (q0Q S (q75 d k bs)) id = if q3C d + k ≤ id ∧ id < q3C d + k + bs.length then bs[id - (q3C d + k)]? else lk S id
 | [], k, S, id => by
  have : ¬ (q3C d + k ≤ id ∧ id < q3C d + k + ([] : List Blk).length) := by simp
  rw [if_neg this]; rfl
 | b :: r, k, S, id => by
  rw [q75, q0Q, qFD d r (k + 1), q1J]
  simp only [List.length_cons]
  by_cases h1 : id = q3C d + k
  ·subst h1
   rw [if_neg (by omega), if_pos rfl, if_pos (by omega)]
   simp
  ·by_cases h2 : q3C d + (k + 1) ≤ id ∧ id < q3C d + (k + 1) + r.length
   ·rw [if_pos h2, if_pos (by omega)]
    have : id - (q3C d + k) = (id - (q3C d + (k + 1))) + 1 := by omega
    rw [this]; simp
   ·rw [if_neg h2, if_neg h1, if_neg (by omega)]
theorem qC7 (f : Nat → Nat) (d : Nat) : ∀ (ids : List Nat) (bs : List Blk) (S : List (Nat × Blk)), ids.Nodup → ids.length ≤ bs.length →
  (∀ j b, j < ids.length → bs[j]? = some b → lk (q0Q S (q6S f d ids bs)) (ids.getD j 0) = some ((b.ren f).retag d)) ∧ ∀ id, id ∉ ids → lk (q0Q S (q6S f d ids bs)) id = lk S id
 | [], bs, S, _, _ => ⟨fun j b h => by simp at h, fun id _ => by cases bs <;> rfl⟩
 | k :: r, b :: q, S, hn, hl => by
  rw [List.nodup_cons] at hn
  obtain ⟨ih1, ih2⟩ := qC7 f d r q (put S k ((b.ren f).retag d)) hn.2 (by simpa using hl)
  rw [q6S, q0Q]
  refine ⟨fun j c hj hc => ?_, fun id hid => ?_⟩
  ·cases j with
   | zero =>
    simp only [List.getElem?_cons_zero, Option.some.injEq] at hc
    subst hc
    rw [List.getD_cons_zero, ih2 k hn.1, q1J, if_pos rfl]
   | succ j =>
    rw [List.getD_cons_succ]
    exact ih1 j c (by simpa using hj) (by simpa using hc)
  ·simp only [List.mem_cons, not_or] at hid
   rw [ih2 id hid.2, q1J, if_neg hid.1]
 | _ :: _, [], _, _, h => by simp at h
theorem q2x : ∀ {ids : List Nat} {j : Nat}, ids.Nodup → j < ids.length → q7r (ids.getD j 0) ids = j
 | [], _, _, h => by simp at h
 | k :: r, 0, _, _ => by simp [q7r]
 | k :: r, j + 1, hn, hj => by
  rw [List.nodup_cons] at hn
  have hj' : j < r.length := by simpa using hj
  have hmem : r.getD j 0 ∈ r := by
   have : r.getD j 0 = r[j] := by simp [List.getD, hj']
   rw [this]; exact List.getElem_mem hj'
  have hne : ¬ k = r.getD j 0 := fun e => hn.1 (e ▸ hmem)
  rw [List.getD_cons_succ, q7r, q0z.2 hne]
  simp only
  rw [q2x hn.2 hj']
theorem q7T : ∀ (l : List Nat), (q63 l).Nodup ∧ ∀ k, k ∈ q63 l ↔ k ∈ l
 | [] => ⟨List.nodup_nil, fun _ => Iff.rfl⟩
 | k :: r => by
  obtain ⟨h1, h2⟩ := q7T r
  rw [q63]
  split
  ·rename_i hm
   refine ⟨h1, fun j => ?_⟩
   rw [h2, List.mem_cons]
   constructor
   ·exact .inr
   ·rintro (rfl | h)
    ·exact q4n.1 hm
    ·exact h
  ·rename_i hm
   refine ⟨List.nodup_cons.2 ⟨fun hk => q7y.1 hm ((h2 k).1 hk), h1⟩, fun j => ?_⟩
   rw [List.mem_cons, List.mem_cons, h2]
theorem q8O {ids : List Nat} {id : Nat} (h : id ∈ ids) : ∃ j, j < ids.length ∧ ids.getD j 0 = id := by
 obtain ⟨j, hj, rfl⟩ := List.mem_iff_getElem.1 h
 exact ⟨j, hj, by simp [List.getD, hj]⟩
theorem qI2 {d t : Nat} (h : 2 ≤ t) (hS : t ≠ q0i) : retag d t = d + 200 := by
 unfold retag
 split
 ·omega
 ·omega
 ·rw [q0z.2 hS]
mutual
theorem q8w {v : V} {w : World} {Fr Fr' : Nat → Nat → Prop} {ι : q0x} {x : Value} (hr : q0X w Fr ι v x) (hc : V.closed v = true) (h : ∀ t b, 2 ≤ t → Fr t b → Fr' t b) (hS : ∀ b, ¬ Fr q0i b) : q0X w Fr' ι v x := by
 cases hr with
 | atom hv hp =>
  cases hp with
  | int => exact .atom rfl (.int _ _)
  | bool => exact .atom rfl (.bool _)
  | str => exact .atom rfl (.str _)
  | nil => exact .atom rfl (.nil _)
  | sl0 => exact .atom rfl (.sl0 _ _ _ _)
  | sl cv hA hcap hsz hc' hr => exact .atom rfl ((PRep.sl cv hA hcap hsz hc' hr).weaken fun b hb => h _ b (Nat.le_of_ble_eq_true hc) hb)
  | ptr cv hA hc' hr => exact .atom rfl ((PRep.ptr cv hA hc' hr).weaken fun b hb => h _ b (Nat.le_of_ble_eq_true hc) hb)
  | agg => simp [isP] at hv
  | tup => simp [isP] at hv
  | fn => simp [isP] at hv
  | undef => exact .atom rfl (.undef _)
 | osl hi hn hc' hs hcs => exact .osl hi hn hc' hs hcs
 | osl0 a hi => exact .osl0 a hi
 | oss hi hn hc' hcc hx hs hcs => exact .oss hi hn hc' hcc hx hs hcs
 | oss0 a h0 => exact .oss0 a h0
 | oref hi him => exact .oref hi him
 | omap hi => exact .omap hi
 | agg arr hs hr => exact .agg arr hs fun j hj => closedL_tag (hr j hj) hj hc h hS
 | tup arr hs hr => exact .tup arr hs fun j hj => closedL_tag (hr j hj) hj hc h hS
 | fn arr hs hr => exact .fn arr hs fun j hj => closedL_tag (hr j hj) hj hc h hS
 | cnd ht hf => exact .cnd (fun hq => q8w (ht hq) hc h hS) hf
theorem closedL_tag {cs : List V} {j : Nat} {w : World} {Fr Fr' : Nat → Nat → Prop} {ι : q0x} {x : Value} (hr : q0X w Fr ι (cs.getD j .undef) x) (hj : j < cs.length) (hc : V.closedL cs = true) (h : ∀ t b, 2 ≤ t → Fr t b → Fr' t b) (hS : ∀ b, ¬ Fr q0i b) : q0X w Fr' ι (cs.getD j .undef) x := by
 match cs, j, hr, hj, hc with
 | c :: cs, 0, hr, _, hc =>
  simp only [V.closedL, Bool.and_eq_true] at hc
  simp only [List.getD_cons_zero] at hr ⊢
  exact q8w hr hc.1 h hS
 | c :: cs, j + 1, hr, hj, hc =>
  simp only [V.closedL, Bool.and_eq_true] at hc
  simp only [List.getD_cons_succ] at hr ⊢
  exact closedL_tag hr (by simpa using hj) hc.2 h hS
end
theorem q3c {m : Nat} : ∀ {l : List Nat}, qEA m l = true → ∀ k ∈ l, k < m
 | [], _, _, h => by cases h
 | j :: r, h, k, hk => by
  simp only [qEA, Bool.and_eq_true] at h
  rcases List.mem_cons.1 hk with rfl | hk
  ·exact Nat.le_of_ble_eq_true h.1
  ·exact q3c h.2 k hk
theorem q6r {g : G} {s : AS} {a : Act} {w w' : World} {ι ι' ιc : q0x} {Fr Fr' : Nat → Nat → Prop} (h : Rel g s a w ι Fr) {d : Nat} (hfresh : ∀ id, id / 64 = d + 1 → q0l s id)
  {ids : List Nat} (hnd : ids.Nodup) (hlk : ∀ id ∈ ids, ∃ blk, lk s.S id = some blk) {X0c io N : Nat → Prop} {bout : List Blk} (hE : Ext w w' X0c io N ιc ids.length bout ι' Fr')
  (hNn : ∀ b, N b → g.New b) (hNo : ∀ b, N b → (∀ t, ¬ Fr t b) ∧ ∀ id blk q, lk s.S id = some blk → ι id = some q → q.1 ≠ b)
  (hιc : ∀ j, j < ids.length → ιc j = ι (ids.getD j 0)) (hio : ∀ b, io b → (∃ id ∈ ids, ∃ r, ι id = some r ∧ r.1 = b) ∨ N b) (hX : ∀ b, g.X0 b → X0c b)
  (hlen : ids.length ≤ bout.length) (hfew : bout.length < 63) {r : V} {v : Value} (hrv : q0X w' Fr' ι' r v) (hrl : ∀ k ∈ r.ids, k < bout.length) (hbl : ∀ b ∈ bout, ∀ k ∈ b.ids, k < bout.length)
  (hcl : (∀ id blk q, id ∉ ids → lk s.S id = some blk → ι id = some q → X0c q.1) ∨ (V.closed r = true ∧ ∀ b ∈ bout, Blk.closed b = true)) :
  ∃ ι2 Fr2, Rel g { s with S := q0Q s.S (q6S (nmI d ids) d ids bout ++ q75 d 0 ((bout.drop ids.length).map fun b => (b.ren (nmI d ids)).retag d)) } a w' ι2 Fr2 ∧
   q0X w' Fr2 ι2 ((r.ren (nmI d ids)).tag (retag d)) v := by
 let Old : Nat → Prop := fun b => ∃ id, id ∉ ids ∧ ∃ blk q, lk s.S id = some blk ∧ ι id = some q ∧ q.1 = b
 let ι2 : q0x := fun id => if id / 64 = d + 1 then ι' (id - q3C d + ids.length) else ι id
 let Fr2 : Nat → Nat → Prop := fun t b => Fr t b ∨ (t = 0 ∧ Fr' 0 b ∧ ¬ Old b) ∨ (t = d + 200 ∧ ∃ t', 2 ≤ t' ∧ Fr' t' b)
 have hnoOld : ∀ t b, 2 ≤ t → Fr' t b → ¬ Old b := by
  rintro t b h2 hf ⟨id, _, blk, q, hl, hi, rfl⟩
  exact (hNo _ (hE.fr2 t _ h2 hf)).2 id blk q hl hi rfl
 have hsite : ∀ id blk, lk s.S id = some blk → ¬ id / 64 = d + 1 := by
  intro id blk hl hq
  have := (hfresh id hq).no
  rw [hl] at this; cases this
 have hsid : ∀ j, j < 64 → (q3C d + j) / 64 = d + 1 := by
  intro j hj
  unfold q3C
  rw [Nat.mul_add_div (by omega), Nat.div_eq_of_lt hj]
 have hmt : ∀ t v, lk s.T t = some v → V.ment (fun k => decide (k / 64 = d + 1)) v = false := by
  intro t v hv
  cases hm : V.ment (fun k => decide (k / 64 = d + 1)) v with
  | false => rfl
  | true =>
   exfalso
   have key : ∀ (v : V), V.ment (fun k => decide (k / 64 = d + 1)) v = true → ∃ id, id / 64 = d + 1 ∧ V.ment (fun k => Nat.beq k id) v = true := by
    intro v
    refine V.rec (motive_1 := fun v => V.ment (fun k => decide (k / 64 = d + 1)) v = true → ∃ id, id / 64 = d + 1 ∧ V.ment (fun k => Nat.beq k id) v = true)
     (motive_2 := fun l => V.mentL (fun k => decide (k / 64 = d + 1)) l = true → ∃ id, id / 64 = d + 1 ∧ V.mentL (fun k => Nat.beq k id) l = true)
     ?_ ?_ ?_ ?_ ?_ ?_ ?_ ?_ ?_ ?_ ?_ ?_ ?_ ?_ ?_ ?_ ?_ v
    ·intro k n hq; simp [V.ment] at hq
    ·intro b hq; simp [V.ment] at hq
    ·intro s hq; simp [V.ment] at hq
    ·intro hq; simp [V.ment] at hq
    ·intro n g t _ hq; simp [V.ment] at hq
    ·intro cs off t _ hq; simp [V.ment] at hq
    ·intro cs ih hq; exact ih hq
    ·intro cs ih hq; exact ih hq
    ·intro f cs ih hq; exact ih hq
    ·intro id n hq; exact ⟨id, by simpa [V.ment] using hq, by simp [V.ment]⟩
    ·intro id lo n c e hq; exact ⟨id, by simpa [V.ment] using hq, by simp [V.ment]⟩
    ·intro id i off hq; exact ⟨id, by simpa [V.ment] using hq, by simp [V.ment]⟩
    ·intro id hq; exact ⟨id, by simpa [V.ment] using hq, by simp [V.ment]⟩
    ·intro c v ih hq; exact ih hq
    ·intro hq; simp [V.ment] at hq
    ·intro hq; simp [V.mentL] at hq
    ·intro c l ih1 ih2 hq
     simp only [V.mentL, Bool.or_eq_true] at hq ⊢
     rcases hq with hq | hq
     ·obtain ⟨id, h1, h2⟩ := ih1 hq; exact ⟨id, h1, .inl h2⟩
     ·obtain ⟨id, h1, h2⟩ := ih2 hq; exact ⟨id, h1, .inr h2⟩
   obtain ⟨id, h1, h2⟩ := key v hm
   have := (hfresh id h1).T t v hv
   rw [h2] at this; cases this
 have hms : ∀ k blk, lk s.S k = some blk → blk.ment (fun k => decide (k / 64 = d + 1)) = false := by
  intro k blk hk
  cases blk with
  | mp => rfl
  | arr => rfl
  | box cs =>
   cases hm : V.mentL (fun k => decide (k / 64 = d + 1)) cs with
   | false => exact hm
   | true =>
    exfalso
    have key : ∀ (l : List V), V.mentL (fun k => decide (k / 64 = d + 1)) l = true → ∃ id, id / 64 = d + 1 ∧ V.mentL (fun k => Nat.beq k id) l = true := by
     intro l
     refine V.rec_1 (motive_1 := fun v => V.ment (fun k => decide (k / 64 = d + 1)) v = true → ∃ id, id / 64 = d + 1 ∧ V.ment (fun k => Nat.beq k id) v = true)
      (motive_2 := fun l => V.mentL (fun k => decide (k / 64 = d + 1)) l = true → ∃ id, id / 64 = d + 1 ∧ V.mentL (fun k => Nat.beq k id) l = true)
      ?_ ?_ ?_ ?_ ?_ ?_ ?_ ?_ ?_ ?_ ?_ ?_ ?_ ?_ ?_ ?_ ?_ l
     ·intro k n hq; simp [V.ment] at hq
     ·intro b hq; simp [V.ment] at hq
     ·intro s hq; simp [V.ment] at hq
     ·intro hq; simp [V.ment] at hq
     ·intro n g t _ hq; simp [V.ment] at hq
     ·intro cs off t _ hq; simp [V.ment] at hq
     ·intro cs ih hq; exact ih hq
     ·intro cs ih hq; exact ih hq
     ·intro f cs ih hq; exact ih hq
     ·intro id n hq; exact ⟨id, by simpa [V.ment] using hq, by simp [V.ment]⟩
     ·intro id lo n c e hq; exact ⟨id, by simpa [V.ment] using hq, by simp [V.ment]⟩
     ·intro id i off hq; exact ⟨id, by simpa [V.ment] using hq, by simp [V.ment]⟩
     ·intro id hq; exact ⟨id, by simpa [V.ment] using hq, by simp [V.ment]⟩
     ·intro c v ih hq; exact ih hq
     ·intro hq; simp [V.ment] at hq
     ·intro hq; simp [V.mentL] at hq
     ·intro c l ih1 ih2 hq
      simp only [V.mentL, Bool.or_eq_true] at hq ⊢
      rcases hq with hq | hq
      ·obtain ⟨id, h1, h2⟩ := ih1 hq; exact ⟨id, h1, .inl h2⟩
      ·obtain ⟨id, h1, h2⟩ := ih2 hq; exact ⟨id, h1, .inr h2⟩
    obtain ⟨id, h1, h2⟩ := key cs hm
    have := (hfresh id h1).S k _ hk
    simp only [Blk.ment] at this
    rw [h2] at this; cases this
 have hι2 : ∀ id, decide (id / 64 = d + 1) = false → ι2 id = ι id := by
  intro id hid
  have : ¬ id / 64 = d + 1 := by simpa using hid
  show (if id / 64 = d + 1 then _ else _) = _
  rw [if_neg this]
 have hιid : ∀ id blk, lk s.S id = some blk → ι2 id = ι id := fun id blk hl => hι2 id (by simpa using hsite id blk hl)
 have hioOwn : ∀ b, io b → (∃ id blk r, lk s.S id = some blk ∧ ι id = some r ∧ r.1 = b) ∨ N b := by
  intro b hb
  rcases hio b hb with ⟨id, hid, r, hr, rfl⟩ | hn
  ·obtain ⟨blk, hl⟩ := hlk id hid
   exact .inl ⟨id, blk, r, hl, hr, rfl⟩
  ·exact .inr hn
 have hFold : ∀ t b, Fr t b → Fr2 t b ∧ w'.heap[b]? = w.heap[b]? := by
  intro t b hf
  refine ⟨.inl hf, hE.frame b (h.fr t b hf).1 fun hb => ?_⟩
  rcases hioOwn b hb with ⟨id, blk, r, hl, hi, hr⟩ | hn
  ·exact (h.fr t b hf).2.2 id blk r hl hi hr
  ·exact (hNo b hn).1 t hf
 have hnm : ∀ k, k < bout.length → ι2 (nmI d ids k) = ι' k := by
  intro k hk
  unfold nmI
  cases hb : Nat.blt k ids.length with
  | true =>
   have hk' : k < ids.length := Nat.le_of_ble_eq_true hb
   simp only
   have hmem : ids.getD k 0 ∈ ids := by
    have : ids.getD k 0 = ids[k] := by simp [List.getD, hk']
    rw [this]; exact List.getElem_mem hk'
   obtain ⟨blk, hl⟩ := hlk _ hmem
   rw [hιid _ blk hl, hE.same k hk', hιc k hk']
  | false =>
   have hk' : ¬ k < ids.length := by
    intro h'
    have : Nat.blt k ids.length = true := Nat.ble_eq_true_of_le h'
    rw [hb] at this; cases this
   simp only
   show (if (q3C d + (k - ids.length)) / 64 = d + 1 then _ else _) = _
   rw [if_pos (hsid _ (by omega))]
   congr 1; omega
 have conv : ∀ (u : V) (x : Value), q0X w' Fr' ι' u x → (∀ k ∈ u.ids, k < bout.length) → ((∀ id blk q, id ∉ ids → lk s.S id = some blk → ι id = some q → X0c q.1) ∨ V.closed u = true) →
   q0X w' Fr2 ι2 ((u.ren (nmI d ids)).tag (retag d)) x := by
  intro u x hu hul hcase
  have main : ∀ (F : Nat → Nat → Prop), q0X w' F ι' u x → (∀ t b, F t b → Fr2 (retag d t) b) → (∀ b, ¬ F q0i b) → q0X w' Fr2 ι2 ((u.ren (nmI d ids)).tag (retag d)) x :=
   fun F hF h1 h2 => hF.renTag (fun id hid => hnm id (hul id hid)) (fun t b hb => ⟨h1 t b hb, rfl⟩) h2 (fun _ _ hs => hs)
  have big : ∀ t b, 2 ≤ t → Fr' t b → Fr2 (retag d t) b := by
   intro t b h2 hf
   have hS : t ≠ q0i := fun e => hE.frS b (e ▸ hf)
   rw [qI2 h2 hS]
   exact .inr (.inr ⟨rfl, t, h2, hf⟩)
  rcases hcase with hx | hc
  ·refine main Fr' hu (fun t b hf => ?_) hE.frS
   rcases Nat.lt_or_ge t 2 with h2 | h2
   ·have e1 : retag d t = 0 := by
     match t, h2 with
     | 0, _ => rfl
     | 1, _ => rfl
    rw [e1]
    refine .inr (.inl ⟨rfl, hE.fr0 t b hf, ?_⟩)
    rintro ⟨id, hid, blk, q, hl, hi, rfl⟩
    exact (hE.fr t _ hf).2.1 (hx id blk q hid hl hi)
   ·exact big t b h2 hf
  ·exact main (fun t b => 2 ≤ t ∧ Fr' t b) (q8w hu hc (fun t b h2 hf => ⟨h2, hf⟩) hE.frS) (fun t b hf => big t b hf.1 hf.2) (fun b hf => hE.frS b hf.2)
 have convB : ∀ (id : Nat) (blk : Blk) (b sz m : Nat), bout[id]? = some blk → ι' id = some (b, sz, m) → q8J w' Fr2 ι2 b sz m ((blk.ren (nmI d ids)).retag d) := by
  intro id blk b sz m hb hi
  have ho := (hE.own id blk b sz m hb hi).1
  have hmem : blk ∈ bout := List.mem_of_getElem? hb
  cases blk with
  | mp => exact ho
  | arr sz' n f te =>
   obtain ⟨q1, q2, cells, e, q3, q4, q5, q6⟩ := ho
   refine ⟨q1, q2, cells, e, q3, q4, q5, fun i j hi' hj => (q6 i j hi' hj).weaken fun k hk => ?_⟩
   rcases Nat.lt_or_ge te 2 with h2 | h2
   ·have e1 : retag d te = 0 := by
     match te, h2 with
     | 0, _ => rfl
     | 1, _ => rfl
    rw [e1]
    refine .inr (.inl ⟨rfl, hE.fr0 te k hk, ?_⟩)
    rintro ⟨id', hid', blk', q, hl', hi2, rfl⟩
    rcases hcl with hx | ⟨_, hc⟩
    ·exact (hE.fr te _ hk).2.1 (hx id' blk' q hid' hl' hi2)
    ·have := hc _ hmem
     have : 2 ≤ te := Nat.le_of_ble_eq_true this
     omega
   ·have hS : te ≠ q0i := fun e => hE.frS k (e ▸ hk)
    rw [qI2 h2 hS]
    exact .inr (.inr ⟨rfl, te, h2, hk⟩)
  | box cs =>
   obtain ⟨cells, e, q3, q4, q6⟩ := ho
   refine ⟨cells, e, q3, by rw [q1H, q0n]; exact q4, fun j hj => ?_⟩
   rw [q1H, q0n] at hj
   rw [q3g _ _ _ (by rw [q0n]; exact hj), q36 _ _ _ hj]
   refine conv _ _ (q6 j hj) (fun k hk => hbl _ hmem k (q2c hj k hk)) ?_
   rcases hcl with hx | ⟨_, hc⟩
   ·exact .inl hx
   ·right
    have := hc _ hmem
    simp only [Blk.closed] at this
    have key : ∀ (l : List V) (j : Nat), V.closedL l = true → j < l.length → V.closed (l.getD j .undef) = true := by
     intro l
     induction l with
     | nil => intro j _ h; simp at h
     | cons c l ih =>
      intro j hq hj
      simp only [V.closedL, Bool.and_eq_true] at hq
      cases j with
      | zero => simpa using hq.1
      | succ j => simpa using ih j hq.2 (by simpa using hj)
    exact key cs j this hj
 have hback := qC7 (nmI d ids) d ids bout s.S hnd hlen
 let S2 := q0Q s.S (q6S (nmI d ids) d ids bout ++ q75 d 0 ((bout.drop ids.length).map fun b => (b.ren (nmI d ids)).retag d))
 have hS2 : ∀ id blk, lk S2 id = some blk → (∃ k c, k < bout.length ∧ bout[k]? = some c ∧ id = nmI d ids k ∧ blk = (c.ren (nmI d ids)).retag d) ∨ (id ∉ ids ∧ lk s.S id = some blk) := by
  intro id blk hq
  show _ ∨ _
  have hq' : lk (q0Q (q0Q s.S (q6S (nmI d ids) d ids bout)) (q75 d 0 ((bout.drop ids.length).map fun b => (b.ren (nmI d ids)).retag d))) id = some blk := by
   rw [← q2v]; exact hq
  rw [qFD] at hq'
  split at hq'
  ·rename_i hr
   simp only [List.length_map, List.length_drop, Nat.add_zero] at hr hq'
   rw [List.getElem?_map, List.getElem?_drop] at hq'
   cases hc : bout[ids.length + (id - q3C d)]? with
   | none => rw [hc] at hq'; simp at hq'
   | some c =>
    rw [hc] at hq'
    simp only [Option.map_some, Option.some.injEq] at hq'
    have hk := (List.getElem?_eq_some_iff.1 hc).1
    refine .inl ⟨_, c, hk, hc, ?_, hq'.symm⟩
    unfold nmI
    have : Nat.blt (ids.length + (id - q3C d)) ids.length = false := by
     cases hb : Nat.blt (ids.length + (id - q3C d)) ids.length with
     | false => rfl
     | true => have : ids.length + (id - q3C d) + 1 ≤ ids.length := Nat.le_of_ble_eq_true hb; omega
    rw [this]
    simp only
    omega
  ·by_cases hid : id ∈ ids
   ·obtain ⟨j, hj, rfl⟩ := q8O hid
    have hjb : j < bout.length := by omega
    have hbj : bout[j]? = some bout[j] := List.getElem?_eq_getElem hjb
    rw [hback.1 j _ hj hbj] at hq'
    simp only [Option.some.injEq] at hq'
    refine .inl ⟨j, _, hjb, hbj, ?_, hq'.symm⟩
    unfold nmI
    have : Nat.blt j ids.length = true := Nat.ble_eq_true_of_le hj
    rw [this]
   ·rw [hback.2 id hid] at hq'
    exact .inr ⟨hid, hq'⟩
 have hnmInj : ∀ k k', k < bout.length → k' < bout.length → nmI d ids k = nmI d ids k' → k = k' := by
  have split : ∀ k, k < bout.length → (k < ids.length ∧ nmI d ids k = ids.getD k 0 ∧ ¬ nmI d ids k / 64 = d + 1) ∨ (ids.length ≤ k ∧ nmI d ids k = q3C d + (k - ids.length) ∧ nmI d ids k / 64 = d + 1) := by
   intro k hk
   unfold nmI
   cases hb : Nat.blt k ids.length with
   | true =>
    have hk' : k < ids.length := Nat.le_of_ble_eq_true hb
    have hmem : ids.getD k 0 ∈ ids := by
     have : ids.getD k 0 = ids[k] := by simp [List.getD, hk']
     rw [this]; exact List.getElem_mem hk'
    obtain ⟨blk, hl⟩ := hlk _ hmem
    exact .inl ⟨hk', rfl, hsite _ blk hl⟩
   | false =>
    have hk' : ¬ k < ids.length := by
     intro h'
     have : Nat.blt k ids.length = true := Nat.ble_eq_true_of_le h'
     rw [hb] at this; cases this
    exact .inr ⟨by omega, rfl, hsid _ (by omega)⟩
  intro k k' hk hk' he
  rcases split k hk with ⟨h1, h2, h3⟩ | ⟨h1, h2, h3⟩ <;> rcases split k' hk' with ⟨h4, h5, h6⟩ | ⟨h4, h5, h6⟩
  ·rw [h2, h5] at he
   have e1 := q2x hnd h1
   have e2 := q2x hnd h4
   rw [he, e2] at e1
   exact e1.symm
  ·rw [he] at h3; exact absurd h6 h3
  ·rw [he] at h3; exact absurd h3 h6
  ·rw [h2, h5] at he; omega
 refine ⟨ι2, Fr2, ?_, conv r v hrv hrl (by rcases hcl with hx | ⟨hc, _⟩; exact .inl hx; exact .inr hc)⟩
 have hoa : ∀ id blk b sz m, id ∉ ids → lk s.S id = some blk → ι id = some (b, sz, m) → b < w.heap.size ∧ ¬ io b := by
  intro id blk b sz m hid hl hi
  refine ⟨(h.own id blk b sz m hl hi).1.lt, fun hb => ?_⟩
  rcases hio b hb with ⟨id', hid', r', hr', e1⟩ | hn
  ·obtain ⟨blk', hl'⟩ := hlk id' hid'
   have := h.inj id id' blk blk' _ r' hl hl' hi hr' e1.symm
   exact hid (this ▸ hid')
  ·exact (hNo b hn).2 id blk _ hl hi rfl
 exact
  {h with
   tmp := fun t u hu => (h.tmp t u hu).mono (p := fun k => decide (k / 64 = d + 1)) hFold hι2 (hmt t u hu) (fun _ r e _ _ hs => hE.shape r.1 e hs)
   own := fun id blk b sz m hl hi => by
    rcases hS2 id blk hl with ⟨k, c, hk, hc, rfl, rfl⟩ | ⟨hid, hl'⟩
    ·rw [hnm k hk] at hi
     refine ⟨convB k c b sz m hc hi, ?_⟩
     rcases (hE.own k c b sz m hc hi).2 with h1 | ⟨h1, h2⟩
     ·exact .inl (hNn b h1)
     ·have hkm : ids.getD k 0 ∈ ids := by
       have : ids.getD k 0 = ids[k] := by simp [List.getD, h2]
       rw [this]; exact List.getElem_mem h2
      obtain ⟨blk', hl'⟩ := hlk _ hkm
      rw [hE.same k h2, hιc k h2] at hi
      have := (h.own _ blk' b sz m hl' hi).2
      have e1 : nmI d ids k = ids.getD k 0 := by
       unfold nmI
       have : Nat.blt k ids.length = true := Nat.ble_eq_true_of_le h2
       rw [this]
      rw [e1]; exact this
    ·rw [hιid id blk hl'] at hi
     obtain ⟨h1, h2⟩ := h.own id blk b sz m hl' hi
     obtain ⟨h3, h4⟩ := hoa id blk b sz m hid hl' hi
     exact ⟨h1.mono (p := fun k => decide (k / 64 = d + 1)) (hE.frame b h3 h4) hFold hι2 (hms id blk hl') (fun _ r e _ _ hs => hE.shape r.1 e hs), h2⟩
   nob := fun id blk hl hi => by
    rcases hS2 id blk hl with ⟨k, c, hk, hc, rfl, rfl⟩ | ⟨hid, hl'⟩
    ·rw [hnm k hk] at hi
     obtain ⟨sz, f, te, rfl⟩ := hE.nob k c hc hi
     exact ⟨sz, f, _, rfl⟩
    ·rw [hιid id blk hl'] at hi
     exact h.nob id blk hl' hi
   inj := fun id id' blk blk' r1 r2 h1 h2 h3 h4 h5 => by
    rcases hS2 id blk h1 with ⟨k, c, hk, hc, rfl, rfl⟩ | ⟨hid, hl⟩ <;> rcases hS2 id' blk' h2 with ⟨k', c', hk', hc', rfl, rfl⟩ | ⟨hid', hl'⟩
    ·rw [hnm k hk] at h3
     rw [hnm k' hk'] at h4
     rw [hE.inj k k' c c' r1 r2 hc hc' h3 h4 h5]
    ·rw [hnm k hk] at h3
     rw [hιid _ _ hl'] at h4
     obtain ⟨b, sz, m⟩ := r1
     obtain ⟨b', sz', m'⟩ := r2
     simp only at h5
     subst h5
     obtain ⟨q1, q2⟩ := hoa _ _ _ _ _ hid' hl' h4
     rcases (hE.own k c b sz m hc h3).2 with q3 | ⟨q3, _⟩
     ·exact absurd rfl ((hNo b q3).2 _ _ _ hl' h4)
     ·exact absurd q3 q2
    ·rw [hnm k' hk'] at h4
     rw [hιid _ _ hl] at h3
     obtain ⟨b, sz, m⟩ := r1
     obtain ⟨b', sz', m'⟩ := r2
     simp only at h5
     subst h5
     obtain ⟨q1, q2⟩ := hoa _ _ _ _ _ hid hl h3
     rcases (hE.own k' c' b sz' m' hc' h4).2 with q3 | ⟨q3, _⟩
     ·exact absurd rfl ((hNo b q3).2 _ _ _ hl h3)
     ·exact absurd q3 q2
    ·rw [hιid _ _ hl] at h3
     rw [hιid _ _ hl'] at h4
     exact h.inj id id' blk blk' r1 r2 hl hl' h3 h4 h5
   fr := fun t b hf => by
    have hnew : ∀ k c q, bout[k]? = some c → ι' k = some q → q.1 = b → N b ∨ io b := by
     rintro k c ⟨b', sz, m⟩ hc hi rfl
     rcases (hE.own k c b' sz m hc hi).2 with q | ⟨q, _⟩
     ·exact .inl q
     ·exact .inr q
    rcases hf with hf | ⟨rfl, hf, hno⟩ | ⟨rfl, t', h2, hf⟩
    ·refine ⟨Nat.lt_of_lt_of_le (h.fr t b hf).1 hE.hsize, (h.fr t b hf).2.1, fun id blk q hl hi e1 => ?_⟩
     rcases hS2 id blk hl with ⟨k, c, hk, hc, rfl, rfl⟩ | ⟨hid, hl'⟩
     ·rw [hnm k hk] at hi
      rcases hnew k c q hc hi e1 with q1 | q1
      ·exact (hNo b q1).1 t hf
      ·rcases hioOwn b q1 with ⟨id, blk, r, hl, hi, hr⟩ | hn
       ·exact (h.fr t b hf).2.2 id blk r hl hi hr
       ·exact (hNo b hn).1 t hf
     ·rw [hιid id blk hl'] at hi
      exact (h.fr t b hf).2.2 id blk q hl' hi e1
    ·refine ⟨(hE.fr 0 b hf).1, fun hx => (hE.fr 0 b hf).2.1 (hX b hx), fun id blk q hl hi e1 => ?_⟩
     rcases hS2 id blk hl with ⟨k, c, hk, hc, rfl, rfl⟩ | ⟨hid, hl'⟩
     ·rw [hnm k hk] at hi
      exact (hE.fr 0 b hf).2.2 k c q hc hi e1
     ·rw [hιid id blk hl'] at hi
      exact hno ⟨id, hid, blk, q, hl', hi, e1⟩
    ·refine ⟨(hE.fr t' b hf).1, fun hx => (hE.fr t' b hf).2.1 (hX b hx), fun id blk q hl hi e1 => ?_⟩
     rcases hS2 id blk hl with ⟨k, c, hk, hc, rfl, rfl⟩ | ⟨hid, hl'⟩
     ·rw [hnm k hk] at hi
      exact (hE.fr t' b hf).2.2 k c q hc hi e1
     ·rw [hιid id blk hl'] at hi
      exact hnoOld t' b h2 hf ⟨id, hid, blk, q, hl', hi, e1⟩
   frS := fun b hf => by
    rcases hf with hf | ⟨e1, _⟩ | ⟨e1, _⟩
    ·exact h.frS b hf
    ·exact absurd e1 (by decide)
    ·have : q0i = 100 := rfl
     omega
   fr0 := fun t b hf => by
    rcases hf with hf | ⟨rfl, hf, hno⟩ | ⟨rfl, t', h2, hf⟩
    ·exact .inl (h.fr0 t b hf)
    ·exact .inr (.inl ⟨rfl, hf, hno⟩)
    ·exact .inr (.inl ⟨rfl, hE.fr0 t' b hf, hnoOld t' b h2 hf⟩)
   fr2 := fun t b h2 hf => by
    rcases hf with hf | ⟨rfl, _⟩ | ⟨rfl, t', h2', hf⟩
    ·exact h.fr2 t b h2 hf
    ·omega
    ·exact hNn b (hE.fr2 t' b h2' hf)
   fr1 := fun b hf => by
    rcases hf with hf | ⟨e1, _⟩ | ⟨e1, _⟩
    ·exact h.fr1 b hf
    ·exact absurd e1 (by decide)
    ·omega
   cl := fun t b h2 hf => by
    rcases hf with hf | ⟨e1, _⟩ | ⟨_, t', h2', hf⟩
    ·rw [(hFold t b hf).2]; exact h.cl t b h2 hf
    ·omega
    ·exact hE.cl t' b h2' hf
   low := fun id hid => by
    rw [hι2 id (by
     have : ¬ id / 64 = d + 1 := by omega
     simpa using this)]
    exact h.low id hid
   os := hE.os.trans h.os
   tape := hE.tape.trans h.tape
   output := hE.output.trans h.output
   hsize := Nat.le_trans h.hsize hE.hsize
   frame := fun b hlt hno => by
    refine (hE.frame b (Nat.lt_of_lt_of_le hlt h.hsize) fun hb => ?_).trans (h.frame b hlt hno)
    have hnew : ¬ g.New b := fun hq => by
     rcases hq with hq | hq
     ·omega
     ·exact hno (h.mvio b hq)
    rcases hioOwn b hb with ⟨id, blk, ⟨b', sz, m⟩, hl, hi, rfl⟩ | hn
    ·rcases (h.own id blk b' sz m hl hi).2 with q | ⟨q, _⟩
     ·exact hnew q
     ·exact hno q
    ·exact hnew (hNn b hn)
   shape := fun b e he => hE.shape b e (h.shape b e he) }
theorem qGi (S : List (Nat × Blk)) (c : V) : isP (q6Z S c) = true ∧ (q1c (q6Z S c) = none ∨ q1c (q6Z S c) = some 1) := by
 cases c <;> simp only [q6Z] <;> first | exact ⟨rfl, .inl rfl⟩ | exact ⟨rfl, .inr rfl⟩ | skip
 ·split
  ·exact ⟨rfl, .inr rfl⟩
  ·exact ⟨rfl, .inl rfl⟩
 ·split
  ·exact ⟨rfl, .inr rfl⟩
  ·exact ⟨rfl, .inl rfl⟩
theorem qAM (S : List (Nat × Blk)) (c : V) : isP (q5Y S c) = true ∧ (q1c (q5Y S c) = none ∨ q1c (q5Y S c) = some 1) := by
 by_cases hor : ∃ id i off, c = .oref id i off
 ·obtain ⟨id, i, off, rfl⟩ := hor
  simp only [q5Y]
  split
  ·exact ⟨rfl, .inr rfl⟩
  ·split
   ·exact ⟨rfl, .inr rfl⟩
   ·exact ⟨rfl, .inl rfl⟩
  ·exact ⟨rfl, .inl rfl⟩
 ·have : q5Y S c = q6Z S c := by
   cases c <;> first | rfl | exact absurd ⟨_, _, _, rfl⟩ hor
  rw [this]
  exact qGi S c
theorem q0X.ofShape {w : World} {Fr : Nat → Nat → Prop} {ι : q0x} {v : V} {x : Value} (hp : PRep w (Fr 1) v x) (h : isP v = true ∧ (q1c v = none ∨ q1c v = some 1)) : q0X w Fr ι v x := by
 obtain ⟨h1, h2⟩ := h
 rcases h2 with h2 | h2
 ·cases hp with
  | int => exact .atom rfl (.int _ _)
  | bool => exact .atom rfl (.bool _)
  | str => exact .atom rfl (.str _)
  | nil => exact .atom rfl (.nil _)
  | sl0 => exact .atom rfl (.sl0 _ _ _ _)
  | sl => simp [q1c] at h2
  | ptr => simp [q1c] at h2
  | agg => simp [isP] at h1
  | tup => simp [isP] at h1
  | fn => simp [isP] at h1
  | undef => exact .atom rfl (.undef _)
 ·refine .atom h1 ?_
  unfold qQC
  rw [h2]
  exact hp
theorem qKi {w : World} {ι : q0x} {Fr : Nat → Nat → Prop} {A : Nat → Prop} (hA : ∀ t b, Fr t b → A b) {c : V} {x : Value} (hc : q0X w Fr ι c x) : PRep w A (qWD c) x := by
 cases hc with
 | atom hv hp =>
  cases hp with
  | int => exact .int _ _
  | bool => exact .bool _
  | str => exact .str _
  | nil => exact .nil _
  | sl0 => exact .sl0 _ _ _ _
  | sl cv hA' hcap hsz hc hr => exact (PRep.sl cv hA' hcap hsz hc hr).weaken (hA _)
  | ptr cv hA' hc hr => exact (PRep.ptr cv hA' hc hr).weaken (hA _)
  | agg => simp [isP] at hv
  | tup => simp [isP] at hv
  | fn => simp [isP] at hv
  | undef => exact .undef _
 | osl => exact .undef _
 | osl0 => exact .undef _
 | oref => exact .undef _
 | omap => exact .undef _
 | oss => exact .undef _
 | oss0 => exact .undef _
 | agg => exact .undef _
 | tup => exact .undef _
 | fn => exact .undef _
 | cnd => exact .undef _
theorem qN1 {g : G} {s : AS} {a : Act} {w : World} {ι : q0x} {Fr : Nat → Nat → Prop} (h : Rel g s a w ι Fr) {A : Nat → Prop} (hA : ∀ t b, Fr t b → A b)
  (hO : ∀ id blk r, lk s.S id = some blk → ι id = some r → A r.1) {c : V} {x : Value} (hc : q0X w Fr ι c x) : PRep w A (qOu s.S c) x := by
 cases c with
 | fn f cs =>
  cases hc with
  | atom hv _ => simp [isP] at hv
  | fn arr hs hr =>
   refine .fn arr (by rw [List.length_map]; exact hs) fun j hj => ?_
   have hj' : j < cs.length := by simpa using hj
   rw [q2k hj']
   exact qKi hA (hr j hj')
 | _ => exact qAc h hA hO hc
theorem qEZ {g : G} {s : AS} {a : Act} {w : World} {ι : q0x} {Fr : Nat → Nat → Prop} (h : Rel g s a w ι Fr) {A : Nat → Prop} (hA : ∀ t b, Fr t b → A b) {c : V} {x : Value}
  (hO : (∀ id blk r, lk s.S id = some blk → ι id = some r → A r.1) ∨ c.ids = []) (hc : q0X w Fr ι c x) : PRep w A (q5Y s.S c) x := by
 rcases hO with hO | hno
 ·by_cases hor : ∃ id i off, c = .oref id i off
  ·obtain ⟨id, i, off, rfl⟩ := hor
   cases hl : lk s.S id with
   | none => simp only [q5Y, hl]; exact .undef _
   | some blk =>
    cases blk with
    | mp => simp only [q5Y, hl]; exact .undef _
    | arr sz n f te =>
     have := qAc h hA hO hc
     simp only [q6Z, hl] at this
     simp only [q5Y, hl]
     exact this
    | box cs =>
     simp only [q5Y, hl]
     cases i with
     | succ i => exact .undef _
     | zero =>
      cases hc with
      | atom hv _ => simp [isP] at hv
      | @oref _ _ _ b sz m hi him =>
       obtain ⟨cells, e, hh, hsz, hr⟩ := (h.own id _ b sz m hl hi).1
       have e1 : (⟨b, 0 * sz + off, none⟩ : Addr) = ⟨b, 0 + off, none⟩ := by simp
       rw [e1]
       refine .ptr (base := 0) (fun j => cells.getD j Go.undef) (hO id _ _ hl hi) (fun j hj => ?_) (fun j hj => ?_)
       ·rw [Nat.zero_add]; exact q30 hh (by simpa [hsz] using hj)
       ·have hj' : j < cs.length := by simpa using hj
        rw [q2k hj']
        exact qN1 h hA hO (hr j hj')
  ·have : q5Y s.S c = q6Z s.S c := by
    cases c <;> first | rfl | exact absurd ⟨_, _, _, rfl⟩ hor
   rw [this]
   exact qAc h hA hO hc
 ·cases hc with
  | atom hv hp =>
   cases hp with
   | int => exact .int _ _
   | bool => exact .bool _
   | str => exact .str _
   | nil => exact .nil _
   | sl0 => exact .sl0 _ _ _ _
   | sl cv hA' hcap hsz hc hr => exact (PRep.sl cv hA' hcap hsz hc hr).weaken (hA _)
   | ptr cv hA' hc hr => exact (PRep.ptr cv hA' hc hr).weaken (hA _)
   | agg => simp [isP] at hv
   | tup => simp [isP] at hv
   | fn => simp [isP] at hv
   | undef => exact .undef _
  | osl => simp [V.ids] at hno
  | osl0 => simp [V.ids] at hno
  | oref => simp [V.ids] at hno
  | omap => exact .undef _
  | oss => exact .undef _
  | oss0 => exact .undef _
  | agg => exact .undef _
  | tup => exact .undef _
  | fn => exact .undef _
  | cnd => exact .undef _
theorem qE7 {g : G} {s : AS} {a : Act} {w : World} {ι ι' : q0x} {Fr Fr' : Nat → Nat → Prop} (h : Rel g s a w ι Fr) (hA : ∀ t b, Fr t b → Fr' 1 b) {c : V} {x : Value}
  (hO : (∀ id blk r, lk s.S id = some blk → ι id = some r → Fr' 1 r.1) ∨ c.ids = []) (hc : q0X w Fr ι c x) : q0X w Fr' ι' (qH0 s.S c) x := by
 have list : ∀ (cs : List V) (arr : Array Value), ((∀ id blk r, lk s.S id = some blk → ι id = some r → Fr' 1 r.1) ∨ V.idsL cs = []) →
   (∀ j, j < cs.length → q0X w Fr ι (cs.getD j .undef) (arr.getD j Go.undef)) → ∀ j, j < (cs.map (q5Y s.S)).length → q0X w Fr' ι' ((cs.map (q5Y s.S)).getD j .undef) (arr.getD j Go.undef) := by
  intro cs arr hO hr j hj
  have hj' : j < cs.length := by simpa using hj
  rw [q2k hj']
  refine .ofShape (qEZ h hA ?_ (hr j hj')) (qAM _ _)
  rcases hO with hO | hO
  ·exact .inl hO
  ·right
   have := fun id hid => q2c hj' id hid
   rw [hO] at this
   exact List.eq_nil_iff_forall_not_mem.2 fun id hid => by have := this id hid; cases this
 by_cases hag : ∃ cs, c = .agg cs
 ·obtain ⟨cs, rfl⟩ := hag
  obtain ⟨arr, rfl, hs, hr⟩ := q8a hc
  exact .agg arr (by simpa using hs) (list cs arr hO hr)
 ·by_cases hfn : ∃ f cs, c = .fn f cs
  ·obtain ⟨f, cs, rfl⟩ := hfn
   cases hc with
   | atom hv _ => simp [isP] at hv
   | fn arr hs hr => exact .fn arr (by simpa using hs) (list cs arr hO hr)
  ·have : qH0 s.S c = q5Y s.S c := by
    cases c <;> first | rfl | exact absurd ⟨_, rfl⟩ hag | exact absurd ⟨_, _, rfl⟩ hfn
   rw [this]
   exact .ofShape (qEZ h hA hO hc) (qAM _ _)
theorem qNA {P : Program} {a : Act} {w : World} {o : Oper} {c : Call} {f : Operand} {n : Nat} {capsv : Array Value} (hop : o.op = .call c) (hcal : c.callee = .value f) (hf : a.eval f = .func (.func n) #[] capsv)
  (he : ∀ vals w, (callFunc n vals).run P w = .ok (.enter n vals) w) : (execOp a.eval o).run P w = .ok (.enter n (c.args.map a.eval ++ capsv)) w := by
 unfold execOp
 rw [hop]
 simp only [resolve, hcal, Deferred.ofValue, hf, Sem.run_bind, Sem.run_pure, Result.andThen_ok, invoke, Array.empty_append]
 exact he _ _
theorem q9y {P : Program} {a : Act} {w : World} {o : Oper} {c : Call} {f : Operand} {n : Nat} {capsv : Array Value} {R : Ending → World → Prop} {next : Act → World → Prop} {Q : Exit → Act → World → Prop}
  (hop : o.op = .call c) (hcal : c.callee = .value f) (hf : a.eval f = .func (.func n) #[] capsv)
  (h : qFz P n (c.args.map a.eval ++ capsv) w R) (hR : ∀ e w', R e w' → ∃ v, e = .returned v ∧ next (a.put o.dst v) w') : o.wp P a w next Q := by
 have hx : (execOp a.eval o).run P w = (callFunc n (c.args.map a.eval ++ capsv)).run P w := by
  unfold execOp
  rw [hop]
  simp only [resolve, hcal, Deferred.ofValue, hf, Sem.run_bind, Sem.run_pure, Result.andThen_ok, invoke, Array.empty_append]
 unfold Oper.wp
 rw [hx]
 rcases h with ⟨he, hc⟩ | ⟨v, he, hr⟩
 ·rw [he]
  simp only [Oper.upon]
  refine hc.mono ?_
  intro e w' h
  obtain ⟨v, rfl, hn⟩ := hR e w' h
  exact hn
 ·rw [he]
  simp only [Oper.upon]
  obtain ⟨v', hv, hn⟩ := hR _ _ hr
  cases hv
  exact hn
theorem qDj {g : G} {s : AS} {a : Act} {w : World} {ι : q0x} {Fr : Nat → Nat → Prop} {o : Oper} {e : Ef} {x : Value} (hd : q39 g.nt o = true) (h : Rel g { s with S := q0Q s.S e.upd } a w ι Fr) (hv : q0X w Fr ι e.v x) :
  Rel g (s.app o.dst e) (a.put o.dst x) w ι Fr := by
 unfold AS.app
 cases hdst : o.dst with
 | none => exact h
 | some d =>
  have hlt : d < g.nt := by
   unfold q39 at hd
   rw [hdst] at hd
   exact Nat.le_of_ble_eq_true hd
  exact h.put hlt hv
theorem qE3 {S : List (Nat × Blk)} : ∀ {ids : List Nat} {bs : List Blk}, qP4 S ids = some bs → bs.length = ids.length ∧ ∀ j, j < ids.length → lk S (ids.getD j 0) = bs[j]?
 | [], bs, h => by simp only [qP4, Option.some.injEq] at h; subst h; simp
 | id :: r, bs, h => by
  simp only [qP4] at h
  split at h
  ·rename_i b l hb hl
   simp only [Option.some.injEq] at h
   subst h
   obtain ⟨h1, h2⟩ := qE3 hl
   refine ⟨by simp [h1], fun j hj => ?_⟩
   cases j with
   | zero => simpa using hb
   | succ j => simpa using h2 j (by simpa using hj)
  ·simp at h
theorem q4r : ∀ {l : List V} {v : V}, v ∈ l → ∀ {id : Nat}, id ∈ v.ids → id ∈ V.idsL l
 | [], _, h, _, _ => by simp at h
 | c :: r, v, h, id, hid => by
  simp only [V.idsL, List.mem_append]
  rcases List.mem_cons.1 h with rfl | h
  ·exact .inl hid
  ·exact .inr (q4r h hid)
theorem qNo {g : G} {s : AS} {a : Act} {w : World} {ι : q0x} {Fr : Nat → Nat → Prop} (h : Rel g s a w ι Fr) {ids : List Nat} (hnd : ids.Nodup) {bin : List Blk} (hbl : bin.length = ids.length)
  (hbj : ∀ j, j < ids.length → lk s.S (ids.getD j 0) = bin[j]?) (hlk : ∀ id ∈ ids, ∃ blk, lk s.S id = some blk) (hfew : ids.length < 64) (hc3 : ∀ b ∈ bin, ∀ k ∈ b.ids, mem k ids = true) :
  ∃ FrIn, Ent w (fun b => g.X0 b ∨ ∃ id blk q, id ∉ ids ∧ lk s.S id = some blk ∧ ι id = some q ∧ q.1 = b) (fun b => ∃ id ∈ ids, ∃ r, ι id = some r ∧ r.1 = b) (bin.map fun b => (b.ren fun id => q7r id ids).down) (fun k => ι (ids.getD k 0)) FrIn ∧
   ∀ (u : V) (x : Value), (∀ id ∈ u.ids, id ∈ ids) → q0X w Fr ι u x → q0X w FrIn (fun k => ι (ids.getD k 0)) ((u.ren fun id => q7r id ids).tag fun _ => 1) x := by
 let io : Nat → Prop := fun b => ∃ id ∈ ids, ∃ r, ι id = some r ∧ r.1 = b
 let X0c : Nat → Prop := fun b => g.X0 b ∨ ∃ id blk q, id ∉ ids ∧ lk s.S id = some blk ∧ ι id = some q ∧ q.1 = b
 let ιc : q0x := fun k => ι (ids.getD k 0)
 let FrIn : Nat → Nat → Prop := fun t b => (t = 0 ∨ t = 1) ∧ b < w.heap.size ∧ ¬ X0c b ∧ ¬ io b
 have hownlt : ∀ id blk q, lk s.S id = some blk → ι id = some q → q.1 < w.heap.size := fun id blk q hl hi => (h.own id blk q.1 q.2.1 q.2.2 hl hi).1.lt
 have hFin : ∀ t b, Fr t b → (¬ X0c b ∧ ¬ io b) := by
  intro t b hf
  constructor
  ·rintro (hx | ⟨id, blk, q, _, hl, hi, e1⟩)
   ·exact (h.fr t b hf).2.1 hx
   ·exact (h.fr t b hf).2.2 id blk q hl hi e1
  ·rintro ⟨id, hid, r, hr, e1⟩
   obtain ⟨blk, hl⟩ := hlk id hid
   exact (h.fr t b hf).2.2 id blk r hl hr e1
 have hF1 : ∀ t b, Fr t b → FrIn 1 b := fun t b hf => ⟨.inr rfl, (h.fr t b hf).1, hFin t b hf⟩
 have hinn : ∀ id ∈ ids, ιc (q7r id ids) = ι id := by
  intro id hid
  obtain ⟨j, hj, rfl⟩ := q8O hid
  rw [q2x hnd hj]
 have hconv : ∀ (u : V) (x : Value), (∀ id ∈ u.ids, id ∈ ids) → q0X w Fr ι u x → q0X w FrIn ιc ((u.ren fun id => q7r id ids).tag fun _ => 1) x := by
  intro u x hu hr
  have h1 : q0X w (fun t b => t ≠ q0i ∧ Fr t b) ι u x := hr.world (fun t b hf => ⟨⟨fun e => h.frS b (e ▸ hf), hf⟩, rfl⟩) (fun _ _ hs => hs)
  exact h1.renTag (fun id hid => hinn id (hu id hid)) (fun t b hf => ⟨hF1 t b hf.2, rfl⟩) (fun b hf => hf.1 rfl) (fun _ _ hs => hs)
 have hbk : ∀ k blk, (bin.map fun b => (b.ren fun id => q7r id ids).down)[k]? = some blk → ∃ c, bin[k]? = some c ∧ k < ids.length ∧ lk s.S (ids.getD k 0) = some c ∧ blk = (c.ren fun id => q7r id ids).down := by
  intro k blk hb
  rw [List.getElem?_map] at hb
  cases hc : bin[k]? with
  | none => rw [hc] at hb; simp at hb
  | some c =>
   rw [hc] at hb
   simp only [Option.map_some, Option.some.injEq] at hb
   have hk : k < ids.length := by rw [← hbl]; exact (List.getElem?_eq_some_iff.1 hc).1
   exact ⟨c, rfl, hk, by rw [hbj k hk, hc], hb.symm⟩
 have hkm : ∀ k, k < ids.length → ids.getD k 0 ∈ ids := by
  intro k hk
  have : ids.getD k 0 = ids[k] := by simp [List.getD, hk]
  rw [this]; exact List.getElem_mem hk
 have hEnt : Ent w X0c io (bin.map fun b => (b.ren fun id => q7r id ids).down) ιc FrIn :=
  {own := fun k blk b sz m hb hi => by
    obtain ⟨c, hc, hk, hl, rfl⟩ := hbk k blk hb
    obtain ⟨q1, _⟩ := h.own _ c b sz m hl hi
    refine ⟨?_, _, hkm k hk, _, hi, rfl⟩
    cases c with
    | mp => exact q1
    | arr sz' n f te =>
     obtain ⟨e1, e2, cells, el, e3, e4, e5, e6⟩ := q1
     refine ⟨e1, e2, cells, el, e3, e4, e5, fun i j hi' hj => (e6 i j hi' hj).weaken fun b' hb' => ?_⟩
     have hS2 : te ≠ q0i := fun e => h.frS b' (e ▸ hb')
     unfold qGX
     rw [q0z.2 hS2]
     exact hF1 te b' hb'
    | box cs =>
     obtain ⟨cells, el, e3, e4, e6⟩ := q1
     refine ⟨cells, el, e3, by rw [q1H, q0n]; exact e4, fun j hj => ?_⟩
     rw [q1H, q0n] at hj
     rw [q3g _ _ _ (by rw [q0n]; exact hj), q36 _ _ _ hj]
     refine hconv _ _ (fun id hid => ?_) (e6 j hj)
     have hq := hc3 _ (List.mem_of_getElem? hc) id (q2c hj id hid)
     exact q4n.1 hq
   nob := fun k blk hb hi => by
    obtain ⟨c, hc, hk, hl, rfl⟩ := hbk k blk hb
    obtain ⟨sz, f, te, rfl⟩ := h.nob _ c hl hi
    exact ⟨sz, f, _, rfl⟩
   inj := fun k k' blk blk' r r' hb hb' hi hi' e1 => by
    obtain ⟨c, hc, hk, hl, rfl⟩ := hbk k blk hb
    obtain ⟨c', hc', hk', hl', rfl⟩ := hbk k' blk' hb'
    have := h.inj _ _ c c' r r' hl hl' hi hi' e1
    have e2 := q2x hnd hk
    rw [this, q2x hnd hk'] at e2
    exact e2.symm
   fr := fun t b hf => ⟨hf.2.1, hf.2.2.1, fun k blk r hb hi e1 => by
    obtain ⟨c, hc, hk, hl, rfl⟩ := hbk k blk hb
    exact hf.2.2.2 ⟨_, hkm k hk, r, hi, e1⟩⟩
   frS := fun b hf => by rcases hf.1 with e | e <;> exact absurd e (by decide)
   fr0 := fun t b hf => ⟨.inl rfl, hf.2⟩
   fr2 := fun t b h2 hf => by rcases hf.1 with e | e <;> omega
   x0 := fun b hx => by
    rcases hx with hx | ⟨id, blk, q, hid, hl, hi, rfl⟩
    ·refine ⟨Nat.lt_of_lt_of_le (h.x0 b hx).1 h.hsize, ?_⟩
     rintro ⟨id, hid, r, hr, rfl⟩
     obtain ⟨blk, hl⟩ := hlk id hid
     obtain ⟨q1, q2⟩ := h.x0 _ hx
     rcases (h.own id blk r.1 r.2.1 r.2.2 hl hr).2 with q3 | ⟨q3, _⟩
     ·exact h.newX q3 hx
     ·exact q2 q3
    ·refine ⟨hownlt id blk q hl hi, ?_⟩
     rintro ⟨id', hid', r', hr', e1⟩
     obtain ⟨blk', hl'⟩ := hlk id' hid'
     have := h.inj id' id blk' blk r' q hl' hl hr' hi e1
     exact hid (this ▸ hid')
   io0 := fun b hb => by
    obtain ⟨id, hid, r, hr, rfl⟩ := hb
    obtain ⟨blk, hl⟩ := hlk id hid
    exact hownlt id blk r hl hr
   few := by rw [List.length_map, hbl]; omega }
 exact ⟨FrIn, hEnt, hconv⟩
theorem q7H {S S' : List (Nat × Blk)} {v : V} (h : ∀ id ∈ v.ids, lk S' id = lk S id) : q6Z S' v = q6Z S v := by
 cases v with
 | osl id n => simp only [q6Z]; rw [h id (by simp [V.ids])]
 | oref id i off => simp only [q6Z]; rw [h id (by simp [V.ids])]
 | _ => rfl
theorem qGr {S S' : List (Nat × Blk)} {v : V} (h : ∀ id ∈ v.ids, lk S' id = lk S id) : qOu S' v = qOu S v := by
 cases v with
 | fn f cs => rfl
 | osl id n => exact q7H h
 | oref id i off => exact q7H h
 | _ => rfl
theorem q5v {S S' : List (Nat × Blk)} {v : V} (h : ∀ id ∈ v.ids, lk S' id = lk S id) (h2 : ∀ id ∈ v.ids, ∀ b, lk S id = some b → ∀ k ∈ b.ids, lk S' k = lk S k) : q5Y S' v = q5Y S v := by
 cases v with
 | osl id n => exact q7H h
 | oref id i off =>
  simp only [q5Y]
  rw [h id (by simp [V.ids])]
  cases hl : lk S id with
  | none => rfl
  | some b =>
   cases b with
   | mp => rfl
   | arr => rfl
   | box cs =>
    have hb := h2 id (by simp [V.ids]) _ hl
    simp only []
    rw [List.map_congr_left fun c hc => qGr fun k hk => hb k (q4r hc hk)]
 | _ => rfl
theorem q9F {S S' : List (Nat × Blk)} {v : V} (h : ∀ id ∈ v.ids, lk S' id = lk S id) (h2 : ∀ id ∈ v.ids, ∀ b, lk S id = some b → ∀ k ∈ b.ids, lk S' k = lk S k) : qH0 S' v = qH0 S v := by
 cases v with
 | agg cs => simp only [qH0]; rw [List.map_congr_left fun c hc => q5v (fun k hk => h k (q4r hc hk)) fun k hk => h2 k (q4r hc hk)]
 | fn f cs => simp only [qH0]; rw [List.map_congr_left fun c hc => q5v (fun k hk => h k (q4r hc hk)) fun k hk => h2 k (q4r hc hk)]
 | osl id n => exact q5v h h2
 | oref id i off => exact q5v h h2
 | _ => rfl
theorem qHT {K : List Nat} : ∀ (S : List (Nat × Blk)) (k : Nat), lk (S.filter fun p => mem p.1 K) k = match mem k K with | true => lk S k | false => none
 | [], k => by cases h : mem k K <;> simp [lk]
 | (j, b) :: r, k => by
  have ih := qHT (K := K) r k
  cases hj : mem j K with
  | true =>
   simp only [List.filter_cons, hj, if_true, lk]
   cases hjk : Nat.beq j k with
   | true =>
    have e := q0j.1 hjk
    subst e
    rw [hj]
   | false => exact ih
  | false =>
   simp only [List.filter_cons, hj, Bool.false_eq_true, if_false, lk]
   cases hjk : Nat.beq j k with
   | true =>
    have e := q0j.1 hjk
    subst e
    rw [hj] at ih ⊢
    exact ih
   | false => exact ih
theorem qNS {P : Program} {cx : Cx} (hD : q0D P cx.D) {g : G} {s : AS} {a : Act} {w : World} {ι : q0x} {Fr : Nat → Nat → Prop} (h : Rel g s a w ι Fr) {o : Oper} {c : Call} {f : Operand} {n d : Nat} {caps : List V}
  (hop : o.op = .call c) (hcal : c.callee = .value f) (hfv : q0v (q1T s f) = .fn n caps) (hf : q0X w Fr ι (q0v (q1T s f)) (a.eval f)) (hx : ∀ x ∈ c.args.toList, q0X w Fr ι (q0v (q1T s x)) (a.eval x))
  (hd : q39 g.nt o = true) (hfresh : ∀ id, id / 64 = d + 1 → q0l s id) {e : Ef} (he : qJY cx s.S d n (c.args.toList.map (fun x => q0v (q1T s x)) ++ caps) = some e) (ho : ∀ p ∈ e.ob, p) :
  q6v P g (s.app o.dst e) a w o := by
 rw [hfv] at hf
 obtain ⟨capsv, hcv, hcs, hcr⟩ : ∃ capsv : Array Value, a.eval f = .func (.func n) #[] capsv ∧ capsv.size = caps.length ∧ ∀ j, j < caps.length → q0X w Fr ι (caps.getD j .undef) (capsv.getD j Go.undef) := by
  cases hfe : a.eval f with
  | func fn first cap =>
   rw [hfe] at hf
   cases hf with
   | atom hv _ => simp [isP] at hv
   | fn _ hs hr => exact ⟨cap, rfl, hs, hr⟩
  | _ => rw [hfe] at hf; cases hf with | atom hv _ => simp [isP] at hv
 generalize havs : c.args.toList.map (fun x => q0v (q1T s x)) ++ caps = avs at he
 have hvr : (c.args.map a.eval ++ capsv).size = avs.length ∧ ∀ j, j < avs.length → q0X w Fr ι (avs.getD j .undef) ((c.args.map a.eval ++ capsv).getD j Go.undef) := by
  refine ⟨by rw [← havs]; simp [hcs], fun j hj => ?_⟩
  rw [← havs] at hj ⊢
  by_cases h1 : j < c.args.size
  ·have hmem : c.args[j] ∈ c.args.toList := by simp
   have e1 : (c.args.toList.map (fun x => q0v (q1T s x)) ++ caps).getD j .undef = q0v (q1T s c.args[j]) := by
    simp [List.getD, List.getElem?_append, h1]
   have e2 : (c.args.map a.eval ++ capsv).getD j Go.undef = a.eval c.args[j] := by
    simp [Array.getElem?_append, h1]
   rw [e1, e2]; exact hx _ hmem
  ·have hj' : j - c.args.size < caps.length := by simp at hj; omega
   have e1 : (c.args.toList.map (fun x => q0v (q1T s x)) ++ caps).getD j .undef = caps.getD (j - c.args.size) .undef := by
    simp [List.getD, List.getElem?_append, h1]
   have e2 : (c.args.map a.eval ++ capsv).getD j Go.undef = capsv.getD (j - c.args.size) Go.undef := by
    simp [Array.getElem?_append, h1]
   rw [e1, e2]; exact hcr _ hj'
 have hids : ∀ j, j < avs.length → ∀ id ∈ (avs.getD j .undef).ids, id ∈ V.idsL avs := fun j hj id hid => q2c hj id hid
 unfold qJY at he
 split at he
 ·
  rename_i D hDf
  have hS : q0T P n D := hD n .ro D hDf
  split at he
  case h_2 => simp at he
  case h_1 ob r bs hDe =>
   split at he
   case h_3 => simp at he
   case h_1 hc1 hc2 hc3 =>
    simp only [Option.some.injEq] at he
    subst he
    have hob := ho ob (List.mem_singleton.2 rfl)
    simp only [Bool.and_eq_true, Bool.or_eq_true, List.isEmpty_iff, List.all_eq_true] at hc1 hc2
    have hfew : bs.length < 63 := Nat.le_of_ble_eq_true hc3
    let lent : Prop := V.idsL avs ≠ []
    let X0c : Nat → Prop := fun b => g.X0 b ∨ (¬ lent ∧ ∃ id blk q, lk s.S id = some blk ∧ ι id = some q ∧ q.1 = b)
    let FrIn : Nat → Nat → Prop := fun t b => (t = 0 ∨ t = 1) ∧ b < w.heap.size ∧ ¬ X0c b
    have hownlt : ∀ id blk q, lk s.S id = some blk → ι id = some q → q.1 < w.heap.size := fun id blk q hl hi => (h.own id blk q.1 q.2.1 q.2.2 hl hi).1.lt
    have hEnt : Ent w X0c (fun _ => False) [] (fun _ => none) FrIn :=
     {own := fun id blk b sz m hb => by simp at hb
      nob := fun id blk hb => by simp at hb
      inj := fun id id' blk blk' r r' hb => by simp at hb
      fr := fun t b hf => ⟨hf.2.1, hf.2.2, fun id blk r hb => by simp at hb⟩
      frS := fun b hf => by rcases hf.1 with e | e <;> exact absurd e (by decide)
      fr0 := fun t b hf => ⟨.inl rfl, hf.2⟩
      fr2 := fun t b h2 hf => by rcases hf.1 with e | e <;> omega
      x0 := fun b hx => ⟨by
       rcases hx with hx | ⟨_, id, blk, q, hl, hi, rfl⟩
       ·exact Nat.lt_of_lt_of_le (h.x0 b hx).1 h.hsize
       ·exact hownlt id blk q hl hi, id⟩
      io0 := fun b hb => hb.elim
      few := by simp }
    have hargs := hS.does _ _ ob r bs hDe hob (c.args.map a.eval ++ capsv) w X0c (fun _ => False) (fun _ => none) FrIn hEnt (by simpa using hvr.1) (fun j hj => by
     have hj' : j < avs.length := by simpa using hj
     rw [q2k hj']
     refine qE7 h (fun t b hf => ⟨.inr rfl, (h.fr t b hf).1, ?_⟩) ?_ (hvr.2 j hj')
     rotate_left
     ·rintro (hx | ⟨_, id, blk, q, hl, hi, e1⟩)
      ·exact (h.fr t b hf).2.1 hx
      ·exact (h.fr t b hf).2.2 id blk q hl hi e1
     ·by_cases hlent : lent
      ·left
       intro id blk q hl hi
       refine ⟨.inr rfl, hownlt id blk q hl hi, ?_⟩
       rintro (hx | ⟨hn, _⟩)
       ·obtain ⟨q1, q2⟩ := h.x0 _ hx
        rcases (h.own id blk q.1 q.2.1 q.2.2 hl hi).2 with q3 | ⟨q3, _⟩
        ·exact h.newX q3 hx
        ·exact q2 q3
       ·exact hn hlent
      ·right
       have hnil : V.idsL avs = [] := by simpa [lent] using hlent
       have := hids j hj'
       rw [hnil] at this
       exact List.eq_nil_iff_forall_not_mem.2 fun id hid => by have := this id hid; cases this)
    intro next Q hn
    refine q9y hop hcal hcv hargs ?_
    rintro e' w' ⟨v, ι', Fr', rfl, hrv, hE⟩
    refine ⟨v, rfl, ?_⟩
    have hmain := q6r h hfresh (ids := []) List.nodup_nil (fun id hid => by cases hid) hE (fun b hb => .inl (Nat.le_trans h.hsize hb))
     (fun b hb => ⟨fun t hf => by have := (h.fr t b hf).1; omega, fun id blk q hl hi e => by have := hownlt id blk q hl hi; omega⟩) (fun j hj => by simp at hj) (fun b hb => hb.elim) (fun b hx => .inl hx) (by simp) hfew hrv
     (fun k hk => q3c hc2.1 k hk) (fun b hb k hk => q3c (hc2.2 b hb) k hk) (by
      by_cases hlent : lent
      ·right
       rcases hc1 with hc1 | hc1
       ·exact absurd hc1 hlent
       ·exact ⟨hc1.1, hc1.2⟩
      ·left
       exact fun id blk q _ hl hi => .inr ⟨hlent, id, blk, q, hl, hi, rfl⟩)
    obtain ⟨ι2, Fr2, hR, hV⟩ := hmain
    exact hn _ _ ι2 Fr2 (qDj hd hR hV)
   case h_2 hc1 hc2 hc3 =>
    simp only [Option.some.injEq] at he
    subst he
    have hob := ho ob (List.mem_singleton.2 rfl)
    simp only [Bool.and_eq_true, List.all_eq_true] at hc2
    have hfew : bs.length < 63 := Nat.le_of_ble_eq_true hc3
    generalize hKE : q2N s.S avs = K
    have hKS : ∀ k blk, lk (q0Q s.S (K.map fun id => (id, none))) k = some blk → k ∉ K ∧ lk s.S k = some blk := by
     intro k blk hk
     rw [q1v] at hk
     by_cases e : k ∈ K
     ·simp [e] at hk
     ·simp only [e, if_false] at hk; exact ⟨e, hk⟩
    have hLS : ∀ k, k ∈ K → lk (s.S.filter fun p => mem p.1 K) k = lk s.S k := by
     intro k hk
     rw [qHT, q4n.2 hk]
    have hLS2 : ∀ k blk, lk (s.S.filter fun p => mem p.1 K) k = some blk → k ∈ K ∧ lk s.S k = some blk := by
     intro k blk hk
     rw [qHT] at hk
     cases e : mem k K with
     | true => rw [e] at hk; exact ⟨q4n.1 e, hk⟩
     | false => rw [e] at hk; simp at hk
    have h' : Rel g { s with S := q0Q s.S (K.map fun id => (id, none)) } a w ι Fr := h.less (fun _ _ hq => hq) fun k blk hk => (hKS k blk hk).2
    have hL : Rel g { s with S := s.S.filter fun p => mem p.1 K } a w ι Fr := h.less (fun _ _ hq => hq) fun k blk hk => (hLS2 k blk hk).2
    have hfresh' : ∀ id, id / 64 = d + 1 → q0l { s with S := q0Q s.S (K.map fun id => (id, none)) } id := fun id hid =>
     {ge := (hfresh id hid).ge
      no := by
       show lk (q0Q s.S (K.map fun id => (id, none))) id = none
       rw [q1v, (hfresh id hid).no]
       simp
      T := (hfresh id hid).T
      S := fun k blk hk => (hfresh id hid).S k blk (hKS k blk hk).2 }
    let X0c : Nat → Prop := fun b => g.X0 b ∨ ∃ id blk q, lk (q0Q s.S (K.map fun id => (id, none))) id = some blk ∧ ι id = some q ∧ q.1 = b
    let FrIn : Nat → Nat → Prop := fun t b => (t = 0 ∨ t = 1) ∧ b < w.heap.size ∧ ¬ X0c b
    have hownlt : ∀ id blk q, lk s.S id = some blk → ι id = some q → q.1 < w.heap.size := fun id blk q hl hi => (h.own id blk q.1 q.2.1 q.2.2 hl hi).1.lt
    have hEnt : Ent w X0c (fun _ => False) [] (fun _ => none) FrIn :=
     {own := fun id blk b sz m hb => by simp at hb
      nob := fun id blk hb => by simp at hb
      inj := fun id id' blk blk' r r' hb => by simp at hb
      fr := fun t b hf => ⟨hf.2.1, hf.2.2, fun id blk r hb => by simp at hb⟩
      frS := fun b hf => by rcases hf.1 with e | e <;> exact absurd e (by decide)
      fr0 := fun t b hf => ⟨.inl rfl, hf.2⟩
      fr2 := fun t b h2 hf => by rcases hf.1 with e | e <;> omega
      x0 := fun b hx => ⟨by
       rcases hx with hx | ⟨id, blk, q, hl, hi, rfl⟩
       ·exact Nat.lt_of_lt_of_le (h.x0 b hx).1 h.hsize
       ·exact hownlt id blk q (hKS id blk hl).2 hi, id⟩
      io0 := fun b hb => hb.elim
      few := by simp }
    have hargs := hS.does _ _ ob r bs hDe hob (c.args.map a.eval ++ capsv) w X0c (fun _ => False) (fun _ => none) FrIn hEnt (by simpa using hvr.1) (fun j hj => by
     have hj' : j < avs.length := by simpa using hj
     rw [q2k hj']
     have hin := hids j hj'
     have e1 : qH0 s.S (avs.getD j .undef) = qH0 (s.S.filter fun p => mem p.1 K) (avs.getD j .undef) := by
      refine q9F (fun k hk => ?_) fun k hk b hb k2 hk2 => ?_
      ·exact (hLS k (by rw [← hKE]; unfold q2N; exact List.mem_append.2 (.inl (hin k hk)))).symm
      ·refine (hLS k2 ?_).symm
       rw [hLS k (by rw [← hKE]; unfold q2N; exact List.mem_append.2 (.inl (hin k hk)))] at hb
       rw [← hKE]
       unfold q2N
       refine List.mem_append.2 (.inr (List.mem_flatMap.2 ⟨k, hin k hk, ?_⟩))
       rw [hb]
       exact hk2
     rw [e1]
     refine qE7 hL (fun t b hf => ⟨.inr rfl, (h.fr t b hf).1, ?_⟩) (.inl fun id blk q hl hi => ?_) (hvr.2 j hj')
     rotate_left
     ·rintro (hx | ⟨id, blk, q, hl, hi, e1⟩)
      ·exact (h.fr t b hf).2.1 hx
      ·exact (h.fr t b hf).2.2 id blk q (hKS id blk hl).2 hi e1
     ·obtain ⟨hk, hl0⟩ := hLS2 id blk hl
      refine ⟨.inr rfl, hownlt id blk q hl0 hi, ?_⟩
      rintro (hx | ⟨id2, blk2, q2, hl2, hi2, e2⟩)
      ·obtain ⟨q1, q2⟩ := h.x0 _ hx
       rcases (h.own id blk q.1 q.2.1 q.2.2 hl0 hi).2 with q3 | ⟨q3, _⟩
       ·exact h.newX q3 hx
       ·exact q2 q3
      ·obtain ⟨hn2, hl3⟩ := hKS id2 blk2 hl2
       exact hn2 (h.inj id2 id blk2 blk q2 q hl3 hl0 hi2 hi e2 ▸ hk))
    intro next Q hn
    refine q9y hop hcal hcv hargs ?_
    rintro e' w' ⟨v, ι', Fr', rfl, hrv, hE⟩
    refine ⟨v, rfl, ?_⟩
    have hmain := q6r h' hfresh' (ids := []) List.nodup_nil (fun id hid => by cases hid) hE (fun b hb => .inl (Nat.le_trans h.hsize hb))
     (fun b hb => ⟨fun t hf => by have := (h.fr t b hf).1; omega, fun id blk q hl hi e => by have := hownlt id blk q (hKS id blk hl).2 hi; omega⟩) (fun j hj => by simp at hj) (fun b hb => hb.elim) (fun b hx => .inl hx) (by simp) hfew hrv
     (fun k hk => q3c hc2.1 k hk) (fun b hb k hk => q3c (hc2.2 b hb) k hk) (.inl fun id blk q _ hl hi => .inr ⟨id, blk, q, hl, hi, rfl⟩)
    obtain ⟨ι2, Fr2, hR, hV⟩ := hmain
    refine hn _ _ ι2 Fr2 (qDj hd ?_ hV)
    rw [q2v]
    exact hR
 ·
  rename_i D hDf
  have hS : q6N P n D := hD n .mv D hDf
  simp only at he
  generalize hidsE : q63 (V.idsL (avs.filter qD2)) = ids at he
  obtain ⟨hnd, hmem⟩ := q7T (V.idsL (avs.filter qD2))
  rw [hidsE] at hnd hmem
  split at he
  case h_2 => simp at he
  case h_1 bin hbin =>
   obtain ⟨hbl, hbj⟩ := qE3 hbin
   split at he
   case h_2 => simp at he
   case h_1 ob r bs hDe =>
    split at he
    case h_2 => simp at he
    case h_1 hc1 hc2 hc3 =>
     simp only [Option.some.injEq] at he
     subst he
     have hob := ho ob (List.mem_singleton.2 rfl)
     simp only [Bool.and_eq_true, List.all_eq_true] at hc1 hc2 hc3
     have hfew : bs.length < 63 := Nat.le_of_ble_eq_true hc1.1
     have h64 : ∀ id ∈ ids, 64 ≤ id := q8G hc1.2.2
     have hf64 : ids.length < 63 := Nat.le_of_ble_eq_true hc1.2.1
     have hlk : ∀ id ∈ ids, ∃ blk, lk s.S id = some blk := by
      intro id hid
      obtain ⟨j, hj, rfl⟩ := q8O hid
      have := hbj j hj
      rw [List.getElem?_eq_getElem (by omega)] at this
      exact ⟨_, this⟩
     have hKS : ∀ k blk, lk (q0Q s.S (ids.map fun id => (id, none))) k = some blk → k ∉ ids ∧ lk s.S k = some blk := by
      intro k blk hk
      rw [q1v] at hk
      by_cases e : k ∈ ids
      ·simp [e] at hk
      ·simp only [e, if_false] at hk; exact ⟨e, hk⟩
     have h' : Rel g { s with S := q0Q s.S (ids.map fun id => (id, none)) } a w ι Fr := h.less (fun _ _ hq => hq) fun k blk hk => (hKS k blk hk).2
     have hfresh' : ∀ id, id / 64 = d + 1 → q0l { s with S := q0Q s.S (ids.map fun id => (id, none)) } id := fun id hid =>
      {ge := (hfresh id hid).ge
       no := by
        show lk (q0Q s.S (ids.map fun id => (id, none))) id = none
        rw [q1v, (hfresh id hid).no]
        simp
       T := (hfresh id hid).T
       S := fun k blk hk => (hfresh id hid).S k blk (hKS k blk hk).2 }
     have hion : ∀ b, (∃ id ∈ ids, ∃ r, ι id = some r ∧ r.1 = b) → g.New b ∧ (∀ t, ¬ Fr t b) ∧ ∀ id blk q, id ∉ ids → lk s.S id = some blk → ι id = some q → q.1 ≠ b := by
      rintro b ⟨id, hid, ⟨b', sz, m⟩, hi, rfl⟩
      obtain ⟨blk, hl⟩ := hlk id hid
      refine ⟨?_, fun t hf => (h.fr t _ hf).2.2 id blk _ hl hi rfl, fun id2 blk2 q hn hl2 hi2 e => ?_⟩
      ·rcases (h.own id blk b' sz m hl hi).2 with q | ⟨_, q⟩
       ·exact q
       ·have := h64 id hid; omega
      ·have := h.inj id2 id blk2 blk q _ hl2 hl hi2 hi e
       exact hn (this ▸ hid)
     let io : Nat → Prop := fun b => ∃ id ∈ ids, ∃ r, ι id = some r ∧ r.1 = b
     let FrIn : Nat → Nat → Prop := fun t b => (t = 0 ∨ t = 1) ∧ b < w.heap.size ∧ ¬ g.X0 b ∧ ¬ io b
     have hownlt : ∀ id blk q, lk s.S id = some blk → ι id = some q → q.1 < w.heap.size := fun id blk q hl hi => (h.own id blk q.1 q.2.1 q.2.2 hl hi).1.lt
     have hF1 : ∀ t b, Fr t b → FrIn 1 b := fun t b hf => ⟨.inr rfl, (h.fr t b hf).1, (h.fr t b hf).2.1, fun hq => (hion b hq).2.1 t hf⟩
     have hinn : ∀ id ∈ ids, ι (ids.getD (q7r id ids) 0) = ι id := by
      intro id hid
      obtain ⟨j, hj, rfl⟩ := q8O hid
      rw [q2x hnd hj]
     have hkm : ∀ k, k < ids.length → ids.getD k 0 ∈ ids := by
      intro k hk
      have : ids.getD k 0 = ids[k] := by simp [List.getD, hk]
      rw [this]; exact List.getElem_mem hk
     have hbk : ∀ k blk, (bin.map Blk.down)[k]? = some blk → ∃ c, bin[k]? = some c ∧ k < ids.length ∧ lk s.S (ids.getD k 0) = some c ∧ blk = c.down := by
      intro k blk hb
      rw [List.getElem?_map] at hb
      cases hc : bin[k]? with
      | none => rw [hc] at hb; simp at hb
      | some c =>
       rw [hc] at hb
       simp only [Option.map_some, Option.some.injEq] at hb
       have hk : k < ids.length := by rw [← hbl]; exact (List.getElem?_eq_some_iff.1 hc).1
       exact ⟨c, rfl, hk, by rw [hbj k hk, hc], hb.symm⟩
     have hEnt : Ent w g.X0 io (bin.map Blk.down) (fun k => ι (ids.getD k 0)) FrIn :=
      {own := fun k blk b sz m hb hi => by
        obtain ⟨c, hc, hk, hl, rfl⟩ := hbk k blk hb
        obtain ⟨q1, _⟩ := h.own _ c b sz m hl hi
        refine ⟨?_, _, hkm k hk, _, hi, rfl⟩
        cases c with
        | mp => exact q1
        | arr sz' n f te =>
         obtain ⟨e1, e2, cells, el, e3, e4, e5, e6⟩ := q1
         refine ⟨e1, e2, cells, el, e3, e4, e5, fun i j hi' hj => (e6 i j hi' hj).weaken fun b' hb' => ?_⟩
         have hS2 : te ≠ q0i := fun e => h.frS b' (e ▸ hb')
         unfold qGX
         rw [q0z.2 hS2]
         exact hF1 te b' hb'
        | box cs => have := hc3.1 _ (List.mem_of_getElem? hc); simp [qCg] at this
       nob := fun k blk hb hi => by
        obtain ⟨c, hc, hk, hl, rfl⟩ := hbk k blk hb
        obtain ⟨sz, f, te, rfl⟩ := h.nob _ c hl hi
        exact ⟨sz, f, _, rfl⟩
       inj := fun k k' blk blk' r r' hb hb' hi hi' e1 => by
        obtain ⟨c, hc, hk, hl, rfl⟩ := hbk k blk hb
        obtain ⟨c', hc', hk', hl', rfl⟩ := hbk k' blk' hb'
        have := h.inj _ _ c c' r r' hl hl' hi hi' e1
        have e2 := q2x hnd hk
        rw [this, q2x hnd hk'] at e2
        exact e2.symm
       fr := fun t b hf => ⟨hf.2.1, hf.2.2.1, fun k blk r hb hi e1 => by
        obtain ⟨c, hc, hk, hl, rfl⟩ := hbk k blk hb
        exact hf.2.2.2 ⟨_, hkm k hk, r, hi, e1⟩⟩
       frS := fun b hf => by rcases hf.1 with e | e <;> exact absurd e (by decide)
       fr0 := fun t b hf => ⟨.inl rfl, hf.2⟩
       fr2 := fun t b h2 hf => by rcases hf.1 with e | e <;> omega
       x0 := fun b hx => ⟨Nat.lt_of_lt_of_le (h.x0 b hx).1 h.hsize, fun hq => h.newX (hion b hq).1 hx⟩
       io0 := fun b hb => by
        obtain ⟨id, hid, r, hr, rfl⟩ := hb
        obtain ⟨blk, hl⟩ := hlk id hid
        exact hownlt id blk r hl hr
       few := by rw [List.length_map, hbl]; omega }
     have hargs := hS.does _ _ ob r bs hDe hob (c.args.map a.eval ++ capsv) w g.X0 io _ FrIn hEnt (fun t b hf => hf.2.2.2) (by simpa using hvr.1) (fun j hj => by
      have hj' : j < avs.length := by simpa using hj
      rw [q2k hj']
      have hr := hvr.2 j hj'
      have hin : qD2 (avs.getD j .undef) = true → ∀ id ∈ (avs.getD j .undef).ids, id ∈ ids := fun hq id hid => (hmem id).2 (q4r (List.mem_filter.2 ⟨by simp [hj'], hq⟩) hid)
      generalize avs.getD j .undef = v at hr hin
      generalize (c.args.map a.eval ++ capsv).getD j Go.undef = x at hr
      by_cases hov : ∃ id k, v = .osl id k
      ·obtain ⟨id, k, rfl⟩ := hov
       have hid := hin rfl id (by simp [V.ids])
       cases hr with
       | atom hv _ => simp [isP] at hv
       | osl hi hn hc hs hcs => exact .osl (by rw [hinn id hid]; exact hi) hn hc hs hcs
       | osl0 ad hi => exact .osl0 ad (by rw [hinn id hid]; exact hi)
      ·have e1 : mvA (q0Q s.S (ids.map fun id => (id, none))) ids v = qH0 (q0Q s.S (ids.map fun id => (id, none))) v := by
        cases v <;> first | rfl | exact absurd ⟨_, _, rfl⟩ hov
       rw [e1]
       refine qE7 h' hF1 (.inl fun id blk r hl hi => ?_) hr
       obtain ⟨hni, hl0⟩ := hKS id blk hl
       refine ⟨.inr rfl, hownlt id blk r hl0 hi, fun hx => ?_, fun hq => (hion _ hq).2.2 id blk r hni hl0 hi rfl⟩
       rcases (h.own id blk r.1 r.2.1 r.2.2 hl0 hi).2 with q | ⟨q, _⟩
       ·exact h.newX q hx
       ·exact (h.x0 _ hx).2 q)
     intro next Q hn
     refine q9y hop hcal hcv hargs ?_
     rintro e' w' ⟨v, ι', Fr', rfl, hrv, hE⟩
     refine ⟨v, rfl, ?_⟩
     have hmain := q6r h' hfresh' (ids := []) List.nodup_nil (fun id hid => by cases hid) hE
      (fun b hb => by
       rcases hb with hb | hb
       ·exact .inl (Nat.le_trans h.hsize hb)
       ·exact (hion b hb).1)
      (fun b hb => by
       rcases hb with hb | hb
       ·exact ⟨fun t hf => by have := (h.fr t b hf).1; omega, fun id blk q hl hi e => by have := hownlt id blk q (hKS id blk hl).2 hi; omega⟩
       ·exact ⟨(hion b hb).2.1, fun id blk q hl hi => (hion b hb).2.2 id blk q (hKS id blk hl).1 (hKS id blk hl).2 hi⟩)
      (fun j hj => by simp at hj) (fun b hb => .inr (.inr hb)) (fun b hx => hx) (by simp) hfew hrv
      (fun k hk => q3c hc2.1 k hk) (fun b hb k hk => q3c (hc2.2 b hb) k hk) (.inr ⟨hc3.2.1, hc3.2.2⟩)
     obtain ⟨ι2, Fr2, hR, hV⟩ := hmain
     refine hn _ _ ι2 Fr2 (qDj hd ?_ hV)
     rw [q2v]
     exact hR
 ·
  rename_i D hDf
  have hS : q0T P n D := hD n .rw D hDf
  simp only at he
  generalize hidsE : q63 (V.idsL avs) = ids at he
  obtain ⟨hnd, hmem⟩ := q7T (V.idsL avs)
  rw [hidsE] at hnd hmem
  split at he
  case h_2 => simp at he
  case h_1 bin hbin =>
   obtain ⟨hbl, hbj⟩ := qE3 hbin
   split at he
   case h_2 => simp at he
   case h_1 ob r bs hDe =>
    split at he
    case h_2 => simp at he
    case h_1 hc1 hc2 hc3 =>
     simp only [Option.some.injEq] at he
     subst he
     have hob := ho ob (List.mem_cons_self ..)
     simp only [Bool.and_eq_true, List.all_eq_true] at hc1 hc2 hc3
     have hfew : bs.length < 63 := Nat.le_of_ble_eq_true hc1.2
     have hshl : ∀ (l l' : List Blk), q7E l l' = true → l.length = l'.length := by
      intro l
      induction l with
      | nil => intro l' hq; cases l' <;> simp [q7E] at hq ⊢
      | cons b l ih =>
       intro l' hq
       cases l' with
       | nil => cases b <;> simp [q7E] at hq
       | cons b' l' =>
        cases b <;> cases b' <;> simp only [q7E, Bool.and_eq_true, Bool.false_eq_true] at hq
        ·simp [ih l' hq.2]
        ·simp [ih l' hq.2]
     have hlen : ids.length ≤ bs.length := by
      have := hshl _ _ hc1.1
      rw [hbl, List.length_take] at this
      omega
     have hlk : ∀ id ∈ ids, ∃ blk, lk s.S id = some blk := by
      intro id hid
      obtain ⟨j, hj, rfl⟩ := q8O hid
      have := hbj j hj
      rw [List.getElem?_eq_getElem (by omega)] at this
      exact ⟨_, this⟩
     obtain ⟨FrIn, hEnt, hconv⟩ := qNo h hnd hbl hbj hlk (by omega) hc3
     have hargs := hS.does _ _ ob r bs hDe hob (c.args.map a.eval ++ capsv) w _ _ _ FrIn hEnt (by simpa using hvr.1) (fun j hj => by
      have hj' : j < avs.length := by simpa using hj
      rw [q2k (by simpa using hj'), q2k hj']
      exact hconv _ _ (fun id hid => (hmem id).2 (hids j hj' id hid)) (hvr.2 j hj'))
     intro next Q hn
     refine q9y hop hcal hcv hargs ?_
     rintro e' w' ⟨v, ι', Fr', rfl, hrv, hE⟩
     refine ⟨v, rfl, ?_⟩
     rw [List.length_map, hbl] at hE
     have hmain := q6r h hfresh (ids := ids) hnd hlk hE (fun b hb => .inl (Nat.le_trans h.hsize hb))
      (fun b hb => ⟨fun t hf => by have := (h.fr t b hf).1; omega, fun id blk q hl hi e => by have := (h.own id blk q.1 q.2.1 q.2.2 hl hi).1.lt; omega⟩) (fun j hj => rfl) (fun b hb => .inl hb) (fun b hx => .inl hx) hlen hfew hrv
      (fun k hk => q3c hc2.1 k hk) (fun b hb k hk => q3c (hc2.2 b hb) k hk) (.inl fun id blk q hid hl hi => .inr ⟨id, blk, q, hid, hl, hi, rfl⟩)
     obtain ⟨ι2, Fr2, hR, hV⟩ := hmain
     exact hn _ _ ι2 Fr2 (qDj hd hR hV)
 ·simp at he
section
variable {P : Program} {cx : Cx} (hT : q31 P cx.tt) (hD : q0D P cx.D)
theorem q1I {g : G} {s : AS} {a : Act} {w : World} {ι : q0x} {Fr : Nat → Nat → Prop} {o : Oper} {e : Ef} (h : Rel g s a w ι Fr) (hd : q39 g.nt o = true) (he : e.upd = [])
  (hr : ∃ x, (execOp a.eval o).run P w = .ok (.value x) w ∧ q0X w Fr ι e.v x) : q6v P g (s.app o.dst e) a w o := by
 obtain ⟨x, hx, hv⟩ := hr
 have : e = ⟨e.v, [], e.rd, e.ob⟩ := by rw [← he]
 rw [this]
 exact qCH h hd hx hv
theorem qDs {tt : TT} (hT : q31 P tt) {t : Nat} (ht : q7B tt t = true) {w : World} {s : ByteArray} {k : IntKind} {n : Int} (h0 : 0 ≤ n) (h1 : n < (s.size : Int)) :
  (Instr.index t (.string s) (.int k n)).run P w = .ok (.int .u8 (q0c s n)) w := by
 have hu := qDD hT ht w
 have hlt : n.toNat < s.size := by omega
 have hlt' : n.toNat < s.data.size := hlt
 have hg : s[n.toNat]? = some s.data[n.toNat] := by
  show (if h : n.toNat < s.size then some s[n.toNat] else none) = _
  rw [dif_pos hlt]; rfl
 unfold Instr.index asIntOf
 simp only [Sem.run_bind, Sem.run_pure, Result.andThen_ok, hu, h0, if_true, hg, q0c]
 have e2 : s.data.getD n.toNat 0 = s.data[n.toNat] := by
  unfold Array.getD; rw [dif_pos hlt']; rfl
 rw [e2]
theorem qLM {tt : TT} (hT : q31 P tt) {g : G} {s : AS} {a : Act} {w : World} {ι : q0x} {Fr : Nat → Nat → Prop} (h : Rel g s a w ι Fr) {src dst : Nat} {x : V} {vx : Value} {e : Ef} (he : qJH tt s.S src dst x = some e) (ho : ∀ p ∈ e.ob, p)
  (hx : q0X w Fr ι x vx) : e.upd = [] ∧ ∃ z, (convert src dst vx).run P w = .ok z w ∧ q0X w Fr ι e.v z := by
 unfold qJH at he
 split at he
 ·rename_i id n
  split at he
  ·rename_i sz m f te hb hl
   split at he
   ·rename_i hsz
    have hsz1 := q0j.1 hsz
    subst hsz1
    simp only [Option.some.injEq] at he
    subst he
    have hg : ∀ i, i < n → qNa (f i) = true := ho _ (List.mem_singleton.2 rfl)
    rw [Bool.and_eq_true] at hb
    obtain ⟨hu, hst⟩ := hb
    obtain ⟨et, q1, q2, q3, q4, q5, r1, r2, r3, r4, r5, hs1, hs2⟩ : ∃ et q1 q2 q3 q4 q5 r1 r2 r3 r4 r5, lk tt src = some ⟨.slice et, q1, q2, q3, q4, q5⟩ ∧ lk tt et = some ⟨.int .u8, r1, r2, r3, r4, r5⟩ := by
     unfold qUS q1k at hu
     split at hu
     ·rename_i heq
      split at heq
      ·rename_i h1
       exact ⟨_, _, _, _, _, _, _, _, _, _, _, h1, heq⟩
      ·cases heq
     ·cases hu
    obtain ⟨t1, t2, t3, t4, t5, hd1⟩ : ∃ t1 t2 t3 t4 t5, lk tt dst = some ⟨.string, t1, t2, t3, t4, t5⟩ := by
     unfold q7B at hst
     split at hst
     ·rename_i h1
      exact ⟨_, _, _, _, _, h1⟩
     ·cases hst
    have us := hT.und _ _ hs1
    have ue := hT.und _ _ hs2
    have ud := hT.und _ _ hd1
    refine ⟨rfl, .string (q4g n f), ?_, .atom rfl (.str _)⟩
    cases hx with
    | atom hp _ => simp [isP] at hp
    | osl hi hle hcap hsh hcs =>
     rename_i b sz m2 cap c e'
     obtain ⟨⟨rfl, rfl, cells, e2, hh, hcsz, hlen, hr⟩, _⟩ := h.own id _ b sz m2 hl hi
     refine run_convert_bytes_arg w src et us ue b 0 n cap _ (by simp) (fun i hi' => ?_) dst ud
     have h1 := hr i 0 (by omega) (by decide)
     have h2 := hg i hi'
     obtain ⟨z, hz⟩ : ∃ z, f i = .int .u8 z := by
      cases hf : f i with
      | int k z => rw [hf] at h2; cases k <;> first | exact ⟨z, rfl⟩ | cases h2
      | _ => rw [hf] at h2; cases h2
     rw [hz] at h1
     simp only [V.cells, List.getD_cons_zero, Nat.mul_one, Nat.add_zero] at h1
     have h3 : cells.getD i Go.undef = Value.int .u8 z := by
      cases hq : cells.getD i Go.undef with
      | int k z' => rw [hq] at h1; cases h1; rfl
      | _ => rw [hq] at h1; cases h1
     rw [Nat.zero_add, q30 hh (by omega), h3]
     simp [hi', hz, x7A]
    | osl0 ad hi =>
     have e0 : q4g 0 f = ByteArray.empty := rfl
     rw [e0]
     cases ad with
     | none => exact run_convert_bytes_nil w src et us ue _ _ dst ud
     | some ad =>
      rw [run_convert_bytes_string w src dst et _ _ _ us ue ud, run_bytesToString w ad 0 _ [] (by simp [loadCells, loadCellsFrom])]
      rfl
   ·cases he
  ·cases he
 ·exact qL9 hT he ho hx
include hT hD in
theorem qOI {g : G} {s : AS} {a : Act} {w : World} {ι : q0x} {Fr : Nat → Nat → Prop} (h : Rel g s a w ι Fr) {o : Oper} {d : Nat} (hx : ∀ x ∈ q0y o.op, q0X w Fr ι (q0v (q1T s x)) (a.eval x))
  (hd : q39 g.nt o = true) (hfresh : ∀ id, id / 64 = d + 1 → q0l s id) {e : Ef} (he : q1D cx s.S d (fun x => q0v (q1T s x)) o.op = some e) (ho : ∀ p ∈ e.ob, p) : q6v P g (s.app o.dst e) a w o := by
 have hf0 : q0l s (q3C d) := hfresh _ (by unfold q3C; omega)
 cases hop : o.op with
 | move x =>
  rw [hop] at hx he
  simp only [q1D, ok, Option.some.injEq] at he
  subst he
  exact q1I h hd rfl ⟨_, qFk x (.inl hop), hx x (by simp [q0y])⟩
 | assign x =>
  rw [hop] at hx he
  simp only [q1D, ok, Option.some.injEq] at he
  subst he
  exact q1I h hd rfl ⟨_, qFk x (.inr hop), hx x (by simp [q0y])⟩
 | alloc el =>
  rw [hop] at he
  simp only [q1D] at he
  split at he
  ·rename_i ti hl
   simp only [qY1, Option.some.injEq] at he
   subst he
   exact qJI hT h hop hl hf0 hd
  ·simp at he
 | box el x =>
  rw [hop] at hx he
  simp only [q1D] at he
  split at he
  ·rename_i hs
   simp only [qY1, Option.some.injEq] at he
   subst he
   exact qOm h hop (hx x (by simp [q0y])) hs hf0 hd
  ·simp at he
 | build t ps =>
  rw [hop] at hx he
  exact qJh hT h hop (fun p hp => hx p.2 (by simp only [q0y]; exact List.mem_map.2 ⟨p, hp, rfl⟩)) hd he
 | buildSlice t len ps =>
  rw [hop] at hx he
  exact qAr hT h hop (fun p hp => hx p.2 (by simp only [q0y]; exact List.mem_map.2 ⟨p, hp, rfl⟩)) hd hf0 he
 | load t x =>
  rw [hop] at hx he
  simp only [q1D] at he
  split at he
  ·rename_i ti hl
   obtain ⟨h1, y, hy, hv⟩ := qIo (P := P) hT h hl he ho (hx x (by simp [q0y]))
   refine q1I h hd h1 ⟨y, ?_, hv⟩
   unfold execOp; rw [hop]; exact q5o hy
  ·simp at he
 | store t p x =>
  rw [hop] at hx he
  simp only [q1D] at he
  split at he
  ·rename_i ti hl
   exact qJP hT h hop hl (hx p (by simp [q0y])) (hx x (by simp [q0y])) hd he ho
  ·simp at he
 | nilCheck x =>
  rw [hop] at hx he
  have hxr := hx x (by simp [q0y])
  simp only [q1D] at he
  split at he
  ·rename_i cs off t hv
   simp only [ok, Option.some.injEq] at he
   subst he
   rw [hv] at hxr
   refine q1I h hd rfl ⟨a.eval x, ?_, hxr⟩
   have : ∃ ad, a.eval x = .pointer (some ad) := by
    generalize a.eval x = vx at hxr
    cases hxr with
    | atom _ hp => cases hp; exact ⟨_, rfl⟩
   obtain ⟨ad, had⟩ := this
   unfold execOp; rw [hop]; simp [had]
  ·rename_i id i off hv
   simp only [ok, Option.some.injEq] at he
   subst he
   rw [hv] at hxr
   refine q1I h hd rfl ⟨a.eval x, ?_, hxr⟩
   have : ∃ ad, a.eval x = .pointer (some ad) := by
    generalize a.eval x = vx at hxr
    cases hxr with
    | atom hv _ => simp [isP] at hv
    | oref => exact ⟨_, rfl⟩
   obtain ⟨ad, had⟩ := this
   unfold execOp; rw [hop]; simp [had]
  ·simp at he
 | binOp op t x y yt =>
  rw [hop] at hx he
  obtain ⟨h1, z, hz, hv⟩ := qOp (P := P) hT (ox := x) (oy := y) he ho (hx x (by simp [q0y])) (hx y (by simp [q0y]))
  refine q1I h hd h1 ⟨z, ?_, hv⟩
  unfold execOp; rw [hop]; exact q5o hz
 | unOp op t x =>
  rw [hop] at hx he
  have hxr := hx x (by simp [q0y])
  simp only [q1D] at he
  split at he
  ·rename_i b hv
   simp only [ok, Option.some.injEq] at he
   subst he
   rw [hv] at hxr
   have := q3U hxr
   refine q1I h hd rfl ⟨.bool (!b), ?_, .atom rfl (.bool _)⟩
   unfold execOp; rw [hop]; refine q5o ?_; rw [this]; rfl
  ·rename_i k n hv
   simp only [okO, Option.some.injEq] at he
   subst he
   rw [hv] at hxr
   have := q27 hxr
   have hk : k.wrap (0 - n) = 0 - n := ho (inK k (0 - n)) (List.mem_singleton.2 rfl)
   refine q1I h hd rfl ⟨.int k (0 - n), ?_, .atom rfl (.int _ _)⟩
   unfold execOp; rw [hop]; refine q5o ?_; rw [this]; simp only [Op.unary, Op.intArith, hk]; rfl
  ·simp at he
 | convert src dst x =>
  rw [hop] at hx he
  obtain ⟨h1, z, hz, hv⟩ := qLM (P := P) hT h he ho (hx x (by simp [q0y]))
  refine q1I h hd h1 ⟨z, ?_, hv⟩
  unfold execOp; rw [hop]; exact q5o hz
 | makeFunc fn first caps =>
  rw [hop] at hx he
  cases fn with
  | func f =>
   simp only [q1D] at he
   split at he
   ·rename_i hfirst
    simp only [ok, Option.some.injEq] at he
    subst he
    refine q1I h hd rfl ⟨.func (.func f) (first.map a.eval) (caps.map a.eval), ?_, ?_⟩
    ·unfold execOp; rw [hop]; exact q5o rfl
    ·have : first = #[] := by rw [← Array.toList_inj]; simpa using hfirst
     subst this
     simp only [List.map_toArray, List.map_nil]
     refine .fn (caps.map a.eval) (by simp) fun j hj => ?_
     have hj' : j < caps.size := by simpa using hj
     have hm : caps[j] ∈ caps.toList := by simp
     have e1 : (caps.toList.map fun x => q0v (q1T s x)).getD j .undef = q0v (q1T s caps[j]) := by simp [List.getD, hj']
     have e2 : (caps.map a.eval).getD j Go.undef = a.eval caps[j] := by simp [hj']
     rw [e1, e2]
     exact hx _ (by simp only [q0y]; exact List.mem_append.2 (.inr hm))
   ·simp at he
  | _ => simp [q1D] at he
 | makeSlice t l c =>
  rw [hop] at hx he
  exact qLS hT h hop (hx l (by simp [q0y])) (hx c (by simp [q0y])) hd hf0 he ho
 | slice t x lo hi mx =>
  rw [hop] at hx he
  obtain ⟨h1, z, hz, hv⟩ := qJt (P := P) hT h he ho (hx x (by simp [q0y])) (qZQ (ev := a.eval) fun o ho => hx o (by subst ho; simp [q0y, q9P])) (qZQ (ev := a.eval) fun o ho => hx o (by subst ho; simp [q0y, q9P]))
   (qZQ (ev := a.eval) fun o ho => hx o (by subst ho; simp [q0y, q9P])) (by cases mx <;> simp)
  refine q1I h hd h1 ⟨z, ?_, hv⟩
  unfold execOp; rw [hop]; exact q5o hz
 | fieldAddr st x f =>
  rw [hop] at hx he
  obtain ⟨h1, z, hz, hv⟩ := qD4 (P := P) hT he (hx x (by simp [q0y]))
  refine q1I h hd h1 ⟨z, ?_, hv⟩
  unfold execOp; rw [hop]; exact q5o hz
 | field st x f =>
  rw [hop] at hx he
  obtain ⟨h1, z, hz, hv⟩ := qMl (P := P) hT he (hx x (by simp [q0y]))
  refine q1I h hd h1 ⟨z, ?_, hv⟩
  unfold execOp; rw [hop]; exact q5o hz
 | indexAddr t x i =>
  rw [hop] at hx he
  obtain ⟨h1, z, hz, hv⟩ := qDA (P := P) hT h he ho (hx x (by simp [q0y])) (hx i (by simp [q0y]))
  refine q1I h hd h1 ⟨z, ?_, hv⟩
  unfold execOp; rw [hop]; exact q5o hz
 | index t x i =>
  rw [hop] at hx he
  have h1 := hx x (by simp [q0y])
  have h2 := hx i (by simp [q0y])
  simp only [q1D] at he
  split at he
  ·rename_i sv k n hv1 hv2 hst
   simp only [okO, Option.some.injEq] at he
   subst he
   rw [hv1] at h1
   rw [hv2] at h2
   have e1 := q3r h1
   have e2 := q27 h2
   have hob := ho _ (List.mem_singleton.2 rfl)
   refine q1I h hd rfl ⟨_, ?_, .atom rfl (.int _ _)⟩
   unfold execOp; rw [hop]; refine q5o ?_; rw [e1, e2]; exact qDs hT hst hob.1 hob.2
  ·simp at he
 | makeMap t r =>
  rw [hop] at he
  cases r with
  | none => exact qEh h hop hd hf0 he
  | some r => simp [q1D] at he
 | lookup t x i c =>
  rw [hop] at hx he
  obtain ⟨h1, z, hz, hv⟩ := qJw (P := P) hT h (hx x (by simp [q0y])) (hx i (by simp [q0y])) he
  refine q1I h hd h1 ⟨z, ?_, hv⟩
  unfold execOp; rw [hop]; exact q5o hz
 | mapUpdate t x i v =>
  rw [hop] at hx he
  exact qBe hT h hop hd (hx x (by simp [q0y])) (hx i (by simp [q0y])) (hx v (by simp [q0y])) he
 | extract x i =>
  rw [hop] at hx he
  have h1 := hx x (by simp [q0y])
  simp only [q1D] at he
  split at he
  ·rename_i vs hv
   split at he
   ·rename_i v hvi
    simp only [ok, Option.some.injEq] at he
    subst he
    rw [hv] at h1
    generalize hvx : a.eval x = vx at h1
    cases h1 with
    | atom hv _ => simp [isP] at hv
    | tup arr hs hr =>
     have hi : i < vs.length := (List.getElem?_eq_some_iff.1 hvi).1
     have e1 : vs.getD i .undef = v := by simp [List.getD, hvi]
     refine q1I h hd rfl ⟨arr.getD i Go.undef, ?_, by have := hr i hi; rw [e1] at this; exact this⟩
     unfold execOp; rw [hop]; refine q5o ?_; rw [hvx]
     have hi' : i < arr.size := by omega
     simp [Instr.extract, hi']
   ·simp at he
  ·simp at he
 | call c =>
  rw [hop] at hx he
  simp only [q1D] at he
  split at he
  ·
   rename_i hcal
   split at he
   ·rename_i x t rest hargs hty
    obtain ⟨h1, z, hz, hv⟩ := qOb (P := P) hT (rt := o.type) rest he (hx x (by simp only [q0y]; exact List.mem_append.2 (.inr (by rw [hargs]; simp))))
    refine q1I h hd h1 ⟨z, ?_, hv⟩
    have ha : c.args = #[x] := by rw [← Array.toList_inj]; simpa using hargs
    have ht : c.argTypes = (t :: rest).toArray := by rw [← hty]
    unfold execOp; rw [hop]
    simp only [resolve, hcal, ha, ht, invoke, builtin, Sem.run_bind, Sem.run_pure, Result.andThen_ok, List.map_toArray, List.map_cons, List.map_nil, hz]
   ·simp at he
  ·
   rename_i hcal
   split at he
   ·rename_i x y t u rest hargs hty
    split at he
    ·rename_i tiu htiu
     have ha : c.args = #[x, y] := by rw [← Array.toList_inj]; simpa using hargs
     exact qEV hT h hop hcal ha hty ⟨_, htiu⟩ (hx x (by simp only [q0y]; exact List.mem_append.2 (.inr (by rw [hargs]; simp)))) (hx y (by simp only [q0y]; exact List.mem_append.2 (.inr (by rw [hargs]; simp)))) hd hf0 he ho
    ·split at he
     ·rename_i hint
      have ha : c.args = #[x, y] := by rw [← Array.toList_inj]; simpa using hargs
      exact qEa hT h hop hcal ha hty hint (hx x (by simp only [q0y]; exact List.mem_append.2 (.inr (by rw [hargs]; simp)))) (hx y (by simp only [q0y]; exact List.mem_append.2 (.inr (by rw [hargs]; simp)))) hd hf0 he ho
     ·simp at he
   ·simp at he
  ·
   rename_i hcal
   split at he
   ·rename_i x t rest hargs hty
    have hxx := hx x (by simp only [q0y]; exact List.mem_append.2 (.inr (by rw [hargs]; simp)))
    unfold x6I at he
    split at he
    ·rename_i id lo n cc hxe hsl
     simp only [ok, Option.some.injEq] at he
     subst he
     rw [hxe] at hxx
     obtain ⟨el, ti, hti, hu, hel⟩ := q7b (P := P) hT hsl w
     have hv : ∃ a0 l0, a.eval x = .slice a0 l0 cc := by
      generalize a.eval x = vx at hxx
      cases hxx with
      | atom hv _ => simp [isP] at hv
      | oss hi hn hc hcc hxq hs hcs => rw [hxq rfl]; exact ⟨_, _, rfl⟩
      | oss0 a0 h0 => exact ⟨_, _, rfl⟩
     obtain ⟨a0, l0, hv⟩ := hv
     refine q1I h hd rfl ⟨.int .i64 cc, ?_, .atom rfl (.int _ _)⟩
     have ha : c.args = #[x] := by rw [← Array.toList_inj]; simpa using hargs
     have ht : c.argTypes = (t :: rest).toArray := by rw [← hty]
     unfold execOp; rw [hop]
     simp only [resolve, hcal, ha, ht, invoke, builtin, Sem.run_bind, Sem.run_pure, Result.andThen_ok, List.map_toArray, List.map_cons, List.map_nil, hv]
     unfold Builtin.cap_
     simp [hu, goInt]
    ·simp at he
   ·simp at he
  ·
   rename_i hcal
   split at he
   ·rename_i x y t u rest hargs hty
    split at he
    ·rename_i tiu htiu
     have ha : c.args = #[x, y] := by rw [← Array.toList_inj]; simpa using hargs
     exact qLN hT h hop hcal ha hty ⟨_, htiu⟩ (hx x (by simp only [q0y]; exact List.mem_append.2 (.inr (by rw [hargs]; simp)))) (hx y (by simp only [q0y]; exact List.mem_append.2 (.inr (by rw [hargs]; simp)))) hd he ho
    ·simp at he
   ·simp at he
  ·
   rename_i hcal
   split at he
   ·rename_i x t rest hargs hty
    have ha : c.args = #[x] := by rw [← Array.toList_inj]; simpa using hargs
    exact qJC hT h hop hcal ha hty (hx x (by simp only [q0y]; exact List.mem_append.2 (.inr (by rw [hargs]; simp)))) hd he ho
   ·simp at he
  ·
   rename_i hcal
   split at he
   ·rename_i x r hargs
    unfold okV at he
    split at he
    ·rename_i v hv
     simp only [ok, Option.some.injEq] at he
     subst he
     have hall : ∀ y ∈ x :: r, q0X w Fr ι (q0v (q1T s y)) (a.eval y) := fun y hy => hx y (by simp only [q0y]; exact List.mem_append.2 (.inr (by rw [hargs]; exact hy)))
     obtain ⟨u, hu, hur⟩ := qDR (P := P) (fun x y z vx vy h1 h2 h3 => qOn (P := P) h1 h2 h3) (r.map fun y => q0v (q1T s y)) (r.map a.eval) _ v _ hv (hall x (List.mem_cons_self ..)) (by simp) (fun j hj => by
      have hj' : j < r.length := by simpa using hj
      have e1 : (r.map fun y => q0v (q1T s y)).getD j .undef = q0v (q1T s r[j]) := by simp [List.getD, hj']
      have e2 : (r.map a.eval).getD j Go.undef = a.eval r[j] := by simp [List.getD, hj']
      rw [e1, e2]; exact hall _ (List.mem_cons_of_mem _ (List.getElem_mem hj')))
     refine q1I h hd rfl ⟨u, ?_, hur⟩
     have ha : c.args = (x :: r).toArray := by rw [← Array.toList_inj]; simpa using hargs
     unfold execOp; rw [hop]
     simp only [resolve, hcal, ha, invoke, builtin, Sem.run_bind, Sem.run_pure, Result.andThen_ok, Builtin.max_, List.map_toArray, List.map_cons, hu]
    ·simp at he
   ·simp at he
  ·
   rename_i hcal
   split at he
   ·rename_i x r hargs
    unfold okV at he
    split at he
    ·rename_i v hv
     simp only [ok, Option.some.injEq] at he
     subst he
     have hall : ∀ y ∈ x :: r, q0X w Fr ι (q0v (q1T s y)) (a.eval y) := fun y hy => hx y (by simp only [q0y]; exact List.mem_append.2 (.inr (by rw [hargs]; exact hy)))
     obtain ⟨u, hu, hur⟩ := qDR (P := P) (fun x y z vx vy h1 h2 h3 => qPd (P := P) h1 h2 h3) (r.map fun y => q0v (q1T s y)) (r.map a.eval) _ v _ hv (hall x (List.mem_cons_self ..)) (by simp) (fun j hj => by
      have hj' : j < r.length := by simpa using hj
      have e1 : (r.map fun y => q0v (q1T s y)).getD j .undef = q0v (q1T s r[j]) := by simp [List.getD, hj']
      have e2 : (r.map a.eval).getD j Go.undef = a.eval r[j] := by simp [List.getD, hj']
      rw [e1, e2]; exact hall _ (List.mem_cons_of_mem _ (List.getElem_mem hj')))
     refine q1I h hd rfl ⟨u, ?_, hur⟩
     have ha : c.args = (x :: r).toArray := by rw [← Array.toList_inj]; simpa using hargs
     unfold execOp; rw [hop]
     simp only [resolve, hcal, ha, invoke, builtin, Sem.run_bind, Sem.run_pure, Result.andThen_ok, Builtin.min_, List.map_toArray, List.map_cons, hu]
    ·simp at he
   ·simp at he
  ·
   rename_i f hcal
   split at he
   ·rename_i n caps hv
    have hmf : f ∈ q0y (.call c) := by simp only [q0y, hcal, qH2]; exact List.mem_append.2 (.inl (by simp))
    exact qNS hD h hop hcal hv (hx f hmf) (fun x hxm => hx x (by simp only [q0y]; exact List.mem_append.2 (.inr hxm))) hd hfresh he ho
   ·simp at he
  ·simp at he
 | _ => rw [hop] at he; simp [q1D] at he
end
section
variable {P : Program} {cx : Cx} (hT : q31 P cx.tt) (hD : q0D P cx.D)
theorem qCe {w : World} {Fr : Nat → Nat → Prop} {ι : q0x} {v : V} {x : Value} (h : q0X w Fr ι v x) {gd : Bool} (hg : gd = true) (ho : ∀ p ∈ qA9 gd v, p) : q0X w Fr ι (q0v v) x := by
 cases v with
 | cnd c u =>
  have hc : c = true := ho _ (List.mem_singleton.2 rfl) hg
  cases h with
  | atom hv _ => simp [isP] at hv
  | cnd ht hf => exact ht hc
 | _ => exact h
theorem q95 {l : List Prop} {x : Option Ef} {e : Ef} (h : qK1 l x = some e) : ∃ e', x = some e' ∧ e = { e' with ob := l ++ e'.ob } := by
 cases x with
 | none => simp [qK1] at h
 | some e' => exact ⟨e', rfl, (Option.some.inj h).symm⟩
theorem qNF {w : World} {Fr : Nat → Nat → Prop} {ι : q0x} {gd cb : Bool} {va vb : V} {x y : Value} {e : Ef} (he : qSe gd cb va vb = some e) (hg : gd = true) (ho : ∀ p ∈ e.ob, p)
  (h1 : q0X w Fr ι va x) (h2 : q0X w Fr ι vb y) : e.upd = [] ∧ q0X w Fr ι e.v (if cb then x else y) := by
 unfold qSe at he
 split at he
 ·rename_i p q
  simp only [ok, Option.some.injEq] at he
  subst he
  refine ⟨rfl, ?_⟩
  cases cb
  ·exact h2
  ·exact h1
 ·rename_i c p q
  simp only [okO, Option.some.injEq] at he
  subst he
  refine ⟨rfl, ?_⟩
  cases cb
  ·exact h2
  ·have hc : c = true := ho _ (List.mem_singleton.2 rfl) hg rfl
   cases h1 with
   | atom hv _ => simp [isP] at hv
   | cnd ht hf => exact ht hc
 ·rename_i p c q
  simp only [okO, Option.some.injEq] at he
  subst he
  refine ⟨rfl, ?_⟩
  cases cb
  ·have hc : c = true := ho _ (List.mem_singleton.2 rfl) hg rfl
   cases h2 with
   | atom hv _ => simp [isP] at hv
   | cnd ht hf => exact ht hc
  ·exact h1
 ·simp at he
include hT hD in
theorem qHA {g : G} {s : AS} {a : Act} {w : World} {ι : q0x} {Fr : Nat → Nat → Prop} (h : Rel g s a w ι Fr) {o : Oper} {d : Nat} {gd : Bool} (hg : gd = true)
  (hd : q39 g.nt o = true) (hfresh : ∀ id, id / 64 = d + 1 → q0l s id) {e : Ef} (he : opE cx s gd d o.op = some e) (ho : ∀ p ∈ e.ob, p) : q6v P g (s.app o.dst e) a w o := by
 have key : (∃ c x y, o.op = .pick c x y) ∨ opE cx s gd d o.op = qK1 ((q0y o.op).flatMap fun x => qA9 gd (q1T s x)) (q1D cx s.S d (fun x => q0v (q1T s x)) o.op) := by
  cases o.op <;> first | exact .inl ⟨_, _, _, rfl⟩ | exact .inr rfl
 rcases key with ⟨c, x, y, hop⟩ | key
 ·rw [hop] at he
  simp only [opE] at he
  split at he
  ·rename_i cb hcb
   obtain ⟨e', he', rfl⟩ := q95 he
   obtain ⟨h1, h2⟩ := qNF (w := w) (Fr := Fr) (ι := ι) (x := a.eval x) (y := a.eval y) he' hg (fun p hp => ho p (List.mem_append.2 (.inr hp))) (q4P h x) (q4P h y)
   have hc := qCe (q4P h c) hg (fun p hp => ho p (List.mem_append.2 (.inl hp)))
   rw [hcb] at hc
   have hcv := q3U hc
   refine q1I h hd h1 ⟨_, ?_, h2⟩
   unfold execOp; rw [hop]
   simp only [hcv, asBool, Sem.run_bind, Sem.run_pure, Result.andThen_ok]
  ·simp at he
 ·rw [key] at he
  obtain ⟨e', he', rfl⟩ := q95 he
  exact qOI (e := e') hT hD h (fun x hx => qCe (q4P h x) hg fun p hp => ho p (List.mem_append.2 (.inl (List.mem_flatMap.2 ⟨x, hx, hp⟩)))) hd hfresh he' (fun p (hp : p ∈ e'.ob) => ho p (List.mem_append.2 (.inr hp)))
theorem Rel.cond {g : G} {a : Act} {w : World} {ι : q0x} {Fr : Nat → Nat → Prop} {d : Nat} {v : V} {T : List (Nat × V)} {S : List (Nat × Blk)} {gd : Bool} (hg : gd = true) (h : Rel g ⟨Go.Av.put T d v, S⟩ a w ι Fr) :
  Rel g ⟨Go.Av.put T d (V.cnd gd v), S⟩ a w ι Fr :=
 {h with
  tmp := fun t u ht => by
   simp only [q1J] at ht
   by_cases e : t = d
   ·simp only [e, if_true, Option.some.injEq] at ht
    subst ht
    refine .cnd (fun _ => h.tmp t v (by simp [q1J, e])) (fun hf => by rw [hg] at hf; simp at hf)
   ·simp only [e, if_false] at ht
    exact h.tmp t u (by simp [q1J, e, ht]) }
theorem qBP {gd : Bool} : ∀ {old new m : List V} {ps : List Prop}, q4B gd old new = some (m, ps) → m.length = new.length ∧ m.length = old.length
 | [], [], m, ps, h => by simp only [q4B, Option.some.injEq, Prod.mk.injEq] at h; simp [← h.1]
 | a :: r, b :: r', m, ps, h => by
  simp only [q4B] at h
  split at h
  ·rename_i c p cs ps' h1 h2
   simp only [Option.some.injEq, Prod.mk.injEq] at h
   obtain ⟨e1, e2⟩ := qBP h2
   rw [← h.1]
   simp [e1, e2]
   omega
  ·simp at h
 | [], _ :: _, _, _, h => by simp [q4B] at h
 | _ :: _, [], _, _, h => by simp [q4B] at h
theorem qJL {gd : Bool} {a b c : V} {ps : List Prop} (h : qKO gd a b = some (c, ps)) (ho : ∀ p ∈ ps, p) {w : World} {Fr : Nat → Nat → Prop} {ι : q0x} {x : Value} (h0 : ∀ t b, Fr t b → Fr 0 b)
  (hx : q0X w Fr ι (if gd = true then b else a) x) : q0X w Fr ι c x := by
 have tg : ∀ {n : Nat} {f : Nat → V} {t t' : Nat}, (t' = t ∨ t' = 0) → q0X w Fr ι (.sl n f t) x → q0X w Fr ι (.sl n f t') x := by
  intro n f t t' ht hx
  rcases ht with rfl | rfl
  ·exact hx
  ·cases hx with
   | atom hp hr =>
    have hr' := hr.weaken (A' := Fr 0) fun b hb => h0 _ b hb
    refine .atom rfl ?_
    cases hr' with
    | sl0 => exact .sl0 _ _ _ _
    | sl cv hA hcap hsz hc hr2 => exact .sl cv hA hcap hsz hc hr2
 unfold qKO at h
 split at h
 ·split at h
  ·rename_i k a' k' b' _ hk
   have hk' : k = k' := of_decide_eq_true hk
   subst hk'
   simp only [Option.some.injEq, Prod.mk.injEq] at h
   rw [← h.1]
   cases gd with
   | true => simpa using hx
   | false => simpa using hx
  ·simp at h
 ·rename_i n f t n' f' t'
  simp only [Option.some.injEq, Prod.mk.injEq] at h
  obtain ⟨rfl, rfl⟩ := h
  have htt : (match Nat.beq t t' with | true => t' | false => 0) = t' ∨ (match Nat.beq t t' with | true => t' | false => 0) = 0 := by
   cases Nat.beq t t' <;> simp
  have htt2 : (match Nat.beq t t' with | true => t' | false => 0) = t ∨ (match Nat.beq t t' with | true => t' | false => 0) = 0 := by
   cases hb : Nat.beq t t' with
   | true => exact .inl (q0j.1 hb).symm
   | false => exact .inr rfl
  cases gd with
  | true =>
   simp only [if_true] at hx
   exact tg htt hx
  | false =>
   have e := ho _ (List.mem_singleton.2 rfl) rfl
   simp only [V.sl.injEq, and_true] at e
   obtain ⟨rfl, rfl⟩ := e
   simp only [Bool.false_eq_true, if_false] at hx
   exact tg htt2 hx
 ·simp at h
theorem q7l {gd : Bool} {w : World} {Fr : Nat → Nat → Prop} {ι : q0x} (h0 : ∀ t b, Fr t b → Fr 0 b) : ∀ {old new m : List V} {ps : List Prop}, q4B gd old new = some (m, ps) → (∀ p ∈ ps, p) → ∀ {x : Value} {j : Nat},
  q0X w Fr ι ((if gd = true then new else old).getD j .undef) x → j < m.length → q0X w Fr ι (m.getD j .undef) x
 | [], [], m, ps, h, _, x, j, _, hj => by simp only [q4B, Option.some.injEq, Prod.mk.injEq] at h; rw [← h.1] at hj; simp at hj
 | a :: r, b :: r', m, ps, h, ho, x, j, hx, hj => by
  simp only [q4B] at h
  split at h
  ·rename_i c p cs ps' h1 h2
   simp only [Option.some.injEq, Prod.mk.injEq] at h
   obtain ⟨rfl, rfl⟩ := h
   cases j with
   | zero =>
    refine qJL h1 (fun q hq => ho q (List.mem_append.2 (.inl hq))) h0 ?_
    cases gd <;> simpa using hx
   | succ j =>
    refine q7l h0 h2 (fun q hq => ho q (List.mem_append.2 (.inr hq))) (j := j) ?_ (by simpa using hj)
    cases gd <;> simpa using hx
  ·simp at h
 | [], _ :: _, _, _, h, _, _, _, _, _ => by simp [q4B] at h
 | _ :: _, [], _, _, h, _, _, _, _, _ => by simp [q4B] at h
theorem Rel.rebox {g : G} {a : Act} {w : World} {ι : q0x} {Fr : Nat → Nat → Prop} {T : List (Nat × V)} {S : List (Nat × Blk)} {id : Nat} {cs m : List V} (h : Rel g ⟨T, S⟩ a w ι Fr) (hl : lk S id = some (.box cs))
  (hlen : m.length = cs.length) (hm : ∀ j, j < m.length → ∀ x, q0X w Fr ι (cs.getD j .undef) x → q0X w Fr ι (m.getD j .undef) x) : Rel g ⟨T, Go.Av.put S id (.box m)⟩ a w ι Fr := by
 have key : ∀ k blk, lk (Go.Av.put S id (.box m)) k = some blk → (k = id ∧ blk = .box m) ∨ (k ≠ id ∧ lk S k = some blk) := by
  intro k blk hk
  rw [q1J] at hk
  by_cases e : k = id
  ·rw [if_pos e] at hk; exact .inl ⟨e, (Option.some.inj hk).symm⟩
  ·rw [if_neg e] at hk; exact .inr ⟨e, hk⟩
 have was : ∀ k blk, lk (Go.Av.put S id (.box m)) k = some blk → ∃ blk', lk S k = some blk' := by
  intro k blk hk
  rcases key k blk hk with ⟨rfl, _⟩ | ⟨_, h⟩
  ·exact ⟨_, hl⟩
  ·exact ⟨_, h⟩
 exact { h with
  own := fun k blk b sz n hk hi => by
   rcases key k blk hk with ⟨rfl, rfl⟩ | ⟨_, h1⟩
   ·obtain ⟨⟨cells, e, hh, hsz, hr⟩, h3⟩ := h.own k _ b sz n hl hi
    exact ⟨⟨cells, e, hh, by omega, fun j hj => hm j hj _ (hr j (by omega))⟩, h3⟩
   ·exact h.own k blk b sz n h1 hi
  nob := fun k blk hk hi => by
   rcases key k blk hk with ⟨rfl, rfl⟩ | ⟨_, h1⟩
   ·obtain ⟨_, _, _, e⟩ := h.nob k _ hl hi
    simp at e
   ·exact h.nob k blk h1 hi
  inj := fun k k' blk blk' r r' h1 h2 h3 h4 h5 => by
   obtain ⟨b1, g1⟩ := was k blk h1
   obtain ⟨b2, g2⟩ := was k' blk' h2
   exact h.inj k k' b1 b2 r r' g1 g2 h3 h4 h5
  fr := fun t b hb => ⟨(h.fr t b hb).1, (h.fr t b hb).2.1, fun k blk r hk hi => by
   obtain ⟨b1, g1⟩ := was k blk hk
   exact (h.fr t b hb).2.2 k b1 r g1 hi⟩ }
theorem qJ5 {g : G} {s : AS} {a : Act} {w : World} {ι : q0x} {Fr : Nat → Nat → Prop} (h : Rel g s a w ι Fr) {ops : List Oper} {j t : Nat} {oj : Oper} {v : V} (hj : ops[j]? = some oj) (ht : oj.dst = some t) (hl : lk s.T t = some v) :
  (∀ b, v = .bool b → yielded ops.toArray a.tmps j = some b) ∧ (∀ c b, v = .cnd c (.bool b) → yielded ops.toArray a.tmps j = if c then some b else none) := by
 have hr := h.tmp t v hl
 have hy : ∀ b, a.tmps.getD t Go.undef = .bool b → yielded ops.toArray a.tmps j = some b := by
  intro b hb
  unfold yielded
  have : a.tmps[t]? = some (.bool b) := by
   cases hq : a.tmps[t]? with
   | none => simp [Array.getD_eq_getD_getElem?, hq, Go.undef] at hb
   | some u => simp [Array.getD_eq_getD_getElem?, hq] at hb; rw [hb]
  simp [hj, ht, this]
 constructor
 ·rintro b rfl
  exact hy b (q3U hr)
 ·rintro c b rfl
  cases hr with
  | atom hv _ => simp [isP] at hv
  | cnd hct hcf =>
   cases c with
   | true => exact hy b (q3U (hct rfl))
   | false =>
    have hu := hcf rfl
    unfold yielded
    cases hq : a.tmps[t]? with
    | none => simp [hj, ht, hq]
    | some u =>
     simp [Array.getD_eq_getD_getElem?, hq] at hu
     subst hu
     simp [hj, ht, hq, Go.undef]
theorem qOw {g : G} {s : AS} {a : Act} {w : World} {ι : q0x} {Fr : Nat → Nat → Prop} (h : Rel g s a w ι Fr) {ops : List Oper} {o : Oper} :
  (q7c ops s o = some none → Region.wanted o (yielded ops.toArray a.tmps) = true) ∧
  (∀ b, q7c ops s o = some (some b) → Region.wanted o (yielded ops.toArray a.tmps) = b) := by
 unfold q7c Region.wanted
 cases hgd : o.guard with
 | none => exact ⟨fun _ => rfl, fun b hb => by simp at hb⟩
 | some jw =>
  obtain ⟨j, want⟩ := jw
  simp only []
  cases hj : ops[j]? with
  | none => exact ⟨fun hb => by simp at hb, fun b hb => by simp at hb⟩
  | some oj =>
   cases ht : oj.dst with
   | none => exact ⟨fun hb => by simp [ht] at hb, fun b hb => by simp [ht] at hb⟩
   | some t =>
    cases hl : lk s.T t with
    | none => exact ⟨fun hb => by simp [ht, hl] at hb, fun b hb => by simp [ht, hl] at hb⟩
    | some v =>
     have hy := qJ5 h hj ht hl
     simp only [ht, hl]
     constructor
     ·intro hb
      split at hb <;> first | (cases want <;> simp at hb; done) | simp at hb
     ·intro b hb
      split at hb
      ·rename_i b' hv
       rw [hy.1 b' (Option.some.inj hv)]
       cases want <;> cases b' <;> simp at hb ⊢ <;> exact hb
      ·rename_i c b' hv
       rw [hy.2 c b' (Option.some.inj hv)]
       cases want <;> cases b' <;> cases c <;> simp at hb ⊢ <;> exact hb
      ·simp at hb
include hT hD in
theorem qDb {g : G} {s : AS} {a : Act} {w : World} {ι : q0x} {Fr : Nat → Nat → Prop} (h : Rel g s a w ι Fr) {ops : List Oper} {o : Oper} (hnt : cx.nt = g.nt)
  (hfresh : ∀ id, id / 64 = qK6 cx.nt o + 1 → q0l s id) {e : Ef} (he : qBj cx ops s o = some e) (ho : ∀ p ∈ e.ob, p) {next : Act → World → Prop} {Q : Exit → Act → World → Prop}
  (hn : ∀ a' w' ι' Fr', Rel g (s.app o.dst e) a' w' ι' Fr' → next a' w') :
  if Region.wanted o (yielded ops.toArray a.tmps) then o.wp P a w next Q else next (a.put o.dst undef) w := by
 have hgd := qOw h (ops := ops) (o := o)
 unfold qBj at he
 split at he
 ·rename_i hg hd
  rw [hnt] at hd
  rw [hgd.1 hg, if_pos rfl]
  exact qHA hT hD h rfl hd hfresh he ho next Q hn
 ·rename_i gd hg hd
  rw [hnt] at hd
  rw [hgd.2 gd hg]
  split at he
  ·rename_i v rd ob hop
   simp only [Option.some.injEq] at he
   subst he
   cases gd with
   | true =>
    rw [if_pos rfl]
    have hob : ∀ p ∈ ob, p := fun p hp => ho (true = true → p) (List.mem_map.2 ⟨p, hp, rfl⟩) rfl
    refine qHA hT hD h rfl hd hfresh hop hob next Q fun a' w' ι' Fr' hr => hn a' w' ι' Fr' ?_
    cases hdst : o.dst with
    | none => rw [hdst] at hr; exact hr
    | some d =>
     rw [hdst] at hr
     exact Rel.cond (gd := true) rfl hr
   | false =>
    simp only [Bool.false_eq_true, if_false]
    cases hdst : o.dst with
    | none =>
     refine hn _ _ ι Fr ?_
     rw [hdst]; exact h
    | some d =>
     have hlt : d < g.nt := by
      unfold q39 at hd
      rw [hdst] at hd
      exact Nat.le_of_ble_eq_true hd
     refine hn _ _ ι Fr ?_
     rw [hdst]
     exact h.put hlt (.cnd (fun hc => by simp at hc) fun _ => rfl)
  ·rename_i v id new rd ob hop
   split at he
   ·rename_i old hold
    split at he
    ·rename_i m ps hmerge
     simp only [Option.some.injEq] at he
     subst he
     have hps : ∀ p ∈ ps, p := fun p hp => ho p (List.mem_append.2 (.inr hp))
     obtain ⟨l1, l2⟩ := qBP hmerge
     have hcond : ∀ {a' : Act} {w' : World} {ι' : q0x} {Fr' : Nat → Nat → Prop} {S' : List (Nat × Blk)} {d : Option Tmp}, gd = true → Rel g ⟨(match d with | some d => Go.Av.put s.T d v | none => s.T), S'⟩ a' w' ι' Fr' → Rel g ⟨(match d with | some d => Go.Av.put s.T d (.cnd gd v) | none => s.T), S'⟩ a' w' ι' Fr' := by
      intro a' w' ι' Fr' S' d hgd hr
      cases d with
      | none => exact hr
      | some d => exact Rel.cond hgd hr
     cases gd with
     | true =>
      rw [if_pos rfl]
      have hob : ∀ p ∈ ob, p := fun p hp => ho (true = true → p) (List.mem_append.2 (.inl (List.mem_map.2 ⟨p, hp, rfl⟩))) rfl
      refine qHA hT hD h rfl hd hfresh hop hob next Q fun a' w' ι' Fr' hr => hn a' w' ι' Fr' ?_
      have hr2 := Rel.rebox (id := id) (cs := new) (m := m) hr (by show lk (Go.Av.put s.S id (.box new)) id = _; rw [q1J, if_pos rfl]) l1 fun j hj x hx => q7l hr.fr0 hmerge hps (j := j) (by simpa using hx) hj
      refine hcond rfl (hr2.congr (fun t => rfl) fun k => ?_)
      show lk (Go.Av.put s.S id (.box m)) k = lk (put (Go.Av.put s.S id (.box new)) id (.box m)) k
      rw [q1J, q1J, q1J]
      split <;> rfl
     | false =>
      simp only [Bool.false_eq_true, if_false]
      have hr2 := Rel.rebox (id := id) (cs := old) (m := m) h hold l2 fun j hj x hx => q7l h.fr0 hmerge hps (j := j) (by simpa using hx) hj
      cases hdst : o.dst with
      | none =>
       refine hn _ _ ι Fr ?_
       rw [hdst]; exact hr2
      | some d =>
       have hlt : d < g.nt := by
        unfold q39 at hd
        rw [hdst] at hd
        exact Nat.le_of_ble_eq_true hd
       refine hn _ _ ι Fr ?_
       rw [hdst]
       exact hr2.put hlt (.cnd (fun hc => by simp at hc) fun _ => rfl)
    ·simp at he
   ·simp at he
  ·simp at he
 ·simp at he
mutual
theorem q5i {p : Nat → Bool} : ∀ {v : V}, (∀ id ∈ v.ids, p id = false) → V.ment p v = false
 | .osl id _, h => h id (by simp [V.ids])
 | .oss id _ _ _ _, h => h id (by simp [V.ids])
 | .oref id _ _, h => h id (by simp [V.ids])
 | .omap id, h => h id (by simp [V.ids])
 | .agg _, h => q46 h
 | .tup _, h => q46 h
 | .fn _ _, h => q46 h
 | .cnd _ v, h => q5i (v := v) h
 | .int _ _, _ => rfl
 | .bool _, _ => rfl
 | .str _, _ => rfl
 | .nil, _ => rfl
 | .sl _ _ _, _ => rfl
 | .ptr _ _ _, _ => rfl
 | .undef, _ => rfl
theorem q46 {p : Nat → Bool} : ∀ {l : List V}, (∀ id ∈ V.idsL l, p id = false) → V.mentL p l = false
 | [], _ => rfl
 | v :: r, h => by
  simp only [V.mentL, Bool.or_eq_false_iff]
  exact ⟨q5i (v := v) fun id hid => h id (by simp [V.idsL, hid]), q46 (l := r) fun id hid => h id (by simp [V.idsL, hid])⟩
end
theorem qAV {p : Nat → Bool} {b : Blk} (h : ∀ id ∈ b.ids, p id = false) : b.ment p = false := by
 cases b with
 | mp => rfl
 | arr => rfl
 | box cs => exact q46 h
theorem q2t {upd : List (Nat × Option Blk)} : ∀ {S : List (Nat × Blk)} {id : Nat}, (∀ p ∈ upd, p.1 ≠ id) → lk (q0Q S upd) id = lk S id := by
 induction upd with
 | nil => intros; rfl
 | cons p r ih =>
  intro S id h
  obtain ⟨k, b⟩ := p
  have hk : id ≠ k := fun e => h (k, b) (List.mem_cons_self ..) e.symm
  have hr := fun S => ih (S := S) (id := id) fun p hp => h p (List.mem_cons_of_mem _ hp)
  cases b with
  | none => simp only [q0Q]; rw [hr, q5x]; simp [hk]
  | some b => simp only [q0Q]; rw [hr, q1J]; simp [hk]
theorem q9b {upd : List (Nat × Option Blk)} : ∀ {S : List (Nat × Blk)} {id : Nat} {b : Blk}, lk (q0Q S upd) id = some b → lk S id = some b ∨ (id, some b) ∈ upd := by
 induction upd with
 | nil => intro S id b h; exact .inl h
 | cons p r ih =>
  intro S id b h
  obtain ⟨k, bk⟩ := p
  cases bk with
  | none =>
   simp only [q0Q] at h
   rcases ih h with h | h
   ·rw [q5x] at h
    split at h
    ·simp at h
    ·exact .inl h
   ·exact .inr (List.mem_cons_of_mem _ h)
  | some bk =>
   simp only [q0Q] at h
   rcases ih h with h | h
   ·rw [q1J] at h
    split at h
    ·rename_i e
     have h2 : bk = b := Option.some.inj h
     rw [e, h2]
     exact .inr (List.mem_cons_self ..)
    ·exact .inl h
   ·exact .inr (List.mem_cons_of_mem _ h)
theorem q0l.app {s : AS} {id : Nat} (h : q0l s id) {dst : Option Tmp} {e : Ef} (hn : id ∉ e.names) : q0l (s.app dst e) id := by
 have hv : id ∉ e.v.ids := fun hm => hn (by unfold Ef.names; simp [hm])
 have hu : ∀ p ∈ e.upd, p.1 ≠ id ∧ ∀ b, p.2 = some b → id ∉ b.ids := by
  intro p hp
  constructor
  ·intro he
   exact hn (by unfold Ef.names; refine List.mem_append.2 (.inr (List.mem_flatMap.2 ⟨p, hp, ?_⟩)); simp [he])
  ·intro b hb hm
   exact hn (by unfold Ef.names; refine List.mem_append.2 (.inr (List.mem_flatMap.2 ⟨p, hp, ?_⟩)); simp [hb, hm])
 have hne : ∀ {l : List Nat}, id ∉ l → ∀ k ∈ l, Nat.beq k id = false := fun hl k hk => q0z.2 fun e => hl (e ▸ hk)
 constructor
 ·exact h.ge
 ·show lk (q0Q s.S e.upd) id = none
  rw [q2t fun p hp => (hu p hp).1]
  exact h.no
 ·intro t v ht
  cases dst with
  | none => exact h.T t v ht
  | some d =>
   have ht' : lk (put s.T d e.v) t = some v := ht
   rw [q1J] at ht'
   split at ht'
   ·simp only [Option.some.injEq] at ht'
    subst ht'
    exact q5i (hne hv)
   ·exact h.T t v ht'
 ·intro k blk hk
  rcases q9b (show lk (q0Q s.S e.upd) k = some blk from hk) with h' | h'
  ·exact h.S k blk h'
  ·exact qAV (hne ((hu _ h').2 blk rfl))
theorem qGA {p : Nat → Bool} {s : AS} {t : Nat} {v : V} (h : lk (purge p s).T t = some v) : v = .undef ∨ (lk s.T t = some v ∧ V.ment p v = false) := by
 unfold purge at h
 simp only [] at h
 rw [qEN (qB6 p)] at h
 cases hl : lk s.T t with
 | none => rw [hl] at h; simp at h
 | some u =>
  rw [hl] at h
  simp only [Option.map_some, Option.some.injEq, qB6] at h
  cases hm : V.ment p u with
  | true => rw [hm] at h; exact .inl h.symm
  | false => rw [hm] at h; subst h; exact .inr ⟨rfl, hm⟩
theorem q3R {p : Nat → Bool} {s : AS} {id : Nat} {b : Blk} (h : lk (purge p s).S id = some b) : p id = false ∧ ∃ b', lk s.S id = some b' ∧ b = q9z p b' := by
 unfold purge at h
 simp only [] at h
 rw [qEN (q9z p), q7u (fun k => !(p k))] at h
 cases hp : p id with
 | true => rw [hp] at h; simp at h
 | false =>
  rw [hp] at h
  simp only [Bool.not_false, if_true] at h
  cases hl : lk s.S id with
  | none => rw [hl] at h; simp at h
  | some u => rw [hl] at h; simp at h; exact ⟨rfl, u, rfl, h.symm⟩
theorem qBp {p : Nat → Bool} : ∀ cs : List V, V.mentL p (cs.map (qB6 p)) = false
 | [] => rfl
 | c :: r => by
  simp only [List.map, V.mentL, qBp r, Bool.or_false, qB6]
  cases h : V.ment p c with
  | true => rfl
  | false => exact h
theorem q4o {p : Nat → Bool} {s : AS} {id : Nat} (hp : p id = true) (hge : 64 ≤ id) : q0l (purge p s) id := by
 have himp : ∀ k, p k = false → Nat.beq k id = false := fun k hk => q0z.2 fun e => by subst e; rw [hp] at hk; simp at hk
 have him : ∀ v, V.ment p v = false → V.ment (fun k => Nat.beq k id) v = false := by
  intro v hv
  refine q5i fun k hk => ?_
  cases hpk : p k with
  | true => rw [qDK v k hk p hpk] at hv; simp at hv
  | false => exact himp k hpk
 constructor
 ·exact hge
 ·cases h : lk (purge p s).S id with
  | none => rfl
  | some b => have := (q3R h).1; rw [hp] at this; simp at this
 ·intro t v ht
  rcases qGA ht with rfl | ⟨_, hm⟩
  ·rfl
  ·exact him v hm
 ·intro k b hk
  obtain ⟨_, b', _, rfl⟩ := q3R hk
  cases b' with
  | mp => rfl
  | arr => rfl
  | box cs => exact him (.agg _) (qBp cs)
theorem q8J.clear {w : World} {Fr : Nat → Nat → Prop} {ι : q0x} {b sz m : Nat} {blk : Blk} (h : q8J w Fr ι b sz m blk) (p : Nat → Bool) : q8J w Fr ι b sz m (q9z p blk) := by
 cases blk with
 | mp => exact h
 | arr => exact h
 | box cs =>
  obtain ⟨cells, e, hh, hsz, hr⟩ := h
  refine ⟨cells, e, hh, by simpa using hsz, fun j hj => ?_⟩
  have hj' : j < cs.length := by simpa using hj
  have := hr j hj'
  have e1 : (cs.map (qB6 p)).getD j .undef = qB6 p (cs.getD j .undef) := by
   simp [List.getD, hj']
  rw [e1]
  unfold qB6
  cases V.ment p (cs.getD j .undef) with
  | true => exact .atom rfl (.undef _)
  | false => exact this
theorem Rel.purge {g : G} {s : AS} {a : Act} {w : World} {ι : q0x} {Fr : Nat → Nat → Prop} (h : Rel g s a w ι Fr) (p : Nat → Bool) : Rel g (Go.Av.purge p s) a w ι Fr :=
 {h with
  tmp := fun t v ht => by
   rcases qGA ht with rfl | ⟨ht', _⟩
   ·exact .atom rfl (.undef _)
   ·exact h.tmp t v ht'
  own := fun id blk b sz m hl hi => by
   obtain ⟨_, b', hb', rfl⟩ := q3R hl
   have := h.own id b' b sz m hb' hi
   exact ⟨this.1.clear p, this.2⟩
  nob := fun id blk hl hi => by
   obtain ⟨_, b', hb', rfl⟩ := q3R hl
   obtain ⟨sz, hh, te, rfl⟩ := h.nob id b' hb' hi
   exact ⟨sz, hh, te, rfl⟩
  inj := fun id id' blk blk' r r' h1 h2 => by
   obtain ⟨_, b1, hb1, _⟩ := q3R h1
   obtain ⟨_, b2, hb2, _⟩ := q3R h2
   exact h.inj id id' b1 b2 r r' hb1 hb2
  fr := fun t b hb => ⟨(h.fr t b hb).1, (h.fr t b hb).2.1, fun id blk r hl => by
   obtain ⟨_, b', hb', _⟩ := q3R hl
   exact (h.fr t b hb).2.2 id b' r hb'⟩ }
theorem Rel.only {g : G} {s : AS} {a : Act} {w : World} {ι : q0x} {Fr : Nat → Nat → Prop} (h : Rel g s a w ι Fr) (keep : List Nat) : Rel g (s.only keep) a w ι Fr :=
 h.less (fun t v ht => by
  have ht' : lk (s.T.filter fun e => mem e.1 keep) t = some v := ht
  rw [q7u (fun k => mem k keep)] at ht'
  split at ht'
  ·exact ht'
  ·simp at ht') fun _ _ hl => hl
theorem qD8 {K : Prop} : ∀ {l : List Prop}, obs l K → (∀ p ∈ l, p) ∧ K
 | [], h => ⟨fun _ hp => by simp at hp, h⟩
 | p :: r, h => by
  obtain ⟨h1, h2⟩ := h
  obtain ⟨h3, h4⟩ := qD8 (l := r) h2
  exact ⟨fun q hq => by
   rcases List.mem_cons.1 hq with rfl | hq
   ·exact h1
   ·exact h3 q hq, h4⟩
theorem qAR {Q : Exit → Act → World → Prop} {ops : Array Oper} (i n : Nat) (a : Act) (w : World) :
  wpOps P ops Q (List.range' i (n + 1)) a w = match ops[i]? with
   | none => wpOps P ops Q (List.range' (i + 1) n) a w
   | some o => if Region.wanted o (yielded ops a.tmps) then o.wp P a w (wpOps P ops Q (List.range' (i + 1) n)) Q ∨ (o.asks P a w ∧ LetsOut Q)
    else wpOps P ops Q (List.range' (i + 1) n) (a.put o.dst undef) w := by
 rw [List.range'_succ]
 rfl
include hT hD in
theorem qAp {g : G} (hnt : cx.nt = g.nt) {ops : List Oper} {K : AS → List Ef → Prop} {Q : Exit → Act → World → Prop} (hK : ∀ s' es' a w ι Fr, K s' es' → Rel g s' a w ι Fr → Q .normal a w) :
  ∀ (r pre : List Oper), ops = pre ++ r → ∀ (s : AS) (es : List Ef) (a : Act) (w : World) (ι : q0x) (Fr : Nat → Nat → Prop), Rel g s a w ι Fr → (∀ id, q22 (q25 cx.nt r) id = true → q0l s id) →
   qCM cx ops r s es K → wpOps P ops.toArray Q (List.range' pre.length r.length) a w
 | [], pre, _, s, es, a, w, ι, Fr, h, _, hr => hK _ _ _ _ _ _ hr h
 | o :: r, pre, hops, s, es, a, w, ι, Fr, h, hf, hr => by
  have ho : ops.toArray[pre.length]? = some o := by subst hops; simp
  rw [List.length_cons, qAR, ho]
  simp only [qCM] at hr
  split at hr
  ·rename_i e he
   split at hr
   ·rename_i hoff
    obtain ⟨hob, hr⟩ := qD8 hr
    replace hr := qDp hr
    have hnames : ∀ id, q22 (q25 cx.nt r) id = true → id ∉ e.names := by
     intro id hid hm
     have := (List.all_eq_true.1 hoff) id hm
     rw [hid] at this; simp at this
    have hfr : ∀ id, id / 64 = qK6 cx.nt o + 1 → q0l s id := fun id hid => hf id (by unfold q22 q25 mem; simp [hid])
    have hnext : ∀ a' w' ι' Fr', Rel g (s.app o.dst e) a' w' ι' Fr' → wpOps P ops.toArray Q (List.range' (pre.length + 1) r.length) a' w' := by
     intro a' w' ι' Fr' h'
     have := qAp hnt hK r (pre ++ [o]) (by simp [hops]) (s.app o.dst e) (e :: es) a' w' ι' Fr' h' (fun id hid => (hf id (by
      unfold q22 q25 mem
      have : mem (id / 64) (q25 cx.nt r) = true := hid
      simp [this])).app (hnames id hid)) hr
     simpa using this
    have := qDb hT hD h (ops := ops) hnt hfr he hob (next := wpOps P ops.toArray Q (List.range' (pre.length + 1) r.length)) (Q := Q) hnext
    simp only []
    split
    ·rename_i hw
     rw [hw, if_pos rfl] at this
     exact .inl this
    ·rename_i hw
     rw [if_neg hw] at this
     exact this
   ·exact hr.elim
  ·exact hr.elim
end
theorem qEm {cx : Cx} {S : List (Nat × Blk)} {d : Nat} {ρ ρ' : Operand → V} {op : Op} (h : ∀ x ∈ q0y op, ρ' x = ρ x) : q1D cx S d ρ' op = q1D cx S d ρ op := by
 have pairs : ∀ ps : Array (Nat × Operand), (∀ x ∈ ps.toList.map (·.2), ρ' x = ρ x) → (ps.toList.map fun p => (p.1, ρ' p.2)) = ps.toList.map fun p => (p.1, ρ p.2) := by
  intro ps hp
  refine List.map_congr_left fun p hm => ?_
  rw [hp p.2 (List.mem_map.2 ⟨p, hm, rfl⟩)]
 have lst : ∀ l : List Operand, (∀ x ∈ l, ρ' x = ρ x) → l.map ρ' = l.map ρ := fun l hl => List.map_congr_left fun x hx => hl x hx
 have opt : ∀ o : Option Operand, (∀ x ∈ q9P o, ρ' x = ρ x) → o.map ρ' = o.map ρ := by
  intro o ho
  cases o with
  | none => rfl
  | some x => simp only [Option.map_some]; rw [ho x (by simp [q9P])]
 cases op with
 | move x => simp only [q1D]; rw [h x (by simp [q0y])]
 | assign x => simp only [q1D]; rw [h x (by simp [q0y])]
 | box e x => simp only [q1D]; rw [h x (by simp [q0y])]
 | build t ps => simp only [q1D]; rw [pairs ps h]
 | buildSlice t n ps => simp only [q1D]; rw [pairs ps h]
 | load t x => simp only [q1D]; rw [h x (by simp [q0y])]
 | store t x y => simp only [q1D]; rw [h x (by simp [q0y]), h y (by simp [q0y])]
 | nilCheck x => simp only [q1D]; rw [h x (by simp [q0y])]
 | binOp o t x y u => simp only [q1D]; rw [h x (by simp [q0y]), h y (by simp [q0y])]
 | unOp o t x => simp only [q1D]; rw [h x (by simp [q0y])]
 | convert s t x => simp only [q1D]; rw [h x (by simp [q0y])]
 | makeFunc fn first caps =>
  have h2 := lst caps.toList fun x hx => h x (by simp only [q0y]; exact List.mem_append.2 (.inr hx))
  cases fn <;> simp only [q1D]
  split <;> first | rfl | rw [h2]
 | makeSlice t x y => simp only [q1D]; rw [h x (by simp [q0y]), h y (by simp [q0y])]
 | slice t x lo hi mx =>
  simp only [q1D]
  rw [h x (by simp [q0y]), opt lo fun x hx => h x (by simp [q0y, hx]), opt hi fun x hx => h x (by simp [q0y, hx]), opt mx fun x hx => h x (by simp [q0y, hx])]
 | fieldAddr s x f => simp only [q1D]; rw [h x (by simp [q0y])]
 | field s x f => simp only [q1D]; rw [h x (by simp [q0y])]
 | indexAddr t x i => simp only [q1D]; rw [h x (by simp [q0y]), h i (by simp [q0y])]
 | index t x i => simp only [q1D]; rw [h x (by simp [q0y]), h i (by simp [q0y])]
 | makeMap t r => cases r <;> rfl
 | lookup t x i c => simp only [q1D]; rw [h x (by simp [q0y]), h i (by simp [q0y])]
 | mapUpdate t x i v => simp only [q1D]; rw [h x (by simp [q0y]), h i (by simp [q0y]), h v (by simp [q0y])]
 | extract x i => simp only [q1D]; rw [h x (by simp [q0y])]
 | call c =>
  have hargs : ∀ x ∈ c.args.toList, ρ' x = ρ x := fun x hx => h x (by simp only [q0y]; exact List.mem_append.2 (.inr hx))
  simp only [q1D]
  split
  ·split
   ·rename_i x t rest e1 _; rw [hargs x (by rw [e1]; simp)]
   ·rfl
  ·split
   ·rename_i x y t u rest e1 _; rw [hargs x (by rw [e1]; simp), hargs y (by rw [e1]; simp)]
   ·rfl
  ·split
   ·rename_i x t rest e1 _; rw [hargs x (by rw [e1]; simp)]
   ·rfl
  ·split
   ·rename_i x y t u rest e1 _; rw [hargs x (by rw [e1]; simp), hargs y (by rw [e1]; simp)]
   ·rfl
  ·split
   ·rename_i x t rest e1 _; rw [hargs x (by rw [e1]; simp)]
   ·rfl
  ·split
   ·rename_i x r e1
    rw [hargs x (by rw [e1]; simp), lst r fun y hy => hargs y (by rw [e1]; simp [hy])]
   ·rfl
  ·split
   ·rename_i x r e1
    rw [hargs x (by rw [e1]; simp), lst r fun y hy => hargs y (by rw [e1]; simp [hy])]
   ·rfl
  ·rename_i f hcal
   rw [h f (by simp only [q0y, hcal, qH2]; exact List.mem_append.2 (.inl (by simp))), lst _ hargs]
  ·rfl
 | _ => rfl
section
variable {S S' : List (Nat × Blk)}
theorem qCC {t : Nat} {v : V} (h : ∀ id ∈ v.ids, lk S' id = lk S id) : q4p S' t v = q4p S t v := by
 cases v with
 | osl id n => simp only [q4p]; rw [h id (by simp [V.ids])]
 | _ => rfl
theorem q7q {c : V} {cs : List V} (hc : c ∈ cs) {id : Nat} (hid : id ∈ c.ids) : id ∈ V.idsL cs := by
 induction cs with
 | nil => simp at hc
 | cons x r ih =>
  simp only [V.idsL, List.mem_append]
  rcases List.mem_cons.1 hc with rfl | hc
  ·exact .inl hid
  ·exact .inr (ih hc)
theorem qGE {t : Nat} {v : V} (h : ∀ id ∈ v.ids, lk S' id = lk S id) : frz S' t v = frz S t v := by
 cases v with
 | agg cs => simp only [frz]; rw [List.map_congr_left fun c hc => qCC (fun id hid => h id (q7q hc hid))]
 | osl id n => exact qCC h
 | _ => rfl
theorem qHG {ti : TI} {a : V} {e : Ef} (h : q9h S ti a = some e) (hr : ∀ id ∈ e.rd, lk S' id = lk S id) : q9h S' ti a = some e := by
 cases a with
 | oref id i off =>
  have hm : id ∈ e.rd := by
   simp only [q9h] at h
   split at h
   ·split at h
    ·simp only [Option.some.injEq] at h; subst h; simp
    ·simp at h
   ·split at h
    ·simp only [Option.some.injEq] at h; subst h; simp
    ·simp at h
   ·simp at h
  simp only [q9h] at h ⊢
  rw [hr id hm]; exact h
 | _ => exact h
theorem qEf {ti : TI} {a x : V} {e : Ef} (h : q9U S ti a x = some e) (hr : ∀ id ∈ e.rd, lk S' id = lk S id) : q9U S' ti a x = some e := by
 cases a with
 | oref id i off =>
  cases hb : Nat.beq x.cells.length ti.size && q65 x with
  | false => simp only [q9U, hb] at h; simp at h
  | true =>
   simp only [q9U, hb] at h ⊢
   cases hl : lk S id with
   | none => rw [hl] at h; simp at h
   | some b =>
    rw [hl] at h
    cases b with
    | mp => simp at h
    | box cs =>
     have hm : id ∈ e.rd := by
      simp only [] at h
      split at h
      ·simp only [Option.some.injEq] at h; subst h; simp
      ·simp at h
     rw [hr id hm, hl]; exact h
    | arr sz n g te =>
     have hm : id ∈ e.rd ∧ ∀ k ∈ x.ids, k ∈ e.rd := by
      simp only [] at h
      split at h
      ·simp only [Option.some.injEq] at h; subst h; exact ⟨by simp, fun k hk => by simp [hk]⟩
      ·simp at h
     rw [hr id hm.1, hl]
     simp only []
     rw [qGE fun k hk => hr k (hm.2 k hk)]
     exact h
 | _ => simp [q9U] at h
theorem q9j {tt : TT} {t : Nat} {x i : V} {e : Ef} (h : q2e tt S t x i = some e) (hr : ∀ id ∈ e.rd, lk S' id = lk S id) : q2e tt S' t x i = some e := by
 cases hti : q1k tt t with
 | none => simp [q2e, hti] at h
 | some ti =>
  cases x with
  | osl id n =>
   cases i with
   | int k j =>
    simp only [q2e, hti] at h ⊢
    have hm : id ∈ e.rd := by
     split at h
     ·split at h
      ·simp only [Option.some.injEq] at h; subst h; simp
      ·simp at h
     ·simp at h
    rw [hr id hm]; exact h
   | _ => simp [q2e, hti] at h
  | sl n g tg => cases i <;> (simp only [q2e, hti] at h ⊢; exact h)
  | _ => simp [q2e, hti] at h
theorem q79 {size te : Nat} : ∀ {parts : List (Nat × V)} {es : List V}, (∀ id ∈ parts.flatMap fun p => p.2.ids, lk S' id = lk S id) → q53 size te S' es parts = q53 size te S es parts
 | [], _, _ => rfl
 | (i, x) :: r, es, h => by
  have e1 : frz S' te x = frz S te x := qGE fun id hid => h id (by simp [hid])
  simp only [q53, e1]
  split
  ·exact q79 fun id hid => h id (by simp only [List.flatMap_cons, List.mem_append]; exact .inr hid)
  ·rfl
theorem q9A {tt : TT} {site t len : Nat} {parts : List (Nat × V)} {e : Ef} (h : q3t tt S site t len parts = some e) (hr : ∀ id ∈ e.rd, lk S' id = lk S id) :
  q3t tt S' site t len parts = some e := by
 unfold q3t at h ⊢
 split at h
 ·rename_i ti h1
  split at h
  ·have hrd : e.rd = parts.flatMap fun p => p.2.ids := by
    split at h
    ·simp only [Option.some.injEq] at h; subst h; rfl
    ·simp at h
   rw [q79 fun id hid => hr id (by rw [hrd]; exact hid)]
   exact h
  ·simp at h
 ·simp at h
theorem q90 {x : V} {m : Nat} {h : Nat → V} {th : Nat} {rd : List Nat} (hs : qBo S x = some (m, h, th, rd)) (hr : ∀ id ∈ rd, lk S' id = lk S id) : qBo S' x = some (m, h, th, rd) := by
 cases x with
 | osl id n =>
  have hm : id ∈ rd := by
   simp only [qBo] at hs
   split at hs
   ·simp only [Option.some.injEq, Prod.mk.injEq] at hs; rw [← hs.2.2.2]; simp
   ·simp at hs
  simp only [qBo] at hs ⊢
  rw [hr id hm]; exact hs
 | _ => exact hs
theorem qDh {tt : TT} {site t : Nat} {s x : V} {e : Ef} (h : q6E tt S site t s x = some e) (hr : ∀ id ∈ e.rd, lk S' id = lk S id) : q6E tt S' site t s x = some e := by
 unfold q6E at h ⊢
 cases hti : q1k tt t with
 | none => rw [hti] at h; simp at h
 | some ti =>
  cases hx : qBo S x with
  | none => rw [hti, hx] at h; simp at h
  | some q =>
   obtain ⟨m, f, th, rd⟩ := q
   rw [hti, hx] at h
   simp only [] at h
   have hrd : ∀ id ∈ rd, id ∈ e.rd := by
    intro id hid
    split at h
    ·split at h
     ·simp only [Option.some.injEq] at h; subst h; exact hid
     ·split at h
      ·split at h
       ·split at h
        ·simp only [Option.some.injEq] at h; subst h; exact List.mem_cons_of_mem _ hid
        ·simp at h
       ·simp at h
      ·simp at h
     ·simp at h
    ·simp at h
   rw [q90 hx fun id hid => hr id (hrd id hid)]
   simp only []
   cases s with
   | osl id n =>
    have hm : id ∈ e.rd := by
     split at h
     ·simp only [] at h
      split at h
      ·split at h
       ·split at h
        ·simp only [Option.some.injEq] at h; subst h; simp
        ·simp at h
       ·simp at h
      ·simp at h
     ·simp at h
    simp only [] at h ⊢
    rw [hr id hm]; exact h
   | _ => exact h
theorem qEG {tt : TT} {site t : Nat} {s x : V} {e : Ef} (h : q5t tt S site t s x = some e) (hr : ∀ id ∈ e.rd, lk S' id = lk S id) : q5t tt S' site t s x = some e := by
 unfold q5t at h ⊢
 cases hti : q1k tt t with
 | none => rw [hti] at h; simp at h
 | some ti =>
  cases hx : qBo S x with
  | none => rw [hti, hx] at h; simp at h
  | some q =>
   obtain ⟨m, f, th, rd⟩ := q
   rw [hti, hx] at h
   simp only [] at h
   have hrd : ∀ id ∈ rd, id ∈ e.rd := by
    intro id hid
    split at h
    ·split at h
     ·simp only [Option.some.injEq] at h; subst h; exact hid
     ·split at h
      ·split at h
       ·split at h
        ·simp only [Option.some.injEq] at h; subst h; exact List.mem_cons_of_mem _ hid
        ·simp at h
       ·simp at h
      ·simp at h
     ·simp at h
    ·simp at h
   rw [q90 hx fun id hid => hr id (hrd id hid)]
   simp only []
   cases s with
   | osl id n =>
    have hm : id ∈ e.rd := by
     split at h
     ·simp only [] at h
      split at h
      ·split at h
       ·split at h
        ·simp only [Option.some.injEq] at h; subst h; simp
        ·simp at h
       ·simp at h
      ·simp at h
     ·simp at h
    simp only [] at h ⊢
    rw [hr id hm]; exact h
   | _ => exact h
theorem qC1 {x : V} {m th : Nat} {f : Nat → V} {rd : List Nat} (hs : qKc S x = some (m, f, th, rd)) (hr : ∀ id ∈ rd, lk S' id = lk S id) : qKc S' x = some (m, f, th, rd) := by
 cases x with
 | oss id lo n c e =>
  have hm : id ∈ rd := by
   simp only [qKc] at hs
   split at hs
   ·simp only [Option.some.injEq, Prod.mk.injEq] at hs; rw [← hs.2.2.2]; simp
   ·simp at hs
  simp only [qKc] at hs ⊢
  rw [hr id hm]; exact hs
 | _ =>
  simp only [qKc] at hs ⊢
  exact q90 hs hr
theorem qGm {tt : TT} {t : Nat} {x y : V} {e : Ef} (h : qJf tt S t x y = some e) (hr : ∀ id ∈ e.rd, lk S' id = lk S id) : qJf tt S' t x y = some e := by
 unfold qJf at h ⊢
 split at h
 ·rename_i ti id lo n m H th rd hti hp hs
  split at h
  ·rename_i sz k g te hl
   split at h
   ·rename_i hb
    simp only [Option.some.injEq] at h
    subst h
    have h1 : lk S' id = lk S id := hr id (List.mem_cons_self ..)
    simp only [hti, hp, qC1 hs (fun id hid => hr id (List.mem_cons_of_mem _ hid)), h1, hl, hb]
   ·simp at h
  ·simp at h
 ·simp at h
theorem qFW {tt : TT} {t : Nat} {x : V} {e : Ef} (h : qCN tt S t x = some e) (hr : ∀ id ∈ e.rd, lk S' id = lk S id) : qCN tt S' t x = some e := by
 unfold qCN at h ⊢
 split at h
 ·rename_i ti id lo n hti hp
  split at h
  ·rename_i sz k g te hl
   split at h
   ·rename_i hb
    simp only [Option.some.injEq] at h
    subst h
    have h1 : lk S' id = lk S id := hr id (List.mem_cons_self ..)
    simp only [hti, hp, h1, hl, hb]
   ·simp at h
  ·simp at h
 ·simp at h
theorem qFb {tt : TT} {t : Nat} {x : V} {lo hi mx : Option V} {e : Ef} (h : qCx tt S t x lo hi mx = some e) (hr : ∀ id ∈ e.rd, lk S' id = lk S id) : qCx tt S' t x lo hi mx = some e := by
 unfold qCx at h ⊢
 split at h
 ·rename_i id n l hi' b1 b2
  split at h
  ·rename_i ti sz m F te hti hl
   split at h
   ·rename_i hb
    simp only [Option.some.injEq] at h
    subst h
    have h1 : lk S' id = lk S id := hr id (List.mem_cons_self ..)
    simp only [b1, b2, hti, h1, hl, hb]
   ·simp at h
  ·simp at h
 ·rename_i id o n c ee l hi' b1 b2
  split at h
  ·rename_i ti sz m F te hti hl
   split at h
   ·rename_i hb
    simp only [Option.some.injEq] at h
    subst h
    have h1 : lk S' id = lk S id := hr id (List.mem_cons_self ..)
    simp only [b1, b2, hti, h1, hl, hb]
   ·simp at h
  ·simp at h
 ·exact h
 ·exact h
theorem qDa {tt : TT} {site t : Nat} {s x : V} {e : Ef} (h : q6f tt S site t s x = some e) (hr : ∀ id ∈ e.rd, lk S' id = lk S id) : q6f tt S' site t s x = some e := by
 cases s with
 | oss id o n c ee =>
  simp only [q6f] at h ⊢
  split at h
  ·exact qEG h hr
  ·split at h
   ·rename_i ti m H th rd sz k g te hti hs hl
    split at h
    ·rename_i hb
     simp only [Option.some.injEq] at h
     subst h
     have h1 : lk S' id = lk S id := hr id (List.mem_cons_self ..)
     simp only [hti, qC1 hs (fun id hid => hr id (List.mem_cons_of_mem _ hid)), h1, hl, hb]
    ·simp at h
   ·simp at h
  ·simp at h
 | _ =>
  simp only [q6f] at h ⊢
  exact qDh h hr
theorem qDn {tt : TT} {site t : Nat} {s x : V} {e : Ef} (h : q8d tt S site t s x = some e) (hr : ∀ id ∈ e.rd, lk S' id = lk S id) : q8d tt S' site t s x = some e := by
 unfold q8d at h ⊢
 split at h
 ·rename_i ti id o n c k m hti
  split at h
  ·rename_i sz k g te hl hb
   split at h
   ·rename_i hb2
    simp only [Option.some.injEq] at h
    subst h
    have h1 : lk S' id = lk S id := hr id (List.mem_cons_self ..)
    simp only [hti, h1, hl, hb, hb2]
   ·simp at h
  ·simp at h
 ·simp at h
theorem q8t : ∀ {ids : List Nat}, (∀ id ∈ ids, lk S' id = lk S id) → qP4 S' ids = qP4 S ids
 | [], _ => rfl
 | id :: r, h => by
  simp only [qP4]
  rw [h id (List.mem_cons_self ..), q8t fun k hk => h k (List.mem_cons_of_mem _ hk)]
theorem qGz {cx : Cx} {d f : Nat} {args : List V} {e : Ef} (h : qJY cx S d f args = some e) (hr : ∀ id ∈ e.rd, lk S' id = lk S id) : qJY cx S' d f args = some e := by
 unfold qJY at h ⊢
 cases hD : cx.D f with
 | none => rw [hD] at h; simp at h
 | some q =>
  obtain ⟨io, D⟩ := q
  rw [hD] at h
  cases io with
  | ro =>
   simp only [] at h ⊢
   have hrd : e.rd = q2N S args := by
    split at h
    ·split at h
     ·simp only [Option.some.injEq] at h; subst h; rfl
     ·simp only [Option.some.injEq] at h; subst h; rfl
     ·simp at h
    ·simp at h
   rw [hrd] at hr
   have h1 : ∀ id ∈ V.idsL args, lk S' id = lk S id := fun id hid => hr id (by unfold q2N; exact List.mem_append.2 (.inl hid))
   have h2 : ∀ id ∈ V.idsL args, ∀ b, lk S id = some b → ∀ k ∈ b.ids, lk S' k = lk S k := fun id hid b hb k hk =>
    hr k (by unfold q2N; refine List.mem_append.2 (.inr (List.mem_flatMap.2 ⟨id, hid, ?_⟩)); rw [hb]; exact hk)
   have e1 : args.map (qH0 S') = args.map (qH0 S) := List.map_congr_left fun v hv => q9F (fun k hk => h1 k (q7q hv hk)) fun k hk => h2 k (q7q hv hk)
   have e2 : q2N S' args = q2N S args := by
    unfold q2N
    congr 1
    rw [List.flatMap_def, List.flatMap_def, List.map_congr_left fun k hk => by rw [h1 k hk]]
   rw [e1, e2]; exact h
  | mv =>
   simp only [] at h ⊢
   have hrd : e.rd = q63 (V.idsL (args.filter qD2)) ++ q2N S args := by
    split at h
    ·split at h
     ·split at h
      ·simp only [Option.some.injEq] at h; subst h; rfl
      ·simp at h
     ·simp at h
    ·simp at h
   rw [hrd] at hr
   have h0 : ∀ id ∈ q63 (V.idsL (args.filter qD2)), lk S' id = lk S id := fun id hid => hr id (List.mem_append.2 (.inl hid))
   have h1 : ∀ id ∈ V.idsL args, lk S' id = lk S id := fun id hid => hr id (List.mem_append.2 (.inr (by unfold q2N; exact List.mem_append.2 (.inl hid))))
   have h2 : ∀ id ∈ V.idsL args, ∀ b, lk S id = some b → ∀ k ∈ b.ids, lk S' k = lk S k := fun id hid b hb k hk =>
    hr k (List.mem_append.2 (.inr (by unfold q2N; refine List.mem_append.2 (.inr (List.mem_flatMap.2 ⟨id, hid, ?_⟩)); rw [hb]; exact hk)))
   have e2 : q2N S' args = q2N S args := by
    unfold q2N
    congr 1
    rw [List.flatMap_def, List.flatMap_def, List.map_congr_left fun k hk => by rw [h1 k hk]]
   have e3 : ∀ ids : List Nat, args.map (mvA (q0Q S' (ids.map fun id => (id, none))) ids) = args.map (mvA (q0Q S (ids.map fun id => (id, none))) ids) := fun ids =>
    List.map_congr_left fun v hv => by
     have hl : qH0 (q0Q S' (ids.map fun id => (id, none))) v = qH0 (q0Q S (ids.map fun id => (id, none))) v :=
      q9F (fun k hk => by rw [q1v, q1v, h1 k (q7q hv hk)]) fun k hk b hb k2 hk2 => by
       rw [q1v, q1v]
       rw [q1v] at hb
       by_cases e : k ∈ ids
       ·simp [e] at hb
       ·simp only [e, if_false] at hb
        rw [h2 k (q7q hv hk) b hb k2 hk2]
     cases v <;> first | rfl | exact hl
   rw [q8t h0, e2, e3]
   exact h
  | rw =>
   simp only [] at h ⊢
   have hrd : e.rd = q63 (V.idsL args) := by
    split at h
    ·split at h
     ·split at h
      ·simp only [Option.some.injEq] at h; subst h; rfl
      ·simp at h
     ·simp at h
    ·simp at h
   rw [q8t fun id hid => hr id (by rw [hrd]; exact hid)]
   exact h
theorem qD6 {tt : TT} {t : Nat} {x ix : V} {c : Bool} {e : Ef} (h : q8u tt S t x ix c = some e) (hr : ∀ id ∈ e.rd, lk S' id = lk S id) : q8u tt S' t x ix c = some e := by
 unfold q8u at h ⊢
 split at h
 ·rename_i ti id k n hti
  have hm : id ∈ e.rd := by
   split at h
   ·split at h
    ·simp only [Option.some.injEq] at h; subst h; simp
    ·simp at h
   ·simp at h
  rw [hr id hm]; exact h
 ·simp at h
theorem q9e {tt : TT} {t : Nat} {x ix v : V} {e : Ef} (h : q4R tt S t x ix v = some e) (hr : ∀ id ∈ e.rd, lk S' id = lk S id) : q4R tt S' t x ix v = some e := by
 unfold q4R at h ⊢
 split at h
 ·rename_i ti id k n hti
  have hm : id ∈ e.rd := by
   split at h
   ·simp only [Option.some.injEq] at h; subst h; simp
   ·simp at h
  rw [hr id hm]; exact h
 ·simp at h
theorem qHH {tt : TT} {src dst : Nat} {x : V} {e : Ef} (h : qJH tt S src dst x = some e) (hr : ∀ id ∈ e.rd, lk S' id = lk S id) : qJH tt S' src dst x = some e := by
 unfold qJH at h ⊢
 cases x with
 | osl id n =>
  simp only at h ⊢
  have hm : id ∈ e.rd := by
   split at h
   ·split at h
    ·simp only [Option.some.injEq] at h; subst h; simp
    ·simp at h
   ·simp at h
  rw [hr id hm]; exact h
 | _ => exact h
theorem qFy {cx : Cx} {d : Nat} {ρ : Operand → V} {op : Op} {e : Ef} (h : q1D cx S d ρ op = some e) (hr : ∀ id ∈ e.rd, lk S' id = lk S id) : q1D cx S' d ρ op = some e := by
 cases op with
 | buildSlice t n ps => exact q9A h hr
 | load t x =>
  simp only [q1D] at h ⊢
  split at h
  ·exact qHG h hr
  ·simp at h
 | store t x y =>
  simp only [q1D] at h ⊢
  split at h
  ·exact qEf h hr
  ·simp at h
 | indexAddr t x i => exact q9j h hr
 | slice t x lo hi mx => exact qFb h hr
 | convert a b x => exact qHH h hr
 | makeMap t r => cases r <;> exact h
 | lookup t x i c => exact qD6 h hr
 | mapUpdate t x i v => exact q9e h hr
 | call c =>
  simp only [q1D] at h ⊢
  split at h
  ·exact h
  ·split at h
   ·split at h
    ·exact qDa h hr
    ·split at h
     ·exact qDn h hr
     ·simp at h
   ·simp at h
  ·exact h
  ·split at h
   ·split at h
    ·exact qGm h hr
    ·simp at h
   ·simp at h
  ·split at h
   ·exact qFW h hr
   ·simp at h
  ·exact h
  ·exact h
  ·split at h
   ·exact qGz h hr
   ·simp at h
  ·simp at h
 | makeFunc fn first caps => cases fn <;> exact h
 | _ => exact h
end
theorem q6k {s s' : AS} {x : Operand} (h : ∀ t, x = .tmp t → lk s'.T t = lk s.T t) : q1T s' x = q1T s x := by
 cases x with
 | tmp t => simp only [q1T]; rw [h t rfl]
 | _ => rfl
theorem qAB {cx : Cx} {s s' : AS} {gd : Bool} {d : Nat} {op : Op} {e : Ef} (h : opE cx s gd d op = some e)
  (hT : ∀ t, .tmp t ∈ qGo op → lk s'.T t = lk s.T t) (hS : ∀ id ∈ e.rd, lk s'.S id = lk s.S id) : opE cx s' gd d op = some e := by
 have key : (∃ c x y, op = .pick c x y) ∨ (qGo op = q0y op ∧ ∀ s : AS, opE cx s gd d op = qK1 ((q0y op).flatMap fun x => qA9 gd (q1T s x)) (q1D cx s.S d (fun x => q0v (q1T s x)) op)) := by
  cases op <;> first | exact .inl ⟨_, _, _, rfl⟩ | exact .inr ⟨rfl, fun _ => rfl⟩
 rcases key with ⟨c, x, y, rfl⟩ | ⟨hk, key⟩
 ·have h1 : q1T s' c = q1T s c := q6k fun t ht => hT t (by simp [qGo, ht])
  have h2 : q1T s' x = q1T s x := q6k fun t ht => hT t (by simp [qGo, ht])
  have h3 : q1T s' y = q1T s y := q6k fun t ht => hT t (by simp [qGo, ht])
  simp only [opE] at h ⊢
  rw [h1, h2, h3]; exact h
 ·rw [hk] at hT
  rw [key] at h ⊢
  have ha : ∀ x ∈ q0y op, q1T s' x = q1T s x := fun x hx => q6k fun t ht => hT t (ht ▸ hx)
  have e1 : ((q0y op).flatMap fun x => qA9 gd (q1T s' x)) = (q0y op).flatMap fun x => qA9 gd (q1T s x) := by
   rw [List.flatMap_def, List.flatMap_def, List.map_congr_left fun x hx => by rw [ha x hx]]
  rw [e1]
  obtain ⟨e', he', rfl⟩ := q95 h
  rw [qEm (ρ := fun x => q0v (q1T s x)) fun x hx => by rw [ha x hx], qFy he' hS]
  rfl
theorem qGL {cx : Cx} {ops : List Oper} {s s' : AS} {o : Oper} {e : Ef} (h : qBj cx ops s o = some e) (hT : ∀ t ∈ q7Z ops o, lk s'.T t = lk s.T t) (hS : ∀ id ∈ e.rd, lk s'.S id = lk s.S id) :
  qBj cx ops s' o = some e := by
 have hop : ∀ t, .tmp t ∈ qGo o.op → lk s'.T t = lk s.T t := by
  intro t ht
  refine hT t ?_
  unfold q7Z
  refine List.mem_append.2 (.inl ?_)
  unfold qQJ
  exact List.mem_filterMap.2 ⟨_, ht, rfl⟩
 have hgd : q7c ops s' o = q7c ops s o := by
  unfold q7c
  cases hg : o.guard with
  | none => rfl
  | some jw =>
   obtain ⟨j, want⟩ := jw
   simp only []
   cases hj : ops[j]? with
   | none => rfl
   | some oj =>
    simp only []
    cases ht : oj.dst with
    | none => rfl
    | some t =>
     simp only []
     rw [hT t (by unfold q7Z; refine List.mem_append.2 (.inr ?_); rw [hg]; simp [hj, ht])]
 unfold qBj at h ⊢
 rw [hgd]
 split at h
 ·exact qAB h hop hS
 ·rename_i gd hg hd
  split at h
  ·rename_i v rd ob he
   simp only [Option.some.injEq] at h
   subst h
   rw [qAB he hop hS]
  ·rename_i v id new rd ob he
   split at h
   ·rename_i old hold
    split at h
    ·rename_i m ps hmerge
     simp only [Option.some.injEq] at h
     subst h
     rw [qAB he hop fun k hk => hS k (List.mem_cons_of_mem _ hk)]
     simp only []
     rw [hS id (List.mem_cons_self ..), hold]
     simp only []
     rw [hmerge]
    ·simp at h
   ·simp at h
  ·simp at h
 ·simp at h
def qEM (s s' : AS) : Prop := (∀ t, lk s.T t = lk s'.T t) ∧ ∀ id, lk s.S id = lk s'.S id
theorem qEM.rfl' {s : AS} : qEM s s := ⟨fun _ => rfl, fun _ => rfl⟩
theorem qEM.trans {s s' s'' : AS} (h : qEM s s') (h' : qEM s' s'') : qEM s s'' := ⟨fun t => (h.1 t).trans (h'.1 t), fun t => (h.2 t).trans (h'.2 t)⟩
theorem qEM.symm {s s' : AS} (h : qEM s s') : qEM s' s := ⟨fun t => (h.1 t).symm, fun t => (h.2 t).symm⟩
theorem q2M {upd : List (Nat × Option Blk)} : ∀ {S S' : List (Nat × Blk)} {id : Nat}, lk S id = lk S' id → lk (q0Q S upd) id = lk (q0Q S' upd) id := by
 induction upd with
 | nil => intro S S' id h; exact h
 | cons p r ih =>
  intro S S' id h
  obtain ⟨k, b⟩ := p
  cases b with
  | none => exact ih (by rw [q5x, q5x, h])
  | some b => exact ih (by rw [q1J, q1J, h])
theorem qBg {upd : List (Nat × Option Blk)} : ∀ {S S' : List (Nat × Blk)} {id : Nat}, (∃ p ∈ upd, p.1 = id) → lk (q0Q S upd) id = lk (q0Q S' upd) id := by
 induction upd with
 | nil => rintro S S' id ⟨p, hp, _⟩; simp at hp
 | cons q r ih =>
  intro S S' id h
  obtain ⟨k, b⟩ := q
  by_cases hk : id = k
  ·cases b with
   | none => exact q2M (S := del S k) (S' := del S' k) (by rw [q5x, q5x]; simp [hk])
   | some b => exact q2M (S := put S k b) (S' := put S' k b) (by rw [q1J, q1J]; simp [hk])
  ·have hr : ∃ p ∈ r, p.1 = id := by
    obtain ⟨p, hp, he⟩ := h
    rcases List.mem_cons.1 hp with rfl | hp
    ·exact absurd he.symm hk
    ·exact ⟨p, hp, he⟩
   cases b with
   | none => exact ih hr
   | some b => exact ih hr
theorem qEM.app {s s' : AS} (h : qEM s s') (dst : Option Tmp) (e : Ef) : qEM (s.app dst e) (s'.app dst e) := by
 refine ⟨fun t => ?_, fun id => q2M (h.2 id)⟩
 cases dst with
 | none => exact h.1 t
 | some d =>
  show lk (put s.T d e.v) t = lk (put s'.T d e.v) t
  rw [q1J, q1J, h.1 t]
structure qPW (o : Oper) (e : Ef) (o' : Oper) (e' : Ef) : Prop where
 dst : ∀ d, o.dst = some d → o'.dst ≠ some d
 upd : ∀ p ∈ e.upd, ∀ q ∈ e'.upd, p.1 ≠ q.1
theorem qNw {s : AS} {o o' : Oper} {e e' : Ef} (h : qPW o e o' e') : qEM ((s.app o.dst e).app o'.dst e') ((s.app o'.dst e').app o.dst e) := by
 constructor
 ·intro t
  cases h1 : o.dst with
  | none => rfl
  | some d =>
   cases h2 : o'.dst with
   | none => rfl
   | some d' =>
    have hne : d ≠ d' := fun he => h.dst d h1 (by rw [h2, he])
    show lk (put (put s.T d e.v) d' e'.v) t = lk (put (put s.T d' e'.v) d e.v) t
    simp only [q1J]
    by_cases a : t = d' <;> by_cases b : t = d <;> simp [a, b]
    ·exact absurd (b.symm.trans a) hne
    ·intro hh; exact absurd hh.symm hne
    ·intro hh; exact absurd hh hne
 ·intro id
  show lk (q0Q (q0Q s.S e.upd) e'.upd) id = lk (q0Q (q0Q s.S e'.upd) e.upd) id
  by_cases h1 : ∃ p ∈ e.upd, p.1 = id
  ·obtain ⟨p, hp, he⟩ := h1
   rw [q2t (S := q0Q s.S e.upd) (upd := e'.upd) fun q hq hqe => h.upd p hp q hq (he.trans hqe.symm)]
   exact qBg ⟨p, hp, he⟩
  ·rw [q2t (upd := e.upd) fun p hp he => h1 ⟨p, hp, he⟩]
   exact q2M (q2t fun p hp he => h1 ⟨p, hp, he⟩)
def q2Z (D : Nat → Bool) : List (Oper × Ef) → Nat → AS → AS
 | [], _, s => s
 | p :: r, i, s => q2Z D r (i + 1) (if D i then s.app p.1.dst p.2 else s)
theorem q7f {D D' : Nat → Bool} : ∀ {L : List (Oper × Ef)} {k : Nat} {s : AS}, (∀ j, k ≤ j → j < k + L.length → D j = D' j) → q2Z D L k s = q2Z D' L k s
 | [], _, _, _ => rfl
 | p :: r, k, s, h => by
  simp only [q2Z]
  rw [h k (Nat.le_refl _) (by simp), q7f fun j h1 h2 => h j (by omega) (by simp only [List.length_cons]; omega)]
theorem qCz {D : Nat → Bool} : ∀ {L : List (Oper × Ef)} {k : Nat} {s s' : AS}, qEM s s' → qEM (q2Z D L k s) (q2Z D L k s')
 | [], _, _, _, h => h
 | p :: r, k, s, s', h => by
  simp only [q2Z]
  refine qCz ?_
  split
  ·exact h.app _ _
  ·exact h
theorem q8r {D : Nat → Bool} : ∀ {L : List (Oper × Ef)} {k : Nat} {s : AS}, (∀ j, k ≤ j → D j = false) → q2Z D L k s = s
 | [], _, _, _ => rfl
 | p :: r, k, s, h => by
  simp only [q2Z, h k (Nat.le_refl _)]
  exact q8r fun j hj => h j (by omega)
theorem q7U {D : Nat → Bool} : ∀ {L : List (Oper × Ef)} {k : Nat} {s : AS}, q2Z D L (k + 1) s = q2Z (fun j => D (j + 1)) L k s
 | [], _, _ => rfl
 | p :: r, k, s => by simp only [q2Z]; exact q7U
theorem qCZ {D : Nat → Bool} {o : Oper} {e : Ef} : ∀ {L : List (Oper × Ef)} {k : Nat} {s : AS}, (∀ j p, L[j]? = some p → D (k + j) = true → qPW o e p.1 p.2) →
  qEM (q2Z D L k (s.app o.dst e)) ((q2Z D L k s).app o.dst e)
 | [], _, _, _ => qEM.rfl'
 | p :: r, k, s, h => by
  have ih := fun s => qCZ (D := D) (o := o) (e := e) (L := r) (k := k + 1) (s := s) fun j q hj hd => h (j + 1) q (by simpa using hj) (by rw [← hd]; congr 1; omega)
  simp only [q2Z]
  cases hd : D k with
  | true =>
   have := qNw (s := s) (h 0 p (by simp) (by simpa using hd))
   exact (qCz this).trans (ih _)
  | false => exact ih _
theorem qFu {D : Nat → Bool} {o : Oper} {e : Ef} {i : Nat} : ∀ {L : List (Oper × Ef)} {k j : Nat} {s : AS}, i = k + j → L[j]? = some (o, e) → D i = false →
  (∀ j' p, L[j']? = some p → i < k + j' → D (k + j') = true → qPW o e p.1 p.2) → qEM (q2Z (fun x => D x || Nat.beq x i) L k s) ((q2Z D L k s).app o.dst e)
 | [], _, _, _, _, h, _, _ => by simp at h
 | p :: r, k, 0, s, hi, hp, hD, ha => by
  have hp' : p = (o, e) := by simpa using hp
  subst hp'
  have hik : i = k := by omega
  subst hik
  simp only [q2Z, hD, q0j.2 rfl, Bool.false_or, if_true, Bool.false_eq_true, if_false]
  rw [q7f (D' := D) fun j h1 _ => by rw [q0z.2 (by omega : j ≠ i)]; simp]
  exact qCZ fun j q hq hd => ha (j + 1) q (by simpa using hq) (by omega) (by rw [← hd]; congr 1; omega)
 | p :: r, k, j + 1, s, hi, hp, hD, ha => by
  have hk : Nat.beq k i = false := q0z.2 (by omega)
  simp only [q2Z, hk, Bool.or_false]
  exact qFu (j := j) (by omega) (by simpa using hp) hD fun j' q hq hlt hd => ha (j' + 1) q (by simpa using hq) (by omega) (by rw [← hd]; congr 1; omega)
theorem qMS {D D' : Nat → Bool} {t : Nat} : ∀ {L : List (Oper × Ef)} {k : Nat} {s s' : AS}, lk s.T t = lk s'.T t → (∀ j p, L[j]? = some p → D (k + j) ≠ D' (k + j) → p.1.dst ≠ some t) →
  lk (q2Z D L k s).T t = lk (q2Z D' L k s').T t
 | [], _, _, _, h, _ => h
 | p :: r, k, s, s', h, ha => by
  simp only [q2Z]
  refine qMS ?_ fun j q hq hne => ha (j + 1) q (by simpa using hq) (by rw [show k + (j + 1) = k + 1 + j by omega]; exact hne)
  have hone : ∀ s : AS, p.1.dst ≠ some t → lk (s.app p.1.dst p.2).T t = lk s.T t := by
   intro s hne
   cases hd : p.1.dst with
   | none => rfl
   | some d =>
    show lk (put s.T d p.2.v) t = lk s.T t
    rw [q1J]
    have : t ≠ d := fun e => hne (by rw [hd, e])
    simp [this]
  have hboth : lk (s.app p.1.dst p.2).T t = lk (s'.app p.1.dst p.2).T t := by
   cases hd : p.1.dst with
   | none => exact h
   | some d =>
    show lk (put s.T d p.2.v) t = lk (put s'.T d p.2.v) t
    rw [q1J, q1J, h]
  have hk := ha 0 p (by simp)
  rw [Nat.add_zero] at hk
  cases h1 : D k <;> cases h2 : D' k <;> simp only [if_true, Bool.false_eq_true, if_false]
  ·exact h
  ·rw [hone s' (hk (by rw [h1, h2]; simp))]; exact h
  ·rw [hone s (hk (by rw [h1, h2]; simp))]; exact h
  ·exact hboth
theorem qKb {D D' : Nat → Bool} {id : Nat} : ∀ {L : List (Oper × Ef)} {k : Nat} {s s' : AS}, lk s.S id = lk s'.S id → (∀ j p, L[j]? = some p → D (k + j) ≠ D' (k + j) → ∀ q ∈ p.2.upd, q.1 ≠ id) →
  lk (q2Z D L k s).S id = lk (q2Z D' L k s').S id
 | [], _, _, _, h, _ => h
 | p :: r, k, s, s', h, ha => by
  simp only [q2Z]
  refine qKb ?_ fun j q hq hne => ha (j + 1) q (by simpa using hq) (by rw [show k + (j + 1) = k + 1 + j by omega]; exact hne)
  have hone : ∀ s : AS, (∀ q ∈ p.2.upd, q.1 ≠ id) → lk (s.app p.1.dst p.2).S id = lk s.S id := fun s hne => q2t hne
  have hboth : lk (s.app p.1.dst p.2).S id = lk (s'.app p.1.dst p.2).S id := q2M h
  have hk := ha 0 p (by simp)
  rw [Nat.add_zero] at hk
  cases h1 : D k <;> cases h2 : D' k <;> simp only [if_true, Bool.false_eq_true, if_false]
  ·exact h
  ·rw [hone s' (hk (by rw [h1, h2]; simp))]; exact h
  ·rw [hone s (hk (by rw [h1, h2]; simp))]; exact h
  ·exact hboth
theorem qBW {D : Nat → Bool} {id : Nat} : ∀ {L : List (Oper × Ef)} {k : Nat} {s : AS}, q0l s id → (∀ j p, L[j]? = some p → D (k + j) = true → id ∉ p.2.names) → q0l (q2Z D L k s) id
 | [], _, _, h, _ => h
 | p :: r, k, s, h, ha => by
  simp only [q2Z]
  refine qBW ?_ fun j q hq hd => ha (j + 1) q (by simpa using hq) (by rw [← hd]; congr 1; omega)
  split
  ·rename_i hd; exact h.app (ha 0 p (by simp) (by simpa using hd))
  ·exact h
theorem q9V {cx : Cx} {ops : List Oper} {K : AS → List Ef → Prop} : ∀ {r : List Oper} {s : AS} {es : List Ef}, qCM cx ops r s es K →
  ∃ L : List (Oper × Ef), L.map (·.1) = r ∧ (∀ i p, L[i]? = some p → qBj cx ops (q2Z (fun j => decide (j < i)) L 0 s) p.1 = some p.2 ∧ (∀ q ∈ p.2.ob, q) ∧ q9w cx.nt (r.drop (i + 1)) p.2 = true) ∧
   K (q2Z (fun _ => true) L 0 s) ((L.map (·.2)).reverse ++ es)
 | [], s, es, h => ⟨[], rfl, fun i p hp => by simp at hp, h⟩
 | o :: r, s, es, h => by
  simp only [qCM] at h
  split at h
  ·rename_i e he
   split at h
   ·rename_i hoff
    obtain ⟨hob, h⟩ := qD8 h
    replace h := qDp h
    obtain ⟨L, hL, hf, hK⟩ := q9V h
    refine ⟨(o, e) :: L, by simp [hL], fun i p hp => ?_, ?_⟩
    ·cases i with
     | zero =>
      have hp' : (o, e) = p := by simpa using hp
      subst hp'
      rw [q8r fun j _ => by simp]
      exact ⟨he, hob, by simpa using hoff⟩
     | succ i =>
      have := hf i p (by simpa using hp)
      refine ⟨?_, this.2.1, by simpa using this.2.2⟩
      simp only [q2Z]
      rw [q7U]
      simp only [Nat.zero_lt_succ, decide_true, if_true, Nat.add_lt_add_iff_right]
      exact this.1
    ·simp only [q2Z, if_true]
     rw [q7U]
     simpa using hK
   ·exact h.elim
  ·exact h.elim
theorem q6c : ∀ (r : List Oper) (acc : List (List Nat)) (j : Nat), j < acc.length → (q3i r acc).getD j [] = acc.getD j []
 | [], _, _, _ => rfl
 | o :: r, acc, j, h => by
  simp only [q3i]
  rw [q6c r _ j (by simp; omega)]
  simp [List.getD, List.getElem?_append_left h]
theorem qA3 {k : Nat} : ∀ {l : List Nat}, k ∈ q63 l → k ∈ l
 | [], h => h
 | x :: r, h => by
  simp only [q63] at h
  split at h
  ·exact List.mem_cons_of_mem _ (qA3 h)
  ·rcases List.mem_cons.1 h with rfl | h
   ·exact List.mem_cons_self ..
   ·exact List.mem_cons_of_mem _ (qA3 h)
theorem q7x : ∀ {r : List Oper} {acc : List (List Nat)} {i : Nat} {o : Oper}, r[i]? = some o → ∀ k ∈ (q3i r acc).getD (acc.length + i) [],
  k ∈ q2p o ∨ ∃ j ∈ q2p o, k ∈ (q3i r acc).getD j []
 | [], _, _, _, h, _, _ => by simp at h
 | o :: r, acc, 0, o', h, k, hk => by
  have ho : o = o' := by simpa using h
  subst ho
  simp only [q3i] at hk ⊢
  rw [q6c r _ _ (by simp)] at hk
  have e1 : (acc ++ [q63 (q2p o ++ (q2p o).flatMap fun i => acc.getD i [])]).getD (acc.length + 0) [] = q63 (q2p o ++ (q2p o).flatMap fun i => acc.getD i []) := by simp [List.getD]
  rw [e1] at hk
  rcases List.mem_append.1 (qA3 hk) with hk | hk
  ·exact .inl hk
  ·obtain ⟨j, hj, hkj⟩ := List.mem_flatMap.1 hk
   refine .inr ⟨j, hj, ?_⟩
   have hlt : j < acc.length := by
    rcases Nat.lt_or_ge j acc.length with h | h
    ·exact h
    ·simp [List.getD, List.getElem?_eq_none h] at hkj
   rw [q6c r _ _ (by simp; omega)]
   simpa [List.getD, List.getElem?_append_left hlt] using hkj
 | o :: r, acc, i + 1, o', h, k, hk => by
  simp only [q3i] at hk ⊢
  refine q7x (i := i) (by simpa using h) k ?_
  have : (acc ++ [q63 (q2p o ++ (q2p o).flatMap fun i => acc.getD i [])]).length + i = acc.length + (i + 1) := by simp; omega
  rw [this]; exact hk
theorem qGv {o : Oper} {e : Edge} (he : e ∈ o.after) (hb : Region.binds .any e = true) : e.on ∈ q2p o := by
 unfold q2p
 exact List.mem_filterMap.2 ⟨e, by simpa using he, by simp [hb]⟩
theorem qFY {o : Oper} {j : Nat} (h : j ∈ q2p o) : ∃ e ∈ o.after, Region.binds .any e = true ∧ e.on = j := by
 unfold q2p at h
 obtain ⟨e, he, hj⟩ := List.mem_filterMap.1 h
 refine ⟨e, by simpa using he, ?_⟩
 cases hb : Region.binds .any e with
 | true => rw [hb] at hj; exact ⟨rfl, by simpa using hj⟩
 | false => rw [hb] at hj; simp at hj
theorem q9O : ∀ {r : List Oper} {k i : Nat} {o : Oper}, q5O r k = true → r[i]? = some o → ∀ j ∈ q2p o, j < k + i
 | [], _, _, _, _, h, _, _ => by simp at h
 | o :: r, k, 0, o', h, ho, j, hj => by
  have ho : o = o' := by simpa using ho
  subst ho
  simp only [q5O, Bool.and_eq_true] at h
  exact Nat.le_of_ble_eq_true (List.all_eq_true.1 h.1 j hj)
 | o :: r, k, i + 1, o', h, ho, j, hj => by
  simp only [q5O, Bool.and_eq_true] at h
  have := q9O (i := i) h.2 (by simpa using ho) j hj
  omega
theorem qBb {nt : Nat} {ops : List Oper} {o : Oper} {e : Ef} {cl : List Nat} : ∀ {l : List (Oper × Ef)} {k j : Nat} {p : Oper × Ef}, q8F nt ops o e cl l k = true → l[j]? = some p →
  k + j ∈ cl ∨ qEP nt ops o e p.1 p.2 = true
 | [], _, _, _, _, h => by simp at h
 | q :: r, k, 0, p, h, hp => by
  have hp : q = p := by simpa using hp
  subst hp
  simp only [q8F, Bool.and_eq_true, Bool.or_eq_true] at h
  rcases h.1 with h | h
  ·exact .inl (q4n.1 h)
  ·exact .inr h
 | q :: r, k, j + 1, p, h, hp => by
  simp only [q8F, Bool.and_eq_true] at h
  have := qBb (j := j) h.2 (by simpa using hp)
  rw [show k + (j + 1) = k + 1 + j by omega]; exact this
theorem q7V {nt : Nat} {ops : List Oper} {cls : List (List Nat)} : ∀ {l past : List (Oper × Ef)} {i j : Nat} {p q : Oper × Ef}, q8D nt ops cls past l past.length = true →
  (past ++ l)[i]? = some p → (past ++ l)[j]? = some q → past.length ≤ i → j < i → j ∈ cls.getD i [] ∨ qEP nt ops p.1 p.2 q.1 q.2 = true
 | [], past, i, j, p, q, _, hp, _, hle, _ => by
  rw [List.append_nil, List.getElem?_eq_none hle] at hp; simp at hp
 | x :: l, past, i, j, p, q, h, hp, hq, hle, hlt => by
  simp only [q8D, Bool.and_eq_true] at h
  rcases Nat.lt_or_ge past.length i with hi | hi
  ·refine q7V (past := past ++ [x]) (l := l) (i := i) (j := j) (by simpa using h.2) (by simpa using hp) (by simpa using hq) (by simp; omega) hlt
  ·have hi : i = past.length := by omega
   subst hi
   have hx : x = p := by simpa using hp
   subst hx
   have hq' : past[j]? = some q := by rw [List.getElem?_append_left hlt] at hq; exact hq
   have := qBb h.1 hq'
   rwa [Nat.zero_add] at this
theorem q4V : ∀ {l m : List Nat}, qAL l m = true → ∀ k ∈ l, k ∉ m
 | [], _, _, _, hk => by simp at hk
 | x :: r, m, h, k, hk => by
  simp only [qAL, Bool.and_eq_true] at h
  rcases List.mem_cons.1 hk with rfl | hk
  ·exact q7y.1 (by simpa using h.1)
  ·exact q4V h.2 k hk
structure qPy (nt : Nat) (ops : List Oper) (a : Oper) (ea : Ef) (b : Oper) (eb : Ef) : Prop where
 dd : ∀ d, a.dst = some d → b.dst ≠ some d
 ab : ∀ d, a.dst = some d → d ∉ q7Z ops b
 ba : ∀ d, b.dst = some d → d ∉ q7Z ops a
 uab : ∀ p ∈ ea.upd, p.1 ∉ eb.touch
 uba : ∀ p ∈ eb.upd, p.1 ∉ ea.touch
 sab : ∀ id ∈ eb.names, id / 64 ≠ qK6 nt a + 1
 sba : ∀ id ∈ ea.names, id / 64 ≠ qK6 nt b + 1
theorem qPy.symm {nt : Nat} {ops : List Oper} {a b : Oper} {ea eb : Ef} (h : qPy nt ops a ea b eb) : qPy nt ops b eb a ea :=
 ⟨fun d hd he => h.dd d he hd, h.ba, h.ab, h.uba, h.uab, h.sba, h.sab⟩
theorem qN9 {e : Ef} {p : Nat × Option Blk} (h : p ∈ e.upd) : p.1 ∈ e.touch := List.mem_append.2 (.inr (List.mem_map.2 ⟨p, h, rfl⟩))
theorem qPy.apart {nt : Nat} {ops : List Oper} {a b : Oper} {ea eb : Ef} (h : qPy nt ops a ea b eb) : qPW a ea b eb :=
 ⟨h.dd, fun p hp q hq he => h.uab p hp (he ▸ qN9 hq)⟩
theorem qCK {nt : Nat} {o : Oper} {e : Ef} (h : qGy nt o e = true) : ∀ id ∈ e.names, id / 64 ≠ qK6 nt o + 1 := by
 intro id hid he
 have := List.all_eq_true.1 h id hid
 rw [q0j.2 he] at this
 simp at this
theorem qM2 {nt : Nat} {ops : List Oper} {a b : Oper} {ea eb : Ef} (h : qEP nt ops a ea b eb = true) : qPy nt ops a ea b eb := by
 unfold qEP at h
 simp only [Bool.and_eq_true] at h
 obtain ⟨⟨⟨⟨⟨h1, h2⟩, h3⟩, h4⟩, h5⟩, h6⟩ := h
 have ha : ∀ {o : Oper} {d : Nat}, o.dst = some d → d ∈ qW4 o := fun hd => by unfold qW4; rw [hd]; simp
 exact
  {dd := fun d hd he => q4V h1 d (ha hd) (List.mem_append.2 (.inl (ha he)))
   ab := fun d hd hm => q4V h1 d (ha hd) (List.mem_append.2 (.inr hm))
   ba := fun d hd => q4V h2 d (ha hd)
   uab := fun p hp => q4V h3 p.1 (List.mem_map.2 ⟨p, hp, rfl⟩)
   uba := fun p hp => q4V h4 p.1 (List.mem_map.2 ⟨p, hp, rfl⟩)
   sab := qCK h5
   sba := qCK h6 }
def q61 (D : Nat → Bool) : Nat → Nat
 | 0 => 0
 | n + 1 => q61 D n + if D n then 0 else 1
theorem q9L {D D' : Nat → Bool} : ∀ {n : Nat}, (∀ j, j < n → D j = D' j) → q61 D n = q61 D' n
 | 0, _ => rfl
 | n + 1, h => by simp only [q61]; rw [q9L fun j hj => h j (by omega), h n (by omega)]
theorem qCQ {D : Nat → Bool} {i : Nat} : ∀ {n : Nat}, i < n → D i = false → q61 (fun x => D x || Nat.beq x i) n + 1 = q61 D n
 | 0, h, _ => by omega
 | n + 1, h, hD => by
  simp only [q61]
  by_cases hi : i = n
  ·subst hi
   rw [q9L (D' := D) fun j hj => by rw [q0z.2 (by omega : j ≠ i)]; simp]
   simp [hD, q0j.2 rfl]
  ·have := qCQ (D := D) (i := i) (n := n) (by omega) hD
   have hb : (D n || Nat.beq n i) = D n := by rw [q0z.2 (fun e => hi e.symm : n ≠ i), Bool.or_false]
   simp only [hb]
   omega
theorem qBF {D : Nat → Bool} : ∀ {n : Nat}, q61 D n = 0 → ∀ j, j < n → D j = true
 | 0, _, j, h => by omega
 | n + 1, h, j, hj => by
  simp only [q61] at h
  by_cases hn : D n = true
  ·rcases Nat.lt_or_ge j n with h' | h'
   ·exact qBF (n := n) (by omega) j h'
   ·rw [show j = n by omega]; exact hn
  ·simp [hn] at h
section
variable {P : Program} {cx : Cx} (hT : q31 P cx.tt) (hD : q0D P cx.D)
include hT hD in
theorem qJW {g : G} (hnt : cx.nt = g.nt) {ops : List Oper} {L : List (Oper × Ef)} {s0 : AS} {Q : Exit → Act → World → Prop}
  (hL : L.map (·.1) = ops) (hf : ∀ i p, L[i]? = some p → qBj cx ops (q2Z (fun j => decide (j < i)) L 0 s0) p.1 = some p.2 ∧ (∀ q ∈ p.2.ob, q) ∧ q9w cx.nt (ops.drop (i + 1)) p.2 = true)
  (hfresh : ∀ id, q22 (q25 cx.nt ops) id = true → q0l s0 id) (hback : q5O ops 0 = true) (hind : q8D cx.nt ops (q3i ops []) [] L 0 = true)
  (hQ : ∀ a w ι Fr, Rel g (q2Z (fun _ => true) L 0 s0) a w ι Fr → Q .normal a w) :
  ∀ (fuel : Nat) (listed : Array Bool) (a : Act) (w : World) (ι : q0x) (Fr : Nat → Nat → Prop), listed.size = ops.length → q61 (fun i => listed.getD i false) ops.length ≤ fuel →
   (∀ i, listed.getD i false = true → ∀ j ∈ (q3i ops []).getD i [], listed.getD j false = true) →
   Rel g (q2Z (fun i => listed.getD i false) L 0 s0) a w ι Fr → wpAny P .any ops.toArray Q fuel listed a w := by
 have hlen : L.length = ops.length := by rw [← hL, List.length_map]
 have hop : ∀ (i : Nat) (p : Oper × Ef), L[i]? = some p → ops[i]? = some p.1 := fun i p hp => by rw [← hL, List.getElem?_map, hp]; rfl
 have hready : ∀ listed : Array Bool, listed.size = ops.length → ∀ i, i ∈ Region.ready .any ops.toArray listed →
   ∃ p : Oper × Ef, L[i]? = some p ∧ listed.getD i false = false ∧ ∀ j ∈ q2p p.1, listed.getD j false = true := by
  intro listed hsz i hi
  unfold Region.ready at hi
  simp only [List.size_toArray, List.mem_filter, List.mem_range, Bool.and_eq_true] at hi
  obtain ⟨hlt, hnl, hall⟩ := hi
  have hi' : i < L.length := by omega
  refine ⟨L[i], List.getElem?_eq_getElem hi', ?_, ?_⟩
  ·have : i < listed.size := by omega
   simp [Array.getD, this] at hnl ⊢
   exact hnl
  ·intro j hj
   obtain ⟨e, he, hb, rfl⟩ := qFY hj
   have ho : ops.toArray[i]? = some L[i].1 := by rw [List.getElem?_toArray]; exact hop i _ (List.getElem?_eq_getElem hi')
   rw [ho] at hall
   simp only [Option.map_some, Option.getD_some] at hall
   have := (Array.all_eq_true_iff_forall_mem.1 hall) e he
   simpa [hb] using this
 have hempty : ∀ listed : Array Bool, listed.size = ops.length → Region.ready .any ops.toArray listed = [] → ∀ i, i < ops.length → listed.getD i false = true := by
  intro listed hsz hnil i
  induction i using Nat.strongRecOn with
  | _ i ih =>
   intro hi
   have hnot : i ∉ Region.ready .any ops.toArray listed := by rw [hnil]; simp
   have hi' : i < L.length := by omega
   have ho : ops[i]? = some L[i].1 := hop i _ (List.getElem?_eq_getElem hi')
   cases hd : listed.getD i false with
   | true => rfl
   | false =>
    refine absurd ?_ hnot
    unfold Region.ready
    simp only [List.size_toArray, List.mem_filter, List.mem_range, Bool.and_eq_true]
    have hsz' : i < listed.size := by omega
    refine ⟨hi, by simp [Array.getD, hsz'] at hd ⊢; exact hd, ?_⟩
    rw [List.getElem?_toArray, ho]
    simp only [Option.map_some, Option.getD_some]
    refine Array.all_eq_true_iff_forall_mem.2 fun e he => ?_
    cases hb : Region.binds .any e with
    | false => simp
    | true =>
     have hlt := q9O hback ho e.on (qGv he hb)
     have := ih e.on (by omega) (by omega)
     simp [this]
 have hall : ∀ listed : Array Bool, (∀ i, i < ops.length → listed.getD i false = true) → ∀ {a w ι Fr}, Rel g (q2Z (fun i => listed.getD i false) L 0 s0) a w ι Fr → Q .normal a w := by
  intro listed h a w ι Fr hr
  rw [q7f (D' := fun _ => true) fun j _ hj => h j (by omega)] at hr
  exact hQ _ _ _ _ hr
 intro fuel
 induction fuel with
 | zero =>
  intro listed a w ι Fr hsz hun hcl hr
  have hdone := qBF (Nat.le_zero.1 hun)
  refine ⟨?_, hall listed hdone hr⟩
  unfold Region.ready
  rw [List.filter_eq_nil_iff]
  intro i hi hc
  simp only [List.size_toArray, List.mem_range] at hi
  have := hdone i hi
  have hsz' : i < listed.size := by omega
  simp [Array.getD, hsz'] at this hc
  rw [this] at hc
  simp at hc
 | succ fuel ih =>
  intro listed a w ι Fr hsz hun hcl hr
  refine ⟨fun hnil => hall listed (hempty listed hsz hnil) hr, fun i hi => ?_⟩
  obtain ⟨p, hp, hnl, hed⟩ := hready listed hsz i hi
  have ho := hop i p hp
  have hi' : i < ops.length := (List.getElem?_eq_some_iff.1 ho).1
  have hcli : ∀ j ∈ (q3i ops []).getD i [], listed.getD j false = true := by
   intro j hj
   rcases q7x (acc := []) (i := i) ho j (by simpa using hj) with h | ⟨k, hk, hjk⟩
   ·exact hed j h
   ·exact hcl k (hed k hk) j hjk
  obtain ⟨hope, hob, hoff⟩ := hf i p hp
  have hfree : ∀ j q, L[j]? = some q → j ≠ i → listed.getD j false ≠ decide (j < i) → qPy cx.nt ops p.1 p.2 q.1 q.2 := by
   intro j q hq hne hd
   cases hj : listed.getD j false with
   | true =>
    rw [hj] at hd
    have hlt : i < j := by
     rcases Nat.lt_or_ge j i with h | h
     ·simp [h] at hd
     ·omega
    rcases q7V (past := []) (i := j) (j := i) hind (by simpa using hq) (by simpa using hp) (Nat.zero_le _) hlt with h | h
    ·have := hcl j hj i h
     rw [hnl] at this; simp at this
    ·exact (qM2 h).symm
   | false =>
    rw [hj] at hd
    have hlt : j < i := by
     rcases Nat.lt_or_ge j i with h | h
     ·exact h
     ·exact absurd (by simp; omega) hd
    rcases q7V (past := []) (i := i) (j := j) hind (by simpa using hp) (by simpa using hq) (Nat.zero_le _) hlt with h | h
    ·have := hcli j h
     rw [hj] at this; simp at this
    ·exact qM2 h
  have hfree' : ∀ j q, L[j]? = some q → listed.getD (0 + j) false ≠ decide (0 + j < i) → qPy cx.nt ops p.1 p.2 q.1 q.2 := by
   intro j q hq hd
   rw [Nat.zero_add] at hd
   refine hfree j q hq (fun e => ?_) hd
   subst e
   rw [hnl] at hd
   simp at hd
  have hope' : qBj cx ops (q2Z (fun j => listed.getD j false) L 0 s0) p.1 = some p.2 := by
   refine qGL hope (fun t ht => ?_) fun id hid => ?_
   ·exact qMS rfl fun j q hq hd he => (hfree' j q hq hd).ba t he ht
   ·refine qKb rfl fun j q hq hd u hu he => (hfree' j q hq hd).uba u hu ?_
    rw [he]
    exact List.mem_append.2 (.inl hid)
  have hfr : ∀ id, id / 64 = qK6 cx.nt p.1 + 1 → q0l (q2Z (fun j => listed.getD j false) L 0 s0) id := by
   intro id hid
   refine qBW (hfresh id ?_) fun j q hq hd hm => ?_
   ·unfold q22
    rw [q4n, hid]
    have hdst : ∀ {l : List Oper} {o : Oper}, o ∈ l → qK6 cx.nt o + 1 ∈ q25 cx.nt l := by
     intro l o hmem
     induction l with
     | nil => simp at hmem
     | cons x r ih =>
      simp only [q25]
      rcases List.mem_cons.1 hmem with rfl | h
      ·exact List.mem_cons_self ..
      ·exact List.mem_cons_of_mem _ (ih h)
    exact hdst (List.mem_of_getElem? ho)
   ·rw [Nat.zero_add] at hd
    have hne : j ≠ i := fun e => by subst e; rw [hnl] at hd; simp at hd
    rcases Nat.lt_or_ge j i with hlt | hge
    ·have := (hf j q hq).2.2
     have hm' := List.all_eq_true.1 this id hm
     have hin : q22 (q25 cx.nt (ops.drop (j + 1))) id = true := by
      unfold q22
      rw [q4n, hid]
      have hmem : p.1 ∈ ops.drop (j + 1) := by
       refine List.mem_of_getElem? (i := i - (j + 1)) ?_
       rw [List.getElem?_drop, show j + 1 + (i - (j + 1)) = i by omega]; exact ho
      generalize ops.drop (j + 1) = l at hmem
      induction l with
      | nil => simp at hmem
      | cons x r ih =>
       simp only [q25]
       rcases List.mem_cons.1 hmem with rfl | h
       ·exact List.mem_cons_self ..
       ·exact List.mem_cons_of_mem _ (ih h)
     rw [hin] at hm'
     simp at hm'
    ·refine (hfree j q hq hne ?_).sab id hm hid
     rw [hd]
     simp; omega
  have hset : ∀ x, (listed.setIfInBounds i true).getD x false = (listed.getD x false || Nat.beq x i) := by
   intro x
   have hii : i < listed.size := by omega
   rw [qDV _ _ _ _ _ hii]
   by_cases hx : x = i
   ·subst hx; simp [q0j.2 rfl]
   ·simp [hx, q0z.2 hx]
  have hsame := qFu (D := fun j => listed.getD j false) (o := p.1) (e := p.2) (i := i) (L := L) (k := 0) (j := i) (s := s0) (by omega) (by simpa using hp) hnl fun j q hq hlt hd => by
   rw [Nat.zero_add] at hlt hd
   exact (hfree j q hq (by omega) (by rw [hd]; simp; omega)).apart
  have hnext : ∀ a' w' ι' Fr', Rel g ((q2Z (fun j => listed.getD j false) L 0 s0).app p.1.dst p.2) a' w' ι' Fr' → wpAny P .any ops.toArray Q fuel (listed.setIfInBounds i true) a' w' := by
   intro a' w' ι' Fr' hr'
   have hfun : (fun x => (listed.setIfInBounds i true).getD x false) = fun x => listed.getD x false || Nat.beq x i := funext hset
   refine ih (listed.setIfInBounds i true) a' w' ι' Fr' (by simpa using hsz) ?_ ?_ ?_
   ·rw [hfun]
    have := qCQ (D := fun j => listed.getD j false) hi' hnl
    omega
   ·intro x hx j hj
    rw [hset] at hx ⊢
    rw [Bool.or_eq_true] at hx ⊢
    rcases hx with hx | hx
    ·exact .inl (hcl x hx j hj)
    ·have := q0j.1 hx
     subst this
     exact .inl (hcli j hj)
   ·rw [hfun]
    exact hr'.congr (fun t => hsame.1 t) fun id => hsame.2 id
  have := qDb hT hD hr (ops := ops) hnt hfr hope' hob (next := wpAny P .any ops.toArray Q fuel (listed.setIfInBounds i true)) (Q := Q) hnext
  unfold wpOp
  rw [List.getElem?_toArray, ho]
  simp only []
  split
  ·rename_i hw
   rw [hw, if_pos rfl] at this
   exact .inl this
  ·rename_i hw
   rw [if_neg hw] at this
   exact this
end
def qUu : Value → Bool
 | .int _ _ => true
 | .bool _ => true
 | .string _ => true
 | _ => false
structure VW (A : Nat → Prop) (w w' : World) : Prop where
 os : w'.os = w.os
 tape : w'.tape = w.tape
 output : w'.output = w.output
 size : w.heap.size ≤ w'.heap.size
 frame : ∀ b, b < w.heap.size → ¬ A b → w'.heap[b]? = w.heap[b]?
 cells : ∀ b arr e, A b → w.heap[b]? = some (.cells arr e (0, 0)) → ∃ arr', w'.heap[b]? = some (.cells arr' e (0, 0)) ∧ arr'.size = arr.size ∧
  ∀ j, arr'.getD j Go.undef = arr.getD j Go.undef ∨ (qUu (arr.getD j Go.undef) = true ∧ qUu (arr'.getD j Go.undef) = true)
theorem VW.refl (A : Nat → Prop) (w : World) : VW A w w := ⟨rfl, rfl, rfl, Nat.le_refl _, fun _ _ _ => rfl, fun _ arr _ _ h => ⟨arr, h, rfl, fun _ => .inl rfl⟩⟩
theorem VW.shape {A : Nat → Prop} {w w' : World} (h : VW A w w') (hc : ∀ b, A b → ∃ arr e, w.heap[b]? = some (.cells arr e (0, 0))) : ∀ b e, w.shape? b = some e → w'.shape? b = some e := by
 intro b e hs
 have hlt : b < w.heap.size := by
  rcases Nat.lt_or_ge b w.heap.size with h' | h'
  ·exact h'
  ·simp [World.shape?, Array.getElem?_eq_none h'] at hs
 by_cases hA : A b
 ·obtain ⟨arr, el, hh⟩ := hc b hA
  obtain ⟨arr', hh', hsz, _⟩ := h.cells b arr el hA hh
  unfold World.shape? at hs ⊢
  rw [hh] at hs
  rw [hh']
  simpa [hsz] using hs
 ·unfold World.shape? at hs ⊢
  rw [h.frame b hlt hA]
  exact hs
structure qS6 (P : Program) (f : Nat) (M : qPX) : Prop where
 enters : ∀ vals w, (callFunc f vals).run P w = .ok (.enter f vals) w
 does : ∀ n g k ob r, M n g k = some (ob, r) → ob → ∀ (x : Value) (w0 w : World) (A : Nat → Prop), PRep w0 A (.sl n g 1) x → (∀ b, A b → ∃ arr e, w0.heap[b]? = some (.cells arr e (0, 0))) → VW A w0 w →
  Calls P f #[x, .int .i64 k] w fun e w' => e = .returned (.int .i64 r) ∧ VW A w0 w'
def noM : Nat → Option qPX := fun _ => none
def q3a (P : Program) (M : Nat → Option qPX) : Prop := ∀ f S, M f = some S → qS6 P f S
theorem q2K {P : Program} : q3a P noM := fun f S h => by cases h
theorem qLj {w w' : World} {Fr Fr' : Nat → Nat → Prop} {ι : q0x} {v : V} {x : Value} (h : q0X w Fr ι v x) (hk : qMW v = true) (hF : ∀ b, Fr 1 b → Fr' 1 b ∧ w'.heap[b]? = w.heap[b]?) :
  q0X w' Fr' ι v x := by
 cases h with
 | atom hv hp =>
  cases hp with
  | int => exact .atom rfl (.int _ _)
  | bool => exact .atom rfl (.bool _)
  | str => exact .atom rfl (.str _)
  | nil => exact .atom rfl (.nil _)
  | sl0 => exact .atom rfl (.sl0 _ _ _ _)
  | sl cv hA hcap hsz hc hr =>
   have ht := q0j.1 hk
   subst ht
   exact .atom rfl ((PRep.sl (t := 1) cv hA hcap hsz hc hr).mono fun b hb => hF b hb)
  | ptr cv hA hc hr =>
   have ht := q0j.1 hk
   subst ht
   exact .atom rfl ((PRep.ptr (t := 1) cv hA hc hr).mono fun b hb => hF b hb)
  | agg => simp [isP] at hv
  | tup => simp [isP] at hv
  | fn => simp [isP] at hv
  | undef => exact .atom rfl (.undef _)
 | _ => simp [qMW] at hk
theorem qBH {w w' : World} {Fr Fr' : Nat → Nat → Prop} {ι : q0x} {id : Nat} {v : V} {x : Value} (h : q0X w Fr ι v x) (hk : qFo id v = true) (hF : ∀ b, Fr 1 b → Fr' 1 b ∧ w'.heap[b]? = w.heap[b]?)
  (hsh : ∀ b e, w.shape? b = some e → w'.shape? b = some e) : q0X w' Fr' ι v x := by
 cases h with
 | osl hi hn hc hs hcs => exact .osl hi hn hc (hsh _ _ hs) hcs
 | osl0 a hi => exact .osl0 a hi
 | oref hi him => exact .oref hi him
 | atom hv hp =>
  have : qMW v = true := by
   cases v <;> first | exact hk | (simp [isP] at hv; done)
  exact qLj (.atom hv hp) this hF
 | _ => simp [qFo, qMW] at hk
theorem qNB {w w' : World} {Fr Fr' : Nat → Nat → Prop} {ι : q0x} {id : Nat} {v : V} {x : Value} (h : q0X w Fr ι v x) (hk : qSE id v = true) (hF : ∀ b, Fr 1 b → Fr' 1 b ∧ w'.heap[b]? = w.heap[b]?)
  (hsh : ∀ b e, w.shape? b = some e → w'.shape? b = some e) : q0X w' Fr' ι v x := by
 by_cases hag : ∃ cs, v = .agg cs
 ·obtain ⟨cs, rfl⟩ := hag
  cases h with
  | atom hv _ => simp [isP] at hv
  | agg arr hs hr => exact .agg arr hs fun j hj => qBH (hr j hj) (q3y (p := qFo id) hk hj) hF hsh
 ·have : qFo id v = true := by
   cases v <;> first | exact hk | exact absurd ⟨_, rfl⟩ hag
  exact qBH h this hF hsh
theorem qCq {id k : Nat} {blk : Blk} : ∀ {S : List (Nat × Blk)}, lk S k = some blk → k ∉ qA0 id S → k ≠ id ∧ qN3 id blk = true
 | [], h, _ => by simp [lk] at h
 | (j, b) :: r, h, hn => by
  simp only [lk] at h
  cases hjk : Nat.beq j k with
  | true =>
   rw [hjk] at h
   have e1 := q0j.1 hjk
   have e2 : b = blk := Option.some.inj h
   subst e1 e2
   cases hb : !(Nat.beq j id) && qN3 id b with
   | true =>
    simp only [Bool.and_eq_true, Bool.not_eq_true', q0z] at hb
    exact hb
   | false =>
    exfalso
    apply hn
    simp only [qA0, hb]
    exact List.mem_cons_self ..
  | false =>
   rw [hjk] at h
   refine qCq h fun hm => hn ?_
   simp only [qA0]
   split
   ·exact hm
   ·exact List.mem_cons_of_mem _ hm
theorem qCn {id t : Nat} {v : V} {s : AS} (h : lk (forget id s).T t = some v) : v = .undef ∨ (lk s.T t = some v ∧ qSE id v = true) := by
 have h' : lk (s.T.map fun e => (e.1, qIN id e.2)) t = some v := h
 rw [qEN (qIN id)] at h'
 cases hl : lk s.T t with
 | none => rw [hl] at h'; simp at h'
 | some u =>
  rw [hl] at h'
  simp only [Option.map_some, Option.some.injEq] at h'
  unfold qIN at h'
  split at h'
  ·rename_i hk
   subst h'
   exact .inr ⟨rfl, hk⟩
  ·exact .inl h'.symm
theorem q3v {id k : Nat} {b : Blk} {s : AS} (h : lk (forget id s).S k = some b) : lk s.S k = some b ∧ k ≠ id ∧ qN3 id b = true := by
 have h' : lk (q0Q s.S ((qA0 id s.S).map fun k => (k, none))) k = some b := h
 rw [q1v] at h'
 split at h'
 ·simp at h'
 ·rename_i hn
  exact ⟨h', qCq h' hn⟩
theorem qFC {id k : Nat} {s : AS} (h : q0l s k) : q0l (forget id s) k where
 ge := h.ge
 no := by
  cases hl : lk (forget id s).S k with
  | none => rfl
  | some b => have := (q3v hl).1; rw [h.no] at this; simp at this
 T := fun t v ht => by
  rcases qCn ht with rfl | ⟨h1, _⟩
  ·rfl
  ·exact h.T t v h1
 S := fun j b hj => h.S j b (q3v hj).1
theorem Rel.forget {g : G} {s : AS} {a : Act} {w w' : World} {ι : q0x} {Fr : Nat → Nat → Prop} (h : Rel g s a w ι Fr) {id sz n te : Nat} {f : Nat → V} (hl : lk s.S id = some (.arr sz n f te)) (h64 : 64 ≤ id)
  (hte : 2 ≤ te) {A : Nat → Prop} (hA : ∀ b, A b → (∃ r, ι id = some r ∧ r.1 = b) ∨ Fr te b) (hos : w'.os = w.os) (ht : w'.tape = w.tape) (ho : w'.output = w.output) (hsz : w.heap.size ≤ w'.heap.size)
  (hb : ∀ b, b < w.heap.size → ¬ A b → w'.heap[b]? = w.heap[b]?) (hsh : ∀ b e, w.shape? b = some e → w'.shape? b = some e) :
  ∃ Fr', Rel g (Go.Av.forget id s) a w' ι Fr' := by
 have hnew : ∀ b, A b → g.New b := by
  intro b hab
  rcases hA b hab with ⟨r, hi, rfl⟩ | hf
  ·obtain ⟨b, z, m⟩ := r
   rcases (h.own id _ b z m hl hi).2 with q | ⟨_, q⟩
   ·exact q
   ·omega
  ·exact h.fr2 te b hte hf
 let Fr' : Nat → Nat → Prop := fun t b => (t = 0 ∨ t = 1) ∧ Fr t b ∧ ¬ A b
 have hF : ∀ b, Fr 1 b → Fr' 1 b ∧ w'.heap[b]? = w.heap[b]? := by
  intro b hf
  have hn : ¬ A b := fun hab => h.fr1 b hf (hnew b hab)
  exact ⟨⟨.inr rfl, hf, hn⟩, hb b (h.fr 1 b hf).1 hn⟩
 refine ⟨Fr', ?_⟩
 exact
  {defers := h.defers
   size := h.size
   tmp := fun t v hv => by
    rcases qCn hv with rfl | ⟨h1, h2⟩
    ·exact .atom rfl (.undef _)
    ·exact qNB (h.tmp t v h1) h2 hF hsh
   own := fun k blk b z m hk hi => by
    obtain ⟨h1, h2, h3⟩ := q3v hk
    obtain ⟨h4, h5⟩ := h.own k blk b z m h1 hi
    refine ⟨?_, h5⟩
    have hn : ¬ A b := by
     intro hab
     rcases hA b hab with ⟨r, hi', e⟩ | hf
     ·exact h2 (h.inj k id blk _ _ r h1 hl hi hi' e.symm)
     ·exact (h.fr te b hf).2.2 k blk _ h1 hi rfl
    have hbb := hb b h4.lt hn
    cases blk with
    | mp => exact h4.mapTo hbb
    | arr sz' n' f' te' =>
     obtain ⟨e1, e2, cells, e, hh, hs, hlen, hr⟩ := h4
     refine ⟨e1, e2, cells, e, hbb.trans hh, hs, hlen, fun i j hi hj => ?_⟩
     simp only [qN3, Bool.or_eq_true, q0j] at h3
     rcases h3 with rfl | rfl
     ·exact (hr i j hi hj).mono fun b hb => absurd hb (h.frS b)
     ·exact (hr i j hi hj).mono fun b hb => hF b hb
    | box cs =>
     obtain ⟨cells, e, hh, hs, hr⟩ := h4
     exact ⟨cells, e, hbb.trans hh, hs, fun j hj => qBH (hr j hj) (q3y (p := qFo id) h3 hj) hF hsh⟩
   nob := fun k blk hk => h.nob k blk (q3v hk).1
   inj := fun k k' c c' r r' h1 h2 => h.inj k k' c c' r r' (q3v h1).1 (q3v h2).1
   fr := fun t b hf => ⟨Nat.lt_of_lt_of_le (h.fr t b hf.2.1).1 hsz, (h.fr t b hf.2.1).2.1, fun k c r hk => (h.fr t b hf.2.1).2.2 k c r (q3v hk).1⟩
   frS := fun b hf => by rcases hf.1 with e | e <;> exact absurd e (by decide)
   fr0 := fun t b hf => ⟨.inl rfl, h.fr0 t b hf.2.1, hf.2.2⟩
   fr2 := fun t b h2 hf => by rcases hf.1 with e | e <;> omega
   fr1 := fun b hf => h.fr1 b hf.2.1
   cl := fun t b h2 hf => by rcases hf.1 with e | e <;> omega
   low := h.low
   x0 := h.x0
   io0 := h.io0
   mvio := h.mvio
   os := hos.trans h.os
   tape := ht.trans h.tape
   output := ho.trans h.output
   hsize := Nat.le_trans h.hsize hsz
   frame := fun b hlt hio => (hb b (Nat.lt_of_lt_of_le hlt h.hsize) fun hab => by
    rcases hnew b hab with hq | hq
    ·omega
    ·exact hio (h.mvio b hq)).trans (h.frame b hlt hio)
   shape := fun b e he => hsh b e (h.shape b e he) }
theorem qOC {P : Program} {cx : Cx} (hM : q3a P cx.M) {g : G} (hnt : cx.nt = g.nt) {s s' : AS} {a : Act} {w : World} {ι : q0x} {Fr : Nat → Nat → Prop} (h : Rel g s a w ι Fr) {o : Oper} {ob : Prop}
  (he : qF3 cx s o = some (ob, s')) (ho : ob) : o.guard = none ∧ q6v P g s' a w o := by
 unfold qF3 at he
 split at he
 case h_2 => simp at he
 case h_1 d c hg hdst hop =>
  refine ⟨hg, ?_⟩
  split at he
  case h_2 => simp at he
  case h_1 f x k hcal hargs =>
   split at he
   case h_2 => simp at he
   case h_1 id n m M hx hk hMf =>
    split at he
    case h_2 => simp at he
    case h_1 sz n' f' te hl hc =>
     split at he
     case h_2 => simp at he
     case h_1 ob' r ht hMe =>
      simp only [Option.some.injEq, Prod.mk.injEq] at he
      obtain ⟨rfl, rfl⟩ := he
      simp only [Bool.and_eq_true] at hc
      have h64 : 64 ≤ id := Nat.le_of_ble_eq_true hc.1
      have hd : d < g.nt := by rw [← hnt]; exact Nat.le_of_ble_eq_true hc.2
      have hte : 2 ≤ te := Nat.le_of_ble_eq_true ht
      have hS := hM f M hMf
      have hxr := q4P h x
      have hkr := q4P h k
      rw [hx] at hxr
      rw [hk] at hkr
      have hkv := q27 hkr
      let A : Nat → Prop := fun b => (∃ r, ι id = some r ∧ r.1 = b) ∨ Fr te b
      have hp : PRep w A (.sl n f' 1) (a.eval x) := by
       generalize a.eval x = vx at hxr
       cases hxr with
       | atom hv _ => simp [isP] at hv
       | @osl _ _ b sz2 m2 cap c' e hi hn2 hcap hsh hcs =>
        obtain ⟨rfl, rfl, cells, e', hh, hsz, hlen, hr⟩ := (h.own id _ b sz2 m2 hl hi).1
        refine .sl (sz := sz) (off := 0) (fun i j => cells.getD (i * sz + j) Go.undef) (.inl ⟨_, hi, rfl⟩) hcap (fun i hin => hlen i (by omega)) (fun i j hin hj => ?_)
         (fun i j hin hj => (hr i j (by omega) hj).weaken fun b hb => .inr hb)
        have e1 : i * sz + sz = (i + 1) * sz := by rw [Nat.add_mul, Nat.one_mul]
        have e2 : (i + 1) * sz ≤ n' * sz := Nat.mul_le_mul_right _ (by omega)
        rw [Nat.zero_add]; exact q30 hh (by omega)
       | osl0 ad hi => exact .sl0 _ _ _ _
      have hAc : ∀ b, A b → ∃ arr e, w.heap[b]? = some (.cells arr e (0, 0)) := by
       intro b hab
       rcases hab with ⟨r, hi, rfl⟩ | hf
       ·exact (h.own id _ r.1 r.2.1 r.2.2 hl hi).1.cl rfl
       ·exact h.cl te b hte hf
      have hcall := hS.does n f' m ob' r hMe ho (a.eval x) w w A hp hAc (VW.refl A w)
      intro next Q hn
      unfold Oper.wp
      have hav : c.args.map a.eval = #[a.eval x, .int .i64 m] := by
       have : c.args = #[x, k] := by
        apply Array.ext'
        rw [hargs]
       rw [this]
       simp [hkv]
      rw [qNA (capsv := #[]) hop hcal rfl hS.enters]
      simp only [Oper.upon, Array.append_empty, hav]
      refine hcall.mono ?_
      rintro e' w' ⟨rfl, hv⟩
      obtain ⟨Fr', hR⟩ := h.forget hl h64 hte (fun b hb => hb) hv.os hv.tape hv.output hv.size hv.frame (hv.shape hAc)
      refine hn _ _ ι Fr' ?_
      rw [hdst]
      exact hR.put hd (.atom rfl (.int _ _))
theorem qEz {cx : Cx} {s s' : AS} {o : Oper} {ob : Prop} (he : qF3 cx s o = some (ob, s')) {k : Nat} (hf : q0l s k) : q0l s' k := by
 unfold qF3 at he
 split at he
 case h_2 => simp at he
 case h_1 d c hg hdst hop =>
  split at he
  case h_2 => simp at he
  case h_1 f x k' hcal hargs =>
   split at he
   case h_2 => simp at he
   case h_1 id n m M hx hk hMf =>
    split at he
    case h_2 => simp at he
    case h_1 sz n' f' te hl hc =>
     split at he
     case h_2 => simp at he
     case h_1 ob' r ht hMe =>
      simp only [Option.some.injEq, Prod.mk.injEq] at he
      obtain ⟨rfl, rfl⟩ := he
      have h1 := qFC (id := id) hf
      refine ⟨h1.ge, h1.no, fun t v hv => ?_, h1.S⟩
      have hv' : lk (put (Go.Av.forget id s).T d (.int .i64 r)) t = some v := hv
      rw [q1J] at hv'
      split at hv'
      ·have := Option.some.inj hv'
       subst this
       rfl
      ·exact h1.T t v hv'
theorem qJX {P : Program} {t : Nat} {e : TypeId} {a : Option Addr} {l c : Nat} {w : World} (hu : (underlying t).run P w = .ok (.slice e) w) (D : Nat) :
  (Op.equalIn (D + 1) t (.slice a l c) (.slice none 0 0)).run P w = .ok a.isNone w := by
 unfold Op.equalIn
 simp only [Sem.run_bind, hu, Result.andThen_ok]
 cases a <;> simp
theorem qRk {P : Program} {cx : Cx} (hT : q31 P cx.tt) {g : G} (hnt : cx.nt = g.nt) {s : AS} {a : Act} {w : World} {ι : q0x} {Fr : Nat → Nat → Prop} (h : Rel g s a w ι Fr) {o : Oper} {d n : Nat}
  (he : x3F cx s o = some (d, n)) : o.guard = none ∧ ∃ b : Bool, (b = true → n = 0) ∧ q6v P g { s with T := put s.T d (.bool b) } a w o := by
 unfold x3F at he
 split at he
 case h_2 => simp at he
 case h_1 d' t x yt hg hdst hop =>
  refine ⟨hg, ?_⟩
  have key : ∀ (a' : Option Addr) (l c : Nat), a.eval x = .slice a' l c → d' < g.nt → q99 cx.tt t = true → q6v P g { s with T := put s.T d' (.bool a'.isNone) } a w o := by
   intro a' l c hv hd ht
   obtain ⟨e, ti, _, hu, _⟩ := q7b hT ht w
   have hz : (do eqGuard .eql t x (.const (.slice none 0 0)) (.slice a' l c) (.slice none 0 0); binOp .eql t (.slice a' l c) (.slice none 0 0) : Sem Value).run P w = .ok (.bool a'.isNone) w := by
    have h1 := qAS (P := P) (op := .eql) (t := t) (x := x) (y := .const (.slice none 0 0)) (a := .slice a' l c) (b := .slice none 0 0) (w := w) (fun _ _ h => by cases h) (by simp)
    simp only [Sem.run_bind, h1, Result.andThen_ok, binOp, Op.equal]
    have h2 := qJX (P := P) (a := a') (l := l) (c := c) hu 9999
    have e1 : Op.maxDepth = 9999 + 1 := rfl
    rw [e1, h2]
    rfl
   have := q1I (P := P) h (o := o) (e := ⟨.bool a'.isNone, [], [], []⟩) (by unfold q39; rw [hdst]; exact Nat.ble_eq_true_of_le hd) rfl ⟨.bool a'.isNone, by
    unfold execOp; rw [hop]
    refine q5o ?_
    show (do eqGuard .eql t x (.const (.slice none 0 0)) (a.eval x) (.slice none 0 0); binOp .eql t (a.eval x) (.slice none 0 0) : Sem Value).run P w = _
    rw [hv]
    exact hz, .atom rfl (.bool _)⟩
   rw [hdst] at this
   exact this
  have hxr := q4P h x
  split at he
  ·rename_i g' t' hc hv
   simp only [Option.some.injEq, Prod.mk.injEq] at he
   obtain ⟨rfl, rfl⟩ := he
   rw [Bool.and_eq_true] at hc
   have hd : d' < g.nt := by rw [← hnt]; exact Nat.le_of_ble_eq_true hc.1
   rw [hv] at hxr
   generalize hev : a.eval x = vx at hxr
   cases hxr with
   | atom _ hp =>
    cases hp with
    | sl0 a0 cap => exact ⟨_, fun _ => rfl, key _ _ _ hev hd hc.2⟩
    | sl => exact ⟨_, fun h => by simp at h, key _ _ _ hev hd hc.2⟩
  ·rename_i id hc hv
   simp only [Option.some.injEq, Prod.mk.injEq] at he
   obtain ⟨rfl, rfl⟩ := he
   rw [Bool.and_eq_true] at hc
   have hd : d' < g.nt := by rw [← hnt]; exact Nat.le_of_ble_eq_true hc.1
   rw [hv] at hxr
   generalize hev : a.eval x = vx at hxr
   cases hxr with
   | atom hv _ => simp [isP] at hv
   | osl => exact ⟨_, fun h => by simp at h, key _ _ _ hev hd hc.2⟩
   | osl0 a0 => exact ⟨_, fun _ => rfl, key _ _ _ hev hd hc.2⟩
  ·rename_i hc hv
   simp only [Option.some.injEq, Prod.mk.injEq] at he
   obtain ⟨rfl, rfl⟩ := he
   rw [Bool.and_eq_true] at hc
   have hd : d' < g.nt := by rw [← hnt]; exact Nat.le_of_ble_eq_true hc.1
   rw [hv] at hxr
   generalize hev : a.eval x = vx at hxr
   cases hxr with
   | atom _ hp =>
    cases hp with
    | nil a0 => exact ⟨_, fun _ => rfl, key _ _ _ hev hd hc.2⟩
  ·simp at he
theorem qBn {s : AS} {d : Nat} {b : Bool} {k : Nat} (hf : q0l s k) : q0l { s with T := put s.T d (.bool b) } k := by
 refine ⟨hf.ge, hf.no, fun t v hv => ?_, hf.S⟩
 have hv' : lk (put s.T d (.bool b)) t = some v := hv
 rw [q1J] at hv'
 split at hv'
 ·have := Option.some.inj hv'
  subst this
  rfl
 ·exact hf.T t v hv'
section
variable {P : Program} {cx : Cx} (hT : q31 P cx.tt) (hD : q0D P cx.D) (hM : q3a P cx.M)
include hT hD hM in
theorem q52 {g : G} (hnt : cx.nt = g.nt) {ops : List Oper} {K : AS → Prop} {Q : Exit → Act → World → Prop} (hK : ∀ s' a w ι Fr, K s' → Rel g s' a w ι Fr → Q .normal a w) :
  ∀ (r pre : List Oper), ops = pre ++ r → ∀ (s : AS) (a : Act) (w : World) (ι : q0x) (Fr : Nat → Nat → Prop), Rel g s a w ι Fr → (∀ id, q22 (q25 cx.nt r) id = true → q0l s id) →
   qTh cx ops r s K → wpOps P ops.toArray Q (List.range' pre.length r.length) a w
 | [], pre, _, s, a, w, ι, Fr, h, _, hr => hK _ _ _ _ _ hr h
 | o :: r, pre, hops, s, a, w, ι, Fr, h, hf, hr => by
  have ho : ops.toArray[pre.length]? = some o := by subst hops; simp
  have hsub : ∀ id, q22 (q25 cx.nt r) id = true → q0l s id := fun id hid => hf id (by
   unfold q22 q25 mem
   have : mem (id / 64) (q25 cx.nt r) = true := hid
   simp [this])
  rw [List.length_cons, qAR, ho]
  simp only [qTh] at hr
  split at hr
  ·rename_i ob s1 hm
   obtain ⟨hob, hr⟩ := hr
   obtain ⟨hg, hdoes⟩ := qOC (P := P) hM hnt h hm hob
   have hw : Region.wanted o (yielded ops.toArray a.tmps) = true := by
    unfold Region.wanted
    rw [hg]
   simp only [hw, if_true]
   left
   refine hdoes _ _ fun a' w' ι' Fr' h' => ?_
   have := q52 hnt hK r (pre ++ [o]) (by simp [hops]) s1 a' w' ι' Fr' h' (fun id hid => qEz hm (hsub id hid)) hr
   simpa using this
  ·split at hr
   ·rename_i d n hm
    obtain ⟨hg, b, hb, hdoes⟩ := qRk (P := P) hT hnt h hm
    have hw : Region.wanted o (yielded ops.toArray a.tmps) = true := by
     unfold Region.wanted
     rw [hg]
    simp only [hw, if_true]
    left
    refine hdoes _ _ fun a' w' ι' Fr' h' => ?_
    have := q52 hnt hK r (pre ++ [o]) (by simp [hops]) _ a' w' ι' Fr' h' (fun id hid => qBn (hsub id hid)) (hr b hb)
    simpa using this
   split at hr
   ·rename_i e he
    split at hr
    ·rename_i hoff
     obtain ⟨hob, hr⟩ := qD8 hr
     replace hr := qDp hr
     have hnames : ∀ id, q22 (q25 cx.nt r) id = true → id ∉ e.names := by
      intro id hid hm
      have := (List.all_eq_true.1 hoff) id hm
      rw [hid] at this; simp at this
     have hfr : ∀ id, id / 64 = qK6 cx.nt o + 1 → q0l s id := fun id hid => hf id (by unfold q22 q25 mem; simp [hid])
     have hnext : ∀ a' w' ι' Fr', Rel g (s.app o.dst e) a' w' ι' Fr' → wpOps P ops.toArray Q (List.range' (pre.length + 1) r.length) a' w' := by
      intro a' w' ι' Fr' h'
      have := q52 hnt hK r (pre ++ [o]) (by simp [hops]) (s.app o.dst e) a' w' ι' Fr' h' (fun id hid => (hsub id hid).app (hnames id hid)) hr
      simpa using this
     have := qDb hT hD h (ops := ops) hnt hfr he hob (next := wpOps P ops.toArray Q (List.range' (pre.length + 1) r.length)) (Q := Q) hnext
     simp only []
     split
     ·rename_i hw
      rw [hw, if_pos rfl] at this
      exact .inl this
     ·rename_i hw
      rw [if_neg hw] at this
      exact this
    ·exact hr.elim
   ·exact hr.elim
end
structure SLe (s s' : AS) : Prop where
 le : ∀ (g : G) (a : Act) (w : World) (ι : q0x) (Fr : Nat → Nat → Prop), Rel g s a w ι Fr → ∃ ι' Fr', Rel g s' a w ι' Fr'
theorem SLe.refl (s : AS) : SLe s s := ⟨fun _ _ _ ι Fr h => ⟨ι, Fr, h⟩⟩
theorem SLe.trans {s s' s'' : AS} (h : SLe s s') (h' : SLe s' s'') : SLe s s'' := ⟨fun g a w ι Fr hr => by
 obtain ⟨ι', Fr', hr'⟩ := h.le g a w ι Fr hr
 exact h'.le g a w ι' Fr' hr'⟩
theorem q0X.ren {w : World} {Fr : Nat → Nat → Prop} {ι ι' : q0x} {f : Nat → Nat} {v : V} {x : Value} (h : q0X w Fr ι v x) (hι : ∀ id ∈ v.ids, ι' (f id) = ι id) : q0X w Fr ι' (v.ren f) x := by
 induction h with
 | atom hv hp =>
  rename_i v x
  cases v with
  | osl => simp [isP] at hv
  | oss => simp [isP] at hv
  | oref => simp [isP] at hv
  | omap => simp [isP] at hv
  | agg => simp [isP] at hv
  | tup => simp [isP] at hv
  | fn => simp [isP] at hv
  | cnd => simp [isP] at hv
  | _ => exact .atom hv hp
 | osl hi hn hc hs hcs => exact .osl (by rw [hι _ (by simp [V.ids])]; exact hi) hn hc hs hcs
 | osl0 a hi => exact .osl0 a (by rw [hι _ (by simp [V.ids])]; exact hi)
 | oss hi hn hc hcc hx hs hcs => exact .oss (by rw [hι _ (by simp [V.ids])]; exact hi) hn hc hcc hx hs hcs
 | oss0 a h0 => exact .oss0 a fun e => by rw [hι _ (by simp [V.ids])]; exact h0 e
 | oref hi him => exact .oref (by rw [hι _ (by simp [V.ids])]; exact hi) him
 | omap hi => exact .omap (by rw [hι _ (by simp [V.ids])]; exact hi)
 | agg arr hs _ ih =>
  refine .agg arr (by rw [q0n]; exact hs) fun j hj => ?_
  rw [q0n] at hj
  rw [q36 _ _ _ hj]
  exact ih j hj fun id hid => hι id (q2c hj id hid)
 | tup arr hs _ ih =>
  refine .tup arr (by rw [q0n]; exact hs) fun j hj => ?_
  rw [q0n] at hj
  rw [q36 _ _ _ hj]
  exact ih j hj fun id hid => hι id (q2c hj id hid)
 | fn arr hs _ ih =>
  refine .fn arr (by rw [q0n]; exact hs) fun j hj => ?_
  rw [q0n] at hj
  rw [q36 _ _ _ hj]
  exact ih j hj fun id hid => hι id (q2c hj id hid)
 | cnd _ hf ih => exact .cnd (fun hc => ih hc hι) hf
theorem q8J.ren {w : World} {Fr : Nat → Nat → Prop} {ι ι' : q0x} {f : Nat → Nat} {b sz m : Nat} {blk : Blk} (h : q8J w Fr ι b sz m blk) (hι : ∀ id ∈ blk.ids, ι' (f id) = ι id) :
  q8J w Fr ι' b sz m (blk.ren f) := by
 cases blk with
 | mp => exact h
 | arr => exact h
 | box cs =>
  obtain ⟨cells, e, hh, hsz, hr⟩ := h
  refine ⟨cells, e, hh, by rw [q0n]; exact hsz, fun j hj => ?_⟩
  rw [q0n] at hj
  rw [q36 _ _ _ hj]
  exact (hr j hj).ren fun id hid => hι id (q2c hj id hid)
def q5P (a b x : Nat) : Nat := match Nat.beq x a with
 | true => b
 | false => x
theorem qEY {α β : Type} {a b : Nat} (f : α → β) (hab : a ≠ b) : ∀ (l : List (Nat × α)) (k : Nat), lk l b = none →
  lk (l.map fun e => (q5P a b e.1, f e.2)) k = if k = b then (lk l a).map f else if k = a then none else (lk l k).map f
 | [], k, _ => by simp [lk]
 | (j, x) :: r, k, h => by
  simp only [lk] at h
  cases hjb : Nat.beq j b with
  | true => rw [hjb] at h; simp at h
  | false =>
   rw [hjb] at h
   have ih := qEY f hab r k h
   have hjb' := q0z.1 hjb
   simp only [List.map, lk]
   cases hja : Nat.beq j a with
   | true =>
    have hj := q0j.1 hja
    subst hj
    have e1 : q5P j b j = b := by unfold q5P; rw [hja]
    rw [e1]
    cases hkb : Nat.beq b k with
    | true =>
     have := q0j.1 hkb
     subst this
     simp
    | false =>
     have hk : k ≠ b := fun e => q0z.1 hkb e.symm
     simp only [ih, hk, if_false]
     by_cases hkj : k = j
     ·simp [hkj]
     ·simp only [hkj, if_false]
      rw [q0z.2 (fun e => hkj e.symm)]
   | false =>
    have hja' := q0z.1 hja
    have e1 : q5P a b j = j := by unfold q5P; rw [hja]
    rw [e1]
    cases hjk : Nat.beq j k with
    | true =>
     have := q0j.1 hjk
     subst this
     simp [hjb', hja']
    | false => simp only [ih]
theorem Rel.renId {g : G} {s : AS} {act : Act} {w : World} {ι : q0x} {Fr : Nat → Nat → Prop} (h : Rel g s act w ι Fr) {a b : Nat} (hab : a ≠ b) (ha : 64 ≤ a) (hf : q0l s b) :
  Rel g (Go.Av.renId a b s) act w (fun k => if k = b then ι a else ι k) Fr := by
 have hren : Go.Av.renId a b s = ⟨s.T.map fun e => (e.1, e.2.ren (q5P a b)), s.S.map fun e => (q5P a b e.1, e.2.ren (q5P a b))⟩ := rfl
 have hsw : ∀ id, id ≠ b → (fun k => if k = b then ι a else ι k) (q5P a b id) = ι id := by
  intro id hid
  unfold q5P
  cases hb : Nat.beq id a with
  | true => have := q0j.1 hb; subst this; simp
  | false => simp [hid]
 have hnot : ∀ {v : V}, V.ment (fun k => Nat.beq k b) v = false → ∀ id ∈ v.ids, id ≠ b := fun {v} hm id hid e => by
  subst e
  rw [qDK v id hid (fun k => Nat.beq k id) (q0j.2 rfl)] at hm; simp at hm
 have hnotB : ∀ {blk : Blk}, blk.ment (fun k => Nat.beq k b) = false → ∀ id ∈ blk.ids, id ≠ b := by
  intro blk hm id hid
  cases blk with
  | mp => simp [Blk.ids] at hid
  | arr => simp [Blk.ids] at hid
  | box cs => exact hnot (v := .agg cs) hm id hid
 have hS : ∀ k blk, lk (Go.Av.renId a b s).S k = some blk → ∃ k0 blk0, lk s.S k0 = some blk0 ∧ blk = blk0.ren (q5P a b) ∧ k0 ≠ b ∧ (if k = b then ι a else ι k) = ι k0 ∧ ((k = b ∧ k0 = a) ∨ (k = k0 ∧ k ≠ b ∧ k ≠ a)) := by
  intro k blk hl
  rw [hren] at hl
  simp only [] at hl
  rw [qEY (Blk.ren (q5P a b)) hab _ _ hf.no] at hl
  split at hl
  ·rename_i hk
   cases hla : lk s.S a with
   | none => rw [hla] at hl; simp at hl
   | some b0 => rw [hla] at hl; simp at hl; exact ⟨a, b0, hla, hl.symm, hab, by simp [hk], .inl ⟨hk, rfl⟩⟩
  ·rename_i hk
   split at hl
   ·simp at hl
   ·rename_i hka
    cases hla : lk s.S k with
    | none => rw [hla] at hl; simp at hl
    | some b0 => rw [hla] at hl; simp at hl; exact ⟨k, b0, hla, hl.symm, hk, by simp [hk], .inr ⟨rfl, hk, hka⟩⟩
 refine
  {h with
   low := fun k hk => by
    have hkb : k ≠ b := by have := hf.ge; omega
    simp only [hkb, if_false]
    exact h.low k hk
   tmp := ?_, own := ?_, nob := ?_, inj := ?_, fr := ?_ }
 ·intro t v ht
  rw [hren] at ht
  simp only [] at ht
  rw [qEN (V.ren (q5P a b))] at ht
  cases hl : lk s.T t with
  | none => rw [hl] at ht; simp at ht
  | some u =>
   rw [hl] at ht
   simp at ht
   subst ht
   exact (h.tmp t u hl).ren fun id hid => hsw id (hnot (hf.T t u hl) id hid)
 ·intro k blk b' sz m hl hi
  obtain ⟨k0, blk0, hl0, rfl, hk0, hik, hor⟩ := hS k blk hl
  rw [hik] at hi
  obtain ⟨h1, h2⟩ := h.own k0 blk0 b' sz m hl0 hi
  refine ⟨h1.ren fun id hid => hsw id (hnotB (hf.S k0 blk0 hl0) id hid), ?_⟩
  rcases hor with ⟨_, rfl⟩ | ⟨rfl, _, _⟩
  ·rcases h2 with h2 | h2
   ·exact .inl h2
   ·omega
  ·exact h2
 ·intro k blk hl hi
  obtain ⟨k0, blk0, hl0, rfl, hk0, hik, _⟩ := hS k blk hl
  rw [hik] at hi
  obtain ⟨sz, hh, te, rfl⟩ := h.nob k0 blk0 hl0 hi
  exact ⟨sz, hh, te, rfl⟩
 ·intro k k' c c' r r' h1 h2 h3 h4 h5
  obtain ⟨k0, b0, hl0, _, hk0, hik, hor⟩ := hS k c h1
  obtain ⟨k1, b1, hl1, _, hk1, hik1, hor1⟩ := hS k' c' h2
  rw [hik] at h3
  rw [hik1] at h4
  have := h.inj k0 k1 b0 b1 r r' hl0 hl1 h3 h4 h5
  subst this
  rcases hor with ⟨rfl, e1⟩ | ⟨rfl, e1, e2⟩ <;> rcases hor1 with ⟨rfl, e3⟩ | ⟨rfl, e3, e4⟩
  ·rfl
  ·exact absurd e1 e4
  ·exact absurd e3 e2
  ·rfl
 ·intro t k hfk
  refine ⟨(h.fr t k hfk).1, (h.fr t k hfk).2.1, ?_⟩
  intro k' c r hl hi
  obtain ⟨k0, b0, hl0, _, _, hik, _⟩ := hS k' c hl
  rw [hik] at hi
  exact (h.fr t k hfk).2.2 k0 b0 r hl0 hi
theorem qCc (a b : Nat) (s : AS) (hb : 64 ≤ b) : SLe s (qHf a b s) := by
 constructor
 intro g act w ι Fr h
 unfold qHf
 cases hab : Nat.beq a b with
 | true => exact ⟨ι, Fr, h⟩
 | false =>
  cases ha : Nat.blt a 64 with
  | true => exact ⟨ι, Fr, h⟩
  | false =>
   have ha' : 64 ≤ a := by
    rcases Nat.lt_or_ge a 64 with hlt | hge
    ·have : Nat.blt a 64 = true := Nat.ble_eq_true_of_le hlt
     rw [this] at ha; simp at ha
    ·exact hge
   exact ⟨_, Fr, (h.purge _).renId (q0z.1 hab) ha' (q4o (q0j.2 rfl) hb)⟩
theorem Rel.tell {g : G} {s : AS} {a : Act} {w : World} {ι : q0x} {Fr : Nat → Nat → Prop} (h : Rel g s a w ι Fr) {t : Nat} {v : V} (hv : q0X w Fr ι v (a.tmps.getD t Go.undef)) :
  Rel g { s with T := Go.Av.put s.T t v } a w ι Fr :=
 {h with
  tmp := fun k u hk => by
   simp only [q1J] at hk
   split at hk
   ·rename_i e
    have : v = u := Option.some.inj hk
    rw [e, ← this]; exact hv
   ·exact h.tmp k u hk }
theorem qE1 {w : World} {Fr : Nat → Nat → Prop} {ι : q0x} {x : Value} (h : q0X w Fr ι .nil x) : ∃ a, x = .slice a 0 0 := by
 cases h with
 | atom _ hp => cases hp; exact ⟨_, rfl⟩
theorem qEW (t : Nat) : 64 ≤ q1l t := by unfold q1l; omega
theorem qFt (id i : Nat) : 64 ≤ q2s id i := by unfold q2s; omega
theorem qOr (t sz : Nat) (s : AS) : SLe s (x14 t sz s) := by
 constructor
 intro g a w ι Fr h
 unfold x14
 split
 ·exact (qCc _ _ s (qEW t)).le g a w ι Fr h
 ·rename_i hl
  obtain ⟨ad, hx⟩ := qE1 (h.tmp t _ hl)
  have h1 := (h.purge (fun x => Nat.beq x (q1l t))).addNil (id := q1l t) (q4o (q0j.2 rfl) (qEW t)) (sz := sz) (te := q0i) (f := fun _ => .undef)
  exact ⟨_, _, h1.tell (t := t) (v := .osl (q1l t) 0) (by rw [hx]; exact .osl0 ad (by simp [q7Q]))⟩
 ·exact ⟨ι, Fr, h⟩
theorem qOV (id i sz : Nat) (s : AS) : SLe s (qYK id i sz s) := by
 constructor
 intro g a w ι Fr h
 unfold qYK
 split
 ·rename_i cs hl
  split
  ·exact (qCc _ _ s (qFt id i)).le g a w ι Fr h
  ·rename_i hci
   have hp := h.purge (fun x => Nat.beq x (q2s id i))
   simp only []
   split
   ·rename_i cs1 hl1
    have hfr := q4o (p := fun x => Nat.beq x (q2s id i)) (s := s) (id := q2s id i) (q0j.2 rfl) (qFt id i)
    have hne : id ≠ q2s id i := fun e => by
     have := (q3R hl1).1
     rw [q0j.2 e] at this; simp at this
    have h1 := hp.addNil (id := q2s id i) hfr (sz := sz) (te := q0i) (f := fun _ => .undef)
    have hl2 : lk (put (purge (fun x => Nat.beq x (q2s id i)) s).S (q2s id i) (.arr sz 0 (fun _ => .undef) q0i)) id = some (.box cs1) := by
     rw [q1J]; simp [hne, hl1]
    cases hi : q7Q ι (q2s id i) none id with
    | none =>
     obtain ⟨_, _, _, hb⟩ := h1.nob id _ hl2 hi
     cases hb
    | some r =>
     obtain ⟨b, z, m⟩ := r
     obtain ⟨hown, _⟩ := h1.own id _ b z m hl2 hi
     obtain ⟨cells, e, hh, hsz, hr⟩ := hown
     have hcs1 : cs1[i]? = some .nil := by
      obtain ⟨_, b', hb', hc⟩ := q3R hl1
      rw [hl] at hb'
      have : Blk.box cs = b' := Option.some.inj hb'
      subst this
      have : cs1 = cs.map (qB6 fun x => Nat.beq x (q2s id i)) := by injection hc
      rw [this]
      simp [hci, qB6, V.ment]
     have hilt : i < cs1.length := (List.getElem?_eq_some_iff.1 hcs1).1
     have hnew : q8J w Fr (q7Q ι (q2s id i) none) b z m (.box (cs1.set i (.osl (q2s id i) 0))) := by
      refine ⟨cells, e, hh, by simpa using hsz, fun j hj => ?_⟩
      have hj' : j < cs1.length := by simpa using hj
      have hrj := hr j hj'
      by_cases hij : i = j
      ·subst hij
       have e1 : (cs1.set i (.osl (q2s id i) 0)).getD i .undef = .osl (q2s id i) 0 := by simp [List.getD, hilt]
       have e2 : cs1.getD i .undef = .nil := by simp [List.getD, hcs1]
       rw [e1]
       rw [e2] at hrj
       obtain ⟨ad, hx⟩ := qE1 hrj
       rw [hx]
       exact .osl0 ad (by simp [q7Q])
      ·have e1 : (cs1.set i (.osl (q2s id i) 0)).getD j .undef = cs1.getD j .undef := by simp [List.getD, List.getElem?_set_ne hij]
       rw [e1]; exact hrj
     have h2 := h1.setOwn (w' := w) (new := .box (cs1.set i (.osl (q2s id i) 0))) hl2 hi rfl rfl rfl rfl (fun _ _ => rfl) (fun _ _ hs => hs) hnew
     refine ⟨_, _, h2.congr (fun _ => rfl) fun k => ?_⟩
     simp only [q1J]
     by_cases hk : k = q2s id i
     ·subst hk
      simp only [if_true]
      rw [if_neg (fun e => hne e.symm)]
     ·simp only [hk, if_false]
   ·exact ⟨ι, Fr, hp⟩
  ·exact ⟨ι, Fr, h⟩
 ·exact ⟨ι, Fr, h⟩
theorem qB5 : ∀ (l : List (Nat × Option Nat)) (s : AS), SLe s (qNq l s)
 | [], s => SLe.refl s
 | (t, some sz) :: r, s => (qOr t sz s).trans (qB5 r _)
 | (_, none) :: r, s => qB5 r s
theorem qCV (id : Nat) : ∀ (l : List (Nat × Nat)) (s : AS), SLe s (qMM id l s)
 | [], s => SLe.refl s
 | (i, sz) :: r, s => (qOV id i sz s).trans (qCV id r _)
theorem qEj : ∀ (l : List (Nat × List (Nat × Nat))) (s : AS), SLe s (qSg l s)
 | [], s => SLe.refl s
 | (id, l) :: r, s => (qCV id l s).trans (qEj r _)
theorem qEH {T : List (Nat × V)} : ∀ {l : List (Nat × Option Nat)} {t : Nat} {v : V}, lk (qIr T l) t = some v → lk T t = some v
 | [], _, _, h => by simp [qIr, lk] at h
 | (k, _) :: r, t, v, h => by
  simp only [qIr] at h
  split at h
  ·rename_i u hu
   simp only [lk] at h
   split at h
   ·rename_i hk
    rw [← q0j.1 hk, hu]; exact h
   ·exact qEH h
  ·exact qEH h
theorem qEC {S : List (Nat × Blk)} : ∀ {l : List Nat} {t : Nat} {v : Blk}, lk (qJu S l) t = some v → lk S t = some v
 | [], _, _, h => by simp [qJu, lk] at h
 | k :: r, t, v, h => by
  simp only [qJu] at h
  split at h
  ·rename_i u hu
   simp only [lk] at h
   split at h
   ·rename_i hk
    rw [← q0j.1 hk, hu]; exact h
   ·exact qEC h
  ·exact qEC h
theorem qJl (l : LK) (s : AS) : SLe s (qQ0 l s) := by
 refine ((qB5 l.ts s).trans (qEj l.bs _)).trans ⟨?_⟩
 intro g a w ι Fr h
 exact ⟨ι, Fr, h.less (fun _ _ ht => qEH ht) fun _ _ hl => qEC hl⟩
theorem q6s (cx : Cx) (c : Code) (s : AS) : SLe s (qWG cx c s) := by
 unfold qWG
 split
 ·exact qJl _ s
 ·exact SLe.refl s
def x3T (L : q0O) (B : (Exit → AS → Prop) → AS → Prop) (m : AS → AS) (Q : Exit → AS → Prop) (s : AS) : Prop :=
 (∃ x, SLe (m s) (L.st x) ∧ L.I x) ∧
  ∀ x, L.I x → B (fun e s' => match e with
   | .normal => ∃ y, SLe (m s') (L.st y) ∧ L.I y ∧ L.μ y < L.μ x
   | e => Q e s') (L.st x)
def qWu (L : q0O) (B : (Exit → AS → Prop) → AS → Prop) (m : AS → AS) (Q : Exit → AS → Prop) (s : AS) : Prop :=
 ∃ R : L.α → Prop, (∃ x, SLe (m s) (L.st x) ∧ L.I x ∧ R x) ∧
  ∀ x, L.I x → R x → B (fun e s' => match e with
   | .normal => ∃ y, SLe (m s') (L.st y) ∧ L.I y ∧ R y ∧ L.μ y < L.μ x
   | e => Q e s') (L.st x)
def qVF (L : q0O) (B : (Exit → AS → Prop) → AS → Prop) (m : AS → AS) (Q : Exit → AS → Prop) (s : AS) : Prop :=
 ∃ N : Nat, B (fun e s' => match e with
   | .normal => ∃ y, SLe (m s') (L.st y) ∧ L.I y ∧ L.μ y < N
   | e => Q e s') s ∧
  ∀ x, L.I x → B (fun e s' => match e with
   | .normal => ∃ y, SLe (m s') (L.st y) ∧ L.I y ∧ L.μ y < L.μ x
   | e => Q e s') (L.st x)
def awp (cx : Cx) : Code → (Exit → AS → Prop) → AS → Prop
 | .skip, Q, s => Q .normal s
 | .region id ops draw, Q, s => match mem id cx.ms with
  | true => qQY cx ops.toList draw s (Q .normal)
  | false => match mem id cx.cuts with
   | true => False
   | false => region cx ops.toList draw s (Q .normal)
 | .seq a b, Q, s => awp cx a (qWa (awp cx b Q) Q) s
 | .cond c a b, Q, s => match q1T s c with
  | .bool t => (t = true → awp cx a Q s) ∧ (t = false → awp cx b Q s)
  | _ => False
 | .block id a, Q, s => awp cx a (qMY id Q) s
 | .loop a, Q, s => match cx.invs (q2T a) with
  | some L => match mem (q2T a) cx.nest with
   | true => qWu L (awp cx a) (qWG cx a) Q s
   | false => match mem (q2T a + 1000000) cx.nest with
    | true => qVF L (awp cx a) (qWG cx a) Q s
    | false => x3T L (awp cx a) (qWG cx a) Q s
  | none => False
 | .exit id, Q, s => Q (.exit id) s
 | .ret, Q, s => Q .ret s
 | _, _, _ => False
theorem Rel.drawn {g : G} {s : AS} {a : Act} {w : World} {ι : q0x} {Fr : Nat → Nat → Prop} (h : Rel g s a w ι Fr) : Rel g s a { w with drawn := w.drawn + 1 } ι Fr :=
 h.grow rfl rfl rfl (Nat.le_refl _) fun _ _ => rfl
theorem qIA {nt : Nat} {ops : List Oper} {k : Nat} (h : q22 (q25 nt ops) k = true) : 64 ≤ k := by
 have key : ∀ (ops : List Oper), ∀ q ∈ q25 nt ops, 1 ≤ q := by
  intro ops
  induction ops with
  | nil => intro q hq; simp [q25] at hq
  | cons o r ih =>
   intro q hq
   simp only [q25, List.mem_cons] at hq
   rcases hq with rfl | hq
   ·omega
   ·exact ih q hq
 have := key ops _ (q4n.1 h)
 omega
section
variable {P : Program} {cx : Cx} (hT : q31 P cx.tt) (hD : q0D P cx.D) (hM : q3a P cx.M) (hm : P.follows .mixedOrders = true)
include hT hD hm in
theorem qEO {g : G} (hnt : cx.nt = g.nt) {id : Nat} {ops : Array Oper} {draw : Bool} {K : AS → Prop} {Q : Exit → Act → World → Prop}
  (hK : ∀ s a w ι Fr, K s → Rel g s a w ι Fr → Q .normal a w) {s : AS} {a : Act} {w : World} {ι : q0x} {Fr : Nat → Nat → Prop} (hr : region cx ops.toList draw s K) (h : Rel g s a w ι Fr) :
  (Code.region id ops draw).wp P Q a w := by
 have hfresh : ∀ k, q22 (q25 cx.nt ops.toList) k = true → q0l (purge (q22 (q25 cx.nt ops.toList)) s) k := fun k hk => q4o hk (qIA hk)
 have hp := h.purge (q22 (q25 cx.nt ops.toList))
 unfold region at hr
 cases draw with
 | false =>
  refine wp_region ?_
  have := qAp hT hD hnt (ops := ops.toList) (Q := Q) (fun s' es' a w ι Fr hk hrel => hK _ a w ι Fr hk (hrel.only cx.keep)) ops.toList [] rfl _ [] a w ι Fr hp hfresh hr
  simpa [List.range_eq_range'] using this
 | true =>
  refine wp_region_any hm ?_
  obtain ⟨L, hL, hf, hk⟩ := q9V hr
  have hzip : ops.toList.zip (((L.map (fun p : Oper × Ef => p.2)).reverse ++ []).reverse) = L := by
   rw [List.append_nil, List.reverse_reverse, ← hL]
   clear hL hf hk hr hfresh hp
   induction L with
   | nil => rfl
   | cons p r ih => simp only [List.map_cons, List.zip_cons_cons, ih]
  simp only [hzip] at hk
  split at hk
  ·rename_i hb
   simp only [Bool.and_eq_true] at hb
   have hlen : ops.size = ops.toList.length := by simp
   refine qJW hT hD hnt (ops := ops.toList) hL hf hfresh hb.1 hb.2 (fun a w ι Fr hrel => hK _ a w ι Fr hk (hrel.only cx.keep)) ops.size (Array.replicate ops.size false) a { w with drawn := w.drawn + 1 } ι Fr (by simp) ?_ ?_ ?_
   ·have : ∀ n, q61 (fun i => (Array.replicate ops.size false).getD i false) n ≤ n := by
     intro n
     induction n with
     | zero => exact Nat.le_refl _
     | succ n ih => simp only [q61]; split <;> omega
    rw [hlen]; exact this _
   ·intro i hi
    have : (Array.replicate ops.size false).getD i false = false := by
     simp only [Array.getD]
     split <;> simp
    rw [this] at hi; simp at hi
   ·rw [q8r fun j _ => by
     simp only [Array.getD]
     split <;> simp]
    exact hp.drawn
  ·exact hk.elim
include hT hD hM hm in
theorem q2b {g : G} (hnt : cx.nt = g.nt) : ∀ (c : Code) (A : Exit → AS → Prop) (Q : Exit → Act → World → Prop), (∀ e s a w ι Fr, A e s → Rel g s a w ι Fr → Q e a w) →
  ∀ (s : AS) (a : Act) (w : World) (ι : q0x) (Fr : Nat → Nat → Prop), awp cx c A s → Rel g s a w ι Fr → c.wp P Q a w
 | .skip, A, Q, hA, s, a, w, ι, Fr, h, hr => wp_skip (hA _ _ _ _ _ _ h hr)
 | .region id ops draw, A, Q, hA, s, a, w, ι, Fr, h, hr => by
  simp only [awp] at h
  split at h
  ·cases draw with
   | true => exact h.elim
   | false =>
    have hfresh : ∀ k, q22 (q25 cx.nt ops.toList) k = true → q0l (purge (q22 (q25 cx.nt ops.toList)) s) k := fun k hk => q4o hk (qIA hk)
    have hp := hr.purge (q22 (q25 cx.nt ops.toList))
    refine wp_region ?_
    have := q52 hT hD hM hnt (ops := ops.toList) (Q := Q) (fun s' a w ι Fr hk hrel => hA .normal _ a w ι Fr hk (hrel.only cx.keep)) ops.toList [] rfl _ a w ι Fr hp hfresh h
    simpa [List.range_eq_range'] using this
  split at h
  ·exact h.elim
  ·exact qEO hT hD hm hnt (K := A .normal) (fun s a w ι Fr hk hrel => hA .normal s a w ι Fr hk hrel) h hr
 | .seq x y, A, Q, hA, s, a, w, ι, Fr, h, hr => by
  refine wp_seq (q2b hnt x (qWa (awp cx y A) A) _ ?_ s a w ι Fr h hr)
  intro e s a w ι Fr he hrel
  cases e with
  | normal => exact q2b hnt y A Q hA s a w ι Fr he hrel
  | _ => exact hA _ _ _ _ _ _ he hrel
 | .cond c x y, A, Q, hA, s, a, w, ι, Fr, h, hr => by
  simp only [awp] at h
  split at h
  ·rename_i t ht
   have hv := q4P hr c
   rw [ht] at hv
   exact wp_cond_split (q3U hv) (fun e => q2b hnt x A Q hA s a w ι Fr (h.1 e) hr) (fun e => q2b hnt y A Q hA s a w ι Fr (h.2 e) hr)
  ·exact h.elim
 | .block id x, A, Q, hA, s, a, w, ι, Fr, h, hr => by
  refine wp_block (q2b hnt x (qMY id A) _ ?_ s a w ι Fr h hr)
  intro e s a w ι Fr he hrel
  cases e with
  | exit j =>
   simp only [qMY] at he
   simp only [Exit.inBlock]
   split at he
   ·rename_i hj
    rw [if_pos (q0j.1 hj)]
    exact hA _ _ _ _ _ _ he hrel
   ·rename_i hj
    rw [if_neg (q0z.1 hj)]
    exact hA _ _ _ _ _ _ he hrel
  | _ => exact hA _ _ _ _ _ _ he hrel
 | .loop x, A, Q, hA, s, a, w, ι, Fr, h, hr => by
  simp only [awp] at h
  cases hL : cx.invs (q2T x) with
  | none => rw [hL] at h; exact h.elim
  | some L =>
  rw [hL] at h
  simp only [] at h
  split at h
  ·obtain ⟨R, ⟨x0, h0, hI0, hR0⟩, hround⟩ := h
   have key : ∀ (n : Nat) (y : L.α), L.I y → R y → L.μ y < n → ∀ (a : Act) (w : World) (ι : q0x) (Fr : Nat → Nat → Prop), Rel g (L.st y) a w ι Fr → Code.rounds P x Q n a w := by
    intro n
    induction n with
    | zero => intro y _ _ hlt; omega
    | succ n ih =>
     intro y hIy hRy hlt a w ι Fr hrel
     rw [rounds_succ]
     refine q2b hnt x _ _ ?_ (L.st y) a w ι Fr (hround y hIy hRy) hrel
     intro e s' a' w' ι' Fr' he hrel'
     cases e with
     | normal =>
      obtain ⟨z, hz, hIz, hRz, hμ⟩ := he
      obtain ⟨ι1, Fr1, h1⟩ := (q6s cx x s').le g a' w' ι' Fr' hrel'
      obtain ⟨ι2, Fr2, h2⟩ := hz.le g a' w' ι1 Fr1 h1
      exact ih z hIz hRz (by omega) a' w' ι2 Fr2 h2
     | _ => exact hA _ _ _ _ _ _ he hrel'
   obtain ⟨ι1, Fr1, h1⟩ := (q6s cx x s).le g a w ι Fr hr
   obtain ⟨ι2, Fr2, h2⟩ := h0.le g a w ι1 Fr1 h1
   exact wp_loop_rounds (L.μ x0 + 1) (key _ x0 hI0 hR0 (by omega) a w ι2 Fr2 h2)
  split at h
  ·obtain ⟨N, h0, hround⟩ := h
   have key : ∀ (n : Nat) (y : L.α), L.I y → L.μ y < n → ∀ (a : Act) (w : World) (ι : q0x) (Fr : Nat → Nat → Prop), Rel g (L.st y) a w ι Fr → Code.rounds P x Q n a w := by
    intro n
    induction n with
    | zero => intro y _ hlt; omega
    | succ n ih =>
     intro y hIy hlt a w ι Fr hrel
     rw [rounds_succ]
     refine q2b hnt x _ _ ?_ (L.st y) a w ι Fr (hround y hIy) hrel
     intro e s' a' w' ι' Fr' he hrel'
     cases e with
     | normal =>
      obtain ⟨z, hz, hIz, hμ⟩ := he
      obtain ⟨ι1, Fr1, h1⟩ := (q6s cx x s').le g a' w' ι' Fr' hrel'
      obtain ⟨ι2, Fr2, h2⟩ := hz.le g a' w' ι1 Fr1 h1
      exact ih z hIz (by omega) a' w' ι2 Fr2 h2
     | _ => exact hA _ _ _ _ _ _ he hrel'
   refine wp_loop_rounds (N + 1) ?_
   rw [rounds_succ]
   refine q2b hnt x _ _ ?_ s a w ι Fr h0 hr
   intro e s' a' w' ι' Fr' he hrel'
   cases e with
   | normal =>
    obtain ⟨z, hz, hIz, hμ⟩ := he
    obtain ⟨ι1, Fr1, h1⟩ := (q6s cx x s').le g a' w' ι' Fr' hrel'
    obtain ⟨ι2, Fr2, h2⟩ := hz.le g a' w' ι1 Fr1 h1
    exact key N z hIz hμ a' w' ι2 Fr2 h2
   | _ => exact hA _ _ _ _ _ _ he hrel'
  ·obtain ⟨⟨x0, h0, hI0⟩, hround⟩ := h
   have key : ∀ (n : Nat) (y : L.α), L.I y → L.μ y < n → ∀ (a : Act) (w : World) (ι : q0x) (Fr : Nat → Nat → Prop), Rel g (L.st y) a w ι Fr → Code.rounds P x Q n a w := by
    intro n
    induction n with
    | zero => intro y _ hlt; omega
    | succ n ih =>
     intro y hIy hlt a w ι Fr hrel
     rw [rounds_succ]
     refine q2b hnt x _ _ ?_ (L.st y) a w ι Fr (hround y hIy) hrel
     intro e s' a' w' ι' Fr' he hrel'
     cases e with
     | normal =>
      obtain ⟨z, hz, hIz, hμ⟩ := he
      obtain ⟨ι1, Fr1, h1⟩ := (q6s cx x s').le g a' w' ι' Fr' hrel'
      obtain ⟨ι2, Fr2, h2⟩ := hz.le g a' w' ι1 Fr1 h1
      exact ih z hIz (by omega) a' w' ι2 Fr2 h2
     | _ => exact hA _ _ _ _ _ _ he hrel'
   obtain ⟨ι1, Fr1, h1⟩ := (q6s cx x s).le g a w ι Fr hr
   obtain ⟨ι2, Fr2, h2⟩ := h0.le g a w ι1 Fr1 h1
   exact wp_loop_rounds (L.μ x0 + 1) (key _ x0 hI0 (by omega) a w ι2 Fr2 h2)
 | .exit id, A, Q, hA, s, a, w, ι, Fr, h, hr => wp_exit (hA _ _ _ _ _ _ h hr)
 | .ret, A, Q, hA, s, a, w, ι, Fr, h, hr => wp_ret (hA _ _ _ _ _ _ h hr)
 | .rangeFunc .., A, Q, hA, s, a, w, ι, Fr, h, hr => h.elim
 | .scope .., A, Q, hA, s, a, w, ι, Fr, h, hr => h.elim
 | .label .., A, Q, hA, s, a, w, ι, Fr, h, hr => h.elim
 | .goto .., A, Q, hA, s, a, w, ι, Fr, h, hr => h.elim
 | .refuse .., A, Q, hA, s, a, w, ι, Fr, h, hr => h.elim
end
end Go.Av
