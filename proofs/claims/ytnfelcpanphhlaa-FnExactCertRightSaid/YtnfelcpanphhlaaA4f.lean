/- Append. -/
import Derived.Test.YtnfelcpanphhlaaA4e
namespace Go.Av
set_option linter.unusedVariables false
set_option linter.unusedSimpArgs false

theorem flat_rep {w : World} {A A' : Nat → Prop} {c : V} {v : Value} (h : PRep w A c v) (hf : flatA c = true) : PRep w A' c v := by
  cases h <;> first | (simp [flatA] at hf; done) | skip
  · exact .int _ _
  · exact .bool _
  · exact .str _

theorem PRep.one {w : World} {A : Nat → Prop} {c : V} {v : Value} (h : PRep w A c v) (hs : solidA c = true) : Go.Av.one v = true := by
  cases h <;> first | rfl | (simp [solidA] at hs; done)

theorem flat_solid {c : V} (h : flatA c = true) : solidA c = true := by
  cases c <;> first | rfl | (simp [flatA] at h; done)

theorem cell_solid {x : V} (h : solid x = true) {j : Nat} (hj : j < x.cells.length) : solidA (x.cells.getD j .undef) = true := by
  by_cases hag : ∃ es, x = .agg es
  · obtain ⟨es, rfl⟩ := hag
    exact all_getD (cs := es) h hj
  · have h3 : x.cells = [x] := by
      cases x <;> first | rfl | exact absurd ⟨_, rfl⟩ hag
    have h4 : solidA x = true := by
      cases x <;> first | exact h | exact absurd ⟨_, rfl⟩ hag
    rw [h3] at hj ⊢
    have h5 : j = 0 := by simpa using hj
    subst h5; simpa using h4

section
variable {P : Program} {tt : TT} (hT : TabOk P tt)

theorem load_rows {w : World} {b off m size : Nat} {cv : Nat → Nat → Value} (h : ∀ i j, i < m → j < size → w.cell? ⟨b, off + i * size + j, none⟩ = some (cv i j)) :
    ∃ arr : Array Value, (∀ w' : World, w'.heap = w.heap → (loadCells ⟨b, off, none⟩ (m * size)).run P w' = .ok arr w') ∧ arr.size = m * size ∧ ∀ i j, i < m → j < size → arr.getD (i * size + j) Go.undef = cv i j := by
  have hdiv : ∀ k, k < m * size → k / size < m ∧ k % size < size ∧ k / size * size + k % size = k := by
    intro k hk
    have hpos : 0 < size := by
      rcases Nat.eq_zero_or_pos size with h0 | h0
      · subst h0; simp at hk
      · exact h0
    exact ⟨Nat.div_lt_of_lt_mul (by rw [Nat.mul_comm]; exact hk), Nat.mod_lt _ hpos, by rw [Nat.mul_comm]; exact Nat.div_add_mod k size⟩
  have hrun : ∀ w' : World, w'.heap = w.heap → _ := fun w' hw' => run_loadCells (P := P) w' ⟨b, off, none⟩ (m * size) (fun k => cv (k / size) (k % size)) (fun k hk => by
    obtain ⟨h1, h2, h3⟩ := hdiv k hk
    have := h _ _ h1 h2
    rw [World.cell?_of_block (w := w) (w' := w') (by rw [hw'])]
    rw [add_none]
    rw [show off + k = off + k / size * size + k % size by omega]
    exact this)
  refine ⟨_, hrun, by simp, fun i j hi hj => ?_⟩
  have hlt : i * size + j < m * size := by
    have e1 : i * size + size = (i + 1) * size := by rw [Nat.add_mul, Nat.one_mul]
    have e2 : (i + 1) * size ≤ m * size := Nat.mul_le_mul_right _ hi
    omega
  have e1 : (i * size + j) / size = i := by
    rw [Nat.add_comm, Nat.mul_comm, Nat.add_mul_div_left _ _ (by omega), Nat.div_eq_of_lt hj]; omega
  have e2 : (i * size + j) % size = j := by rw [Nat.mul_comm, Nat.mul_add_mod]; exact Nat.mod_eq_of_lt hj
  simp [hlt, e1, e2]

theorem src_run {g : G} {s : AS} {a : Act} {w : World} {ι : Iota} {Fr : Nat → Nat → Prop} (h : Rel g s a w ι Fr) {x : V} {vx : Value} {m th size : Nat} {f : Nat → V} {rd : List Nat}
    (hs : srcV s.S x = some (m, f, th, rd)) (hx : TRep w Fr ι x vx) (hz : sizedL size m f) (hn : ∀ id n blk, x = .osl id n → lk s.S id = some blk → ∀ sz n' g' te, blk = .arr sz n' g' te → sz = size ∨ n' = 0 ∨ n = 0) :
    ∃ a0 c news, vx = .slice a0 m c ∧ (∀ w' : World, w'.heap = w.heap → (Builtin.firstCells size m vx).run P w' = .ok news w') ∧ news.size = m * size ∧
      ∀ i j, i < m → j < size → PRep w (Fr th) ((f i).cells.getD j .undef) (news.getD (i * size + j) Go.undef) := by
  have empty : ∀ a0 c, ∀ w' : World, w'.heap = w.heap → (Builtin.firstCells size 0 (.slice a0 0 c)).run P w' = .ok #[] w' := by
    intro a0 c w' _
    cases a0 <;> simp [Builtin.firstCells, loadCells, loadCellsFrom]
  cases x with
  | nil =>
    simp only [srcV, Option.some.injEq, Prod.mk.injEq] at hs
    obtain ⟨rfl, rfl, rfl, rfl⟩ := hs
    cases hx with
    | atom _ hp => cases hp; exact ⟨_, _, #[], rfl, empty _ _, by simp, fun i j hi => by omega⟩
  | sl n f' t =>
    simp only [srcV, Option.some.injEq, Prod.mk.injEq] at hs
    obtain ⟨rfl, rfl, rfl, rfl⟩ := hs
    cases hx with
    | atom _ hp =>
      cases hp with
      | sl0 => exact ⟨_, _, #[], rfl, empty _ _, by simp, fun i j hi => by omega⟩
      | @sl _ _ _ b off cap sz cv hA hcap hlen hc hr =>
        by_cases h0 : n = 0
        · subst h0; exact ⟨_, _, #[], rfl, empty _ _, by simp, fun i j hi => by omega⟩
        · have hsz : sz = size := by rw [← hlen 0 (by omega), (hz 0 (by omega)).1]
          subst hsz
          obtain ⟨arr, h1, h2, h3⟩ := load_rows (P := P) (m := n) hc
          exact ⟨_, _, arr, rfl, fun w' hw' => by simpa [Builtin.firstCells] using h1 w' hw', h2, fun i j hi hj => by rw [h3 i j hi hj]; exact hr i j hi hj⟩
  | osl id n =>
    simp only [srcV] at hs
    split at hs
    · rename_i sz n' f' te hl
      simp only [Option.some.injEq, Prod.mk.injEq] at hs
      obtain ⟨rfl, rfl, rfl, rfl⟩ := hs
      cases hx with
      | atom hv _ => simp [isP] at hv
      | osl0 => exact ⟨_, _, #[], rfl, empty _ _, by simp, fun i j hi => by omega⟩
      | @osl _ _ b sz2 m2 cap c e hi hn2 hcap hsh hcs =>
        by_cases h0 : n = 0
        · subst h0; exact ⟨_, _, #[], rfl, empty _ _, by simp, fun i j hi => by omega⟩
        · obtain ⟨rfl, rfl, cells, e', hh, hsz, hlen, hr⟩ := (h.own id _ b sz2 m2 hl hi).1
          have hsz' : sz = size := by rw [← hlen 0 (by omega), (hz 0 (by omega)).1]
          subst hsz'
          obtain ⟨arr, h1, h2, h3⟩ := load_rows (P := P) (w := w) (b := b) (off := 0) (m := n) (size := sz) (cv := fun i j => cells.getD (i * sz + j) Go.undef) (fun i j hi hj => by
            have e1 : i * sz + sz = (i + 1) * sz := by rw [Nat.add_mul, Nat.one_mul]
            have e2 : (i + 1) * sz ≤ n' * sz := Nat.mul_le_mul_right _ (by omega)
            rw [Nat.zero_add]; exact cell_of hh (by omega))
          exact ⟨_, _, arr, rfl, fun w' hw' => by simpa [Builtin.firstCells] using h1 w' hw', h2, fun i j hi hj => by rw [h3 i j hi hj]; exact hr i j (by omega) hj⟩
    · simp at hs
  | _ => simp [srcV] at hs

/-- A block that nobody reaches may be written. -/
theorem Rel.touch {g : G} {s : AS} {a : Act} {w w' : World} {ι : Iota} {Fr : Nat → Nat → Prop} (h : Rel g s a w ι Fr) {b : Nat} (hb0 : g.w0.heap.size ≤ b)
    (hno : ∀ k c r, lk s.S k = some c → ι k = some r → r.1 ≠ b) (hFr : ∀ t, ¬ Fr t b) (hos : w'.os = w.os) (ht : w'.tape = w.tape) (ho : w'.output = w.output) (hsz : w'.heap.size = w.heap.size)
    (hb : ∀ k, k ≠ b → w'.heap[k]? = w.heap[k]?) (hsh : ∀ k e, w.shape? k = some e → w'.shape? k = some e) : Rel g s a w' ι Fr := by
  have hF : ∀ t k, Fr t k → Fr t k ∧ w'.heap[k]? = w.heap[k]? := fun t k hf => ⟨hf, hb k fun e => hFr t (e ▸ hf)⟩
  exact
    { h with
      tmp := fun t v hv => (h.tmp t v hv).world hF hsh
      own := fun id blk b' sz m hl hi => ⟨(h.own id blk b' sz m hl hi).1.mono (p := fun _ => false) (hb b' (hno id blk _ hl hi)) hF (fun _ _ => rfl) (Blk.ment_false blk) (fun _ r e _ _ hs => hsh r.1 e hs), (h.own id blk b' sz m hl hi).2⟩
      fr := fun t k hf => ⟨by rw [hsz]; exact (h.fr t k hf).1, (h.fr t k hf).2⟩
      os := hos.trans h.os
      tape := ht.trans h.tape
      output := ho.trans h.output
      hsize := by rw [hsz]; exact h.hsize
      frame := fun k hlt hio => (hb k (by omega)).trans (h.frame k hlt hio)
      shape := fun k e he => hsh k e (h.shape k e he) }

theorem join_ok {w : World} {Fr : Nat → Nat → Prop} (hS : ∀ b, ¬ Fr tagS b) (h0 : ∀ t b, Fr t b → Fr 0 b) {flat : Bool} {a b m tj : Nat} {f : Nat → V} {jo : List Prop} (h : joinTag flat a b m f = (tj, jo)) (ho : ∀ p ∈ jo, p) :
    (∀ c v, PRep w (Fr a) c v → PRep w (Fr tj) c v) ∧ (∀ i j v, i < m → j < (f i).cells.length → PRep w (Fr b) ((f i).cells.getD j .undef) v → PRep w (Fr tj) ((f i).cells.getD j .undef) v) := by
  unfold joinTag at h
  cases flat with
  | true =>
    simp only at h
    split at h
    · rename_i h1 h2
      have e1 := natBeq.1 h1
      have e2 := natBeq.1 h2
      simp only [Prod.mk.injEq] at h
      obtain ⟨rfl, rfl⟩ := h
      subst e1 e2
      exact ⟨fun _ _ h => h, fun _ _ _ _ _ h => h⟩
    · rename_i h1 h2
      have e1 := natBeq.1 h1
      simp only [Prod.mk.injEq] at h
      obtain ⟨rfl, rfl⟩ := h
      subst e1
      refine ⟨fun _ _ h => h, fun i j v hi hj h => flat_rep h ?_⟩
      have := ho _ (List.mem_singleton.2 rfl) i hi
      exact all_getD (cs := (f i).cells) this hj
    · simp only [Prod.mk.injEq] at h
      obtain ⟨rfl, rfl⟩ := h
      exact ⟨fun _ _ h => h.weaken fun b hb => h0 _ _ hb, fun _ _ _ _ _ h => h.weaken fun b hb => h0 _ _ hb⟩
  | false =>
    simp only at h
    split at h
    · rename_i h1
      have e1 := natBeq.1 h1
      simp only [Prod.mk.injEq] at h
      obtain ⟨rfl, rfl⟩ := h
      subst e1
      exact ⟨fun _ _ h => h, fun _ _ _ _ _ h => h⟩
    · simp only [Prod.mk.injEq] at h
      obtain ⟨rfl, rfl⟩ := h
      exact ⟨fun _ _ h => h.weaken fun b hb => h0 _ _ hb, fun _ _ _ _ _ h => h.weaken fun b hb => h0 _ _ hb⟩


/-- The machine's append in room that is there. -/
theorem run_append_in {t u ty el b n cap m c : Nat} {a0 : Option Addr} {cells news : Array Value} {size : Nat} {w : World} {e : TypeId} (hu : (underlying t).run P w = .ok (.slice el) w) (hu2 : ∃ el2, (underlying u).run P w = .ok (.slice el2) w) (hsz : (sizeOf el).run P w = .ok size w)
    (rest : List TypeId) (hb : w.heap[b]? = some (.cells cells e (0, 0))) (hn : (Builtin.firstCells size m (.slice a0 m c)).run P w = .ok news w) (hone : ∀ v ∈ news.toList, one v = true) (hle : n * size + news.size ≤ cells.size) (hroom : n + m ≤ cap) :
    (Builtin.append_ (t :: u :: rest).toArray ty #[.slice (some ⟨b, 0, none⟩) n cap, .slice a0 m c]).run P w = .ok (.slice (some ⟨b, 0, none⟩) (n + m) cap) (withCells w b (writeArr cells (n * size) news.toList) e) := by
  obtain ⟨el2, hu2⟩ := hu2
  have hst := run_storeCells (P := P) news.toList w cells (n * size) 0 hb (by simp; omega) hone
  have hst' : (storeCells ((⟨b, 0, none⟩ : Addr).add (n * size)) news.toList).run P w = .ok () (withCells w b (writeArr cells (n * size) news.toList) e) := by
    rw [add_none, Nat.zero_add, hst]
    split
    · rename_i h; rw [h, writeArr, withCells_self hb]
    · rw [Nat.add_zero]
  unfold Builtin.append_
  simp [hu, hu2, hsz, Builtin.lenOf, hroom, hn, hst']

/-- The machine's append where there is no room. -/
theorem run_append_new {t u ty el n cap m c : Nat} {base a0 : Option Addr} {old news : Array Value} {size bytes : Nat} {w : World} {i : TypeInfo} {z : Value}
    (hu : (underlying t).run P w = .ok (.slice el) w) (hu2 : ∃ el2, (underlying u).run P w = .ok (.slice el2) w) (hi : P.info? el = some i) (his : i.size = size) (hib : i.bytes = bytes) (hz : i.zero = some z)
    (rest : List TypeId) (hold : ∀ w' : World, w'.heap = w.heap → (Builtin.firstCells size n (.slice base n cap)).run P w' = .ok old w')
    (hn : ∀ w' : World, w'.heap = w.heap → (Builtin.firstCells size m (.slice a0 m c)).run P w' = .ok news w') (hroom : ¬ n + m ≤ cap) (hb1 : 1 ≤ bytes) (hb2 : bytes ≤ 1024) (hmost : n + m ≤ most) :
    (Builtin.append_ (t :: u :: rest).toArray ty #[.slice base n cap, .slice a0 m c]).run P w =
      .ok (.slice (some ⟨w.heap.size, 0, none⟩) (n + m) (grownCap w (n + m) cap el)) (w.drew.alloc (.cells (old ++ news ++ Builtin.zeroCells z.cells (grownCap w (n + m) cap el - (n + m))) el (0, 0))) := by
  subst his hib
  obtain ⟨el2, hu2⟩ := hu2
  have hm : n + m ≤ 1073741824 := by unfold most at hmost; omega
  have hfit : Builtin.nextslicecap (n + m) cap * i.bytes ≤ 281474976710656 := by
    refine growslice_fits (by omega) ?_
    have : (n + m) * i.bytes ≤ 1073741824 * 1024 := Nat.mul_le_mul hm hb2
    omega
  have hno : ¬ (281474976710656 < Builtin.nextslicecap (n + m) cap * i.bytes) := by omega
  have hb0 : ¬ i.bytes = 0 := by omega
  have h1 := hold w.drew rfl
  have h2 := hn w.drew rfl
  unfold Builtin.append_
  simp [hu, hu2, sizeOf, typeInfo, zeroValue, hi, hz, Builtin.lenOf, hroom, hb0, hno, Question.forced, h1, h2, newRow, grownCap]

end
end Go.Av
