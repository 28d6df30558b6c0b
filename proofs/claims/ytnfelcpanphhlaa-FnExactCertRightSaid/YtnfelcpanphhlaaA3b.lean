/- Operations that only read: loads, addresses, fields, slices, lengths. -/
import Derived.Test.YtnfelcpanphhlaaA3
namespace Go.Av
set_option linter.unusedVariables false
set_option linter.unusedSimpArgs false

theorem add_none (b o j : Nat) : (⟨b, o, none⟩ : Addr).add j = ⟨b, o + j, none⟩ := by
  unfold Addr.add
  split
  · rename_i h; subst h; rfl
  · rfl

theorem cell_of {w : World} {b k : Nat} {cells : Array Value} {e : TypeId} {f : Nat × Nat} (h : w.heap[b]? = some (.cells cells e f)) (hk : k < cells.size) :
    w.cell? ⟨b, k, none⟩ = some (cells.getD k Go.undef) := by
  unfold World.cell?
  simp [h, hk]

theorem tagL_getD (f : Nat → Nat) : ∀ (cs : List V) (j : Nat), j < cs.length → (V.tagL f cs).getD j .undef = V.tag f (cs.getD j .undef)
  | [], _, h => by simp at h
  | _ :: _, 0, _ => by simp [V.tagL]
  | _ :: cs, j + 1, h => by simpa [V.tagL] using tagL_getD f cs j (by simpa using h)

theorem tagL_length (f : Nat → Nat) : ∀ cs : List V, (V.tagL f cs).length = cs.length
  | [] => rfl
  | _ :: cs => by simp [V.tagL, tagL_length f cs]

theorem PRep.retag {w : World} {Fr : Nat → Nat → Prop} {ι : Iota} {t : Nat} {v : V} {x : Value} (h : PRep w (Fr t) v x) : TRep w Fr ι (v.tag fun _ => t) x := by
  induction h with
  | int k n => exact .atom rfl (.int k n)
  | bool b => exact .atom rfl (.bool b)
  | str s => exact .atom rfl (.str s)
  | nil a => exact .atom rfl (.nil a)
  | sl0 a c g t => exact .atom rfl (.sl0 a c g _)
  | sl cv hA hcap hsz hc hr => exact .atom rfl (.sl cv hA hcap hsz hc hr)
  | ptr cv hA hc hr => exact .atom rfl (.ptr cv hA hc hr)
  | agg arr hs _ ih => exact .agg arr (by rw [tagL_length]; exact hs) fun j hj => by rw [tagL_length] at hj; rw [tagL_getD _ _ _ hj]; exact ih j hj
  | tup arr hs _ ih => exact .tup arr (by rw [tagL_length]; exact hs) fun j hj => by rw [tagL_length] at hj; rw [tagL_getD _ _ _ hj]; exact ih j hj
  | fn arr hs _ ih => exact .fn arr (by rw [tagL_length]; exact hs) fun j hj => by rw [tagL_length] at hj; rw [tagL_getD _ _ _ hj]; exact ih j hj
  | undef x => exact .atom rfl (.undef x)

section
variable {P : Program} {tt : TT} (hT : TabOk P tt)

include hT in
/-- What lies at a place, read as a type. -/
theorem run_loadVar {t : Nat} {ti : TI} (hl : lk tt t = some ti) {w : World} {b o : Nat} {f : Nat → Value} {cs : List V} {off : Nat} {v : V} (hr : readV ti cs off = some v)
    (hc : ∀ j, j < cs.length → w.cell? ⟨b, o + j, none⟩ = some (f j)) :
    ∃ x, (Instr.loadAt t (.pointer (some ⟨b, o + off, none⟩))).run P w = .ok x w ∧
      ((v = .agg ((cs.drop off).take ti.size) ∧ x = .agg (((List.range ti.size).map fun j => f (off + j)).toArray) ∧ off + ti.size ≤ cs.length) ∨
       (v = cs.getD off .undef ∧ off < cs.length ∧ x = f off)) := by
  unfold readV at hr
  cases hb : Nat.ble (off + ti.size) cs.length with
  | false => simp [hb] at hr
  | true =>
    have hle := Nat.le_of_ble_eq_true hb
    rw [hb] at hr
    cases ha : isAggD ti.desc with
    | true =>
      rw [ha] at hr
      simp only [Option.some.injEq] at hr
      refine ⟨_, ?_, .inl ⟨hr.symm, rfl, hle⟩⟩
      unfold Instr.loadAt Instr.sureAddr loadVar
      simp only [Sem.run_bind, Sem.run_pure, Result.andThen_ok, run_isAgg hT hl, ha, if_true, run_size hT hl]
      rw [run_loadCells w _ _ (fun j => f (off + j)) (fun j hj => by rw [add_none, Nat.add_assoc]; exact hc _ (by omega))]
      rfl
    | false =>
      rw [ha] at hr
      cases hs : ti.size with
      | zero => simp [hs] at hr
      | succ m =>
        cases m with
        | succ m => simp [hs] at hr
        | zero =>
          simp [hs] at hr
          have hlt : off < cs.length := by rw [hs] at hle; omega
          refine ⟨f off, ?_, .inr ⟨?_, hlt, rfl⟩⟩
          · unfold Instr.loadAt Instr.sureAddr loadVar
            simp only [Sem.run_bind, Sem.run_pure, Result.andThen_ok, run_isAgg hT hl, ha, Bool.false_eq_true, if_false, run_load, hc off hlt]
          · simp [List.getD, hr]

theorem agg_slice {w : World} {Fr : Nat → Nat → Prop} {ι : Iota} {cs : List V} {off n : Nat} {f : Nat → Value} (hle : off + n ≤ cs.length)
    (h : ∀ j, j < cs.length → TRep w Fr ι (cs.getD j .undef) (f j)) : TRep w Fr ι (.agg ((cs.drop off).take n)) (.agg (((List.range n).map fun j => f (off + j)).toArray)) := by
  refine .agg _ (by simp; omega) fun j hj => ?_
  have hj' : j < n := by simp at hj; omega
  have e1 : ((cs.drop off).take n).getD j .undef = cs.getD (off + j) .undef := by
    simp [List.getD, List.getElem?_take, hj']
  have e2 : (((List.range n).map fun j => f (off + j)).toArray).getD j Go.undef = f (off + j) := by simp [hj']
  rw [e1, e2]; exact h _ (by omega)

theorem pagg_slice {w : World} {A : Nat → Prop} {cs : List V} {off n : Nat} {f : Nat → Value} (hle : off + n ≤ cs.length)
    (h : ∀ j, j < cs.length → PRep w A (cs.getD j .undef) (f j)) : PRep w A (.agg ((cs.drop off).take n)) (.agg (((List.range n).map fun j => f (off + j)).toArray)) := by
  refine .agg _ (by simp; omega) fun j hj => ?_
  have hj' : j < n := by simp at hj; omega
  have e1 : ((cs.drop off).take n).getD j .undef = cs.getD (off + j) .undef := by
    simp [List.getD, List.getElem?_take, hj']
  have e2 : (((List.range n).map fun j => f (off + j)).toArray).getD j Go.undef = f (off + j) := by simp [hj']
  rw [e1, e2]; exact h _ (by omega)

include hT in
theorem load_sim {g : G} {s : AS} {a : Act} {w : World} {ι : Iota} {Fr : Nat → Nat → Prop} (h : Rel g s a w ι Fr) {t : Nat} {ti : TI} (hl : lk tt t = some ti) {p : V} {x : Value} {e : Ef}
    (he : loadV s.S ti p = some e) (ho : ∀ q ∈ e.ob, q) (hp : TRep w Fr ι p x) :
    e.upd = [] ∧ ∃ y, (Instr.loadAt t x).run P w = .ok y w ∧ TRep w Fr ι e.v y := by
  cases p with
  | ptr cs off tg =>
    simp only [loadV] at he
    cases hr : readV ti cs off with
    | none => simp [hr] at he
    | some v =>
      simp only [hr, ok, Option.some.injEq] at he
      subst he
      cases hp with
      | atom _ hp =>
        cases hp with
        | ptr cv hA hc hpr =>
          obtain ⟨y, hy, hcase⟩ := run_loadVar hT hl hr hc
          refine ⟨rfl, y, hy, ?_⟩
          refine PRep.retag ?_
          rcases hcase with ⟨rfl, rfl, hle⟩ | ⟨rfl, hlt, rfl⟩
          · exact pagg_slice hle hpr
          · exact hpr _ hlt
  | oref id i off =>
    simp only [loadV] at he
    cases hb : lk s.S id with
    | none => simp [hb] at he
    | some blk =>
      cases hp with
      | atom hv _ => simp [isP] at hv
      | @oref _ _ _ b sz m hi him =>
        have hown := (h.own id blk b sz m hb hi).1
        cases blk with
        | box cs =>
          simp only [hb] at he
          cases i with
          | succ i => simp at he
          | zero =>
            cases hr : readV ti cs off with
            | none => simp [hr] at he
            | some v =>
              simp only [hr, Option.some.injEq] at he
              subst he
              obtain ⟨cells, e', hh, hsz, hcr⟩ := hown
              obtain ⟨y, hy, hcase⟩ := run_loadVar hT hl (b := b) (o := 0) (f := fun j => cells.getD j Go.undef) hr (w := w) (fun j hj => by rw [Nat.zero_add]; exact cell_of hh (by omega))
              refine ⟨rfl, y, ?_, ?_⟩
              · rw [Nat.zero_mul]; exact hy
              · rcases hcase with ⟨rfl, rfl, hle⟩ | ⟨rfl, hlt, rfl⟩
                · exact agg_slice hle hcr
                · exact hcr _ hlt
        | arr sz' n g' te =>
          simp only [hb] at he
          cases hr : readV ti (g' i).cells off with
          | none => simp [hr] at he
          | some v =>
            simp only [hr, Option.some.injEq] at he
            subst he
            have hin : i < n := ho _ (List.mem_singleton.2 rfl)
            obtain ⟨rfl, rfl, cells, e', hh, hsz, hlen, hcr⟩ := hown
            have hli := hlen i hin
            have hmul : i * sz' + sz' ≤ cells.size := by
              have h1 : i * sz' + sz' = (i + 1) * sz' := by rw [Nat.add_mul, Nat.one_mul]
              have h2 : (i + 1) * sz' ≤ n * sz' := Nat.mul_le_mul_right _ hin
              omega
            obtain ⟨y, hy, hcase⟩ := run_loadVar hT hl (b := b) (o := i * sz') (f := fun j => cells.getD (i * sz' + j) Go.undef) hr (w := w) (fun j hj => cell_of hh (by omega))
            refine ⟨rfl, y, hy, ?_⟩
            refine PRep.retag ?_
            rcases hcase with ⟨rfl, rfl, hle⟩ | ⟨rfl, hlt, rfl⟩
            · exact pagg_slice hle fun j hj => hcr i j hin (by omega)
            · exact hcr i _ hin (by omega)
  | _ => simp [loadV] at he

include hT in
theorem run_field {st f off : Nat} {ti : TI} (h : fieldOff tt st f = some (off, ti)) (w : World) :
    ∃ fs fd, (underlying st).run P w = .ok (.struct fs) w ∧ fs[f]? = some fd ∧ fd.offset = off ∧ lk tt fd.type = some ti := by
  unfold fieldOff at h
  split at h
  · rename_i fs _ _ _ _ _ hl
    split at h
    · rename_i fd hf
      split at h
      · rename_i ti' hti
        simp only [Option.some.injEq, Prod.mk.injEq] at h
        obtain ⟨rfl, rfl⟩ := h
        exact ⟨fs, fd, run_und hT hl w, by simpa using hf, rfl, hti⟩
      · simp at h
    · simp at h
  · simp at h

include hT in
theorem fieldAddr_sim {w : World} {ι : Iota} {Fr : Nat → Nat → Prop} {st f : Nat} {p : V} {x : Value} {e : Ef} (he : fieldAddrV tt st f p = some e) (hp : TRep w Fr ι p x) :
    e.upd = [] ∧ ∃ y, (Instr.fieldAt st x f).run P w = .ok y w ∧ TRep w Fr ι e.v y := by
  unfold fieldAddrV at he
  cases hf : fieldOff tt st f with
  | none => simp [hf] at he
  | some q =>
    obtain ⟨off', ti⟩ := q
    simp only [hf] at he
    cases hs : ti.size with
    | zero => simp [hs] at he
    | succ m =>
      simp only [hs] at he
      obtain ⟨fs, fd, hu, hfd, hoff, hti⟩ := run_field hT hf w
      have hsz := run_size hT hti w
      have key : ∀ b o, (Instr.fieldAt st (.pointer (some ⟨b, o, none⟩)) f).run P w = .ok (.pointer (some ⟨b, o + off', none⟩)) w := by
        intro b o
        unfold Instr.fieldAt Instr.sureAddr fieldPlace
        simp only [Sem.run_bind, hu, Result.andThen_ok, hfd, Sem.run_pure, hsz, hs, Nat.add_eq_zero_iff, Nat.succ_ne_self, and_false, if_false, Sem.run_ite, add_none, hoff]
      cases p with
      | ptr cs off t =>
        simp only [ok, Option.some.injEq] at he
        subst he
        cases hp with
        | atom _ hp =>
          cases hp with
          | ptr cv hA hc hr => exact ⟨rfl, _, key _ _, .atom rfl (by rw [Nat.add_assoc]; exact .ptr cv hA hc hr)⟩
      | oref id i off =>
        simp only [ok, Option.some.injEq] at he
        subst he
        cases hp with
        | atom hv _ => simp [isP] at hv
        | oref hi him => exact ⟨rfl, _, key _ _, by rw [Nat.add_assoc]; exact .oref hi him⟩
      | _ => simp at he

theorem readV_value {P : Program} {tt : TT} (hT : TabOk P tt) {t : Nat} {ti : TI} (hl : lk tt t = some ti) {w : World} {ι : Iota} {Fr : Nat → Nat → Prop} {cs : List V} {arr : Array Value} {off : Nat} {v : V}
    (hr : readV ti cs off = some v) (hs : arr.size = cs.length) (hc : ∀ j, j < cs.length → TRep w Fr ι (cs.getD j .undef) (arr.getD j Go.undef)) :
    ∃ y, (part t arr off).run P w = .ok y w ∧ TRep w Fr ι v y := by
  unfold readV at hr
  cases hb : Nat.ble (off + ti.size) cs.length with
  | false => simp [hb] at hr
  | true =>
    have hle := Nat.le_of_ble_eq_true hb
    rw [hb] at hr
    cases ha : isAggD ti.desc with
    | true =>
      rw [ha] at hr
      simp only [Option.some.injEq] at hr
      subst hr
      refine ⟨.agg (arr.extract off (off + ti.size)), ?_, ?_⟩
      · unfold part
        simp [run_isAgg hT hl, ha, run_size hT hl]
      · refine .agg _ (by simp; omega) fun j hj => ?_
        have hj' : j < ti.size := by simp at hj; omega
        have e1 : ((cs.drop off).take ti.size).getD j .undef = cs.getD (off + j) .undef := by simp [List.getD, List.getElem?_take, hj']
        have e2 : (arr.extract off (off + ti.size)).getD j Go.undef = arr.getD (off + j) Go.undef := by
          have h1 : j < min (off + ti.size) arr.size - off := by omega
          have h2 : off + j < arr.size := by omega
          simp [h1, h2]
        rw [e1, e2]; exact hc _ (by omega)
    | false =>
      rw [ha] at hr
      cases hs' : ti.size with
      | zero => simp [hs'] at hr
      | succ m =>
        cases m with
        | succ m => simp [hs'] at hr
        | zero =>
          simp [hs'] at hr
          have hlt : off < cs.length := by rw [hs'] at hle; omega
          have hlt' : off < arr.size := by omega
          refine ⟨arr.getD off Go.undef, ?_, ?_⟩
          · unfold part
            simp [run_isAgg hT hl, ha, hlt']
          · have : v = cs.getD off .undef := by simp [List.getD, hr]
            rw [this]; exact hc off hlt

include hT in
theorem field_sim {w : World} {ι : Iota} {Fr : Nat → Nat → Prop} {st f : Nat} {p : V} {x : Value} {e : Ef} (he : fieldV tt st f p = some e) (hp : TRep w Fr ι p x) :
    e.upd = [] ∧ ∃ y, (Instr.field st x f).run P w = .ok y w ∧ TRep w Fr ι e.v y := by
  unfold fieldV at he
  cases hf : fieldOff tt st f with
  | none => simp [hf] at he
  | some q =>
    obtain ⟨off', ti⟩ := q
    simp only [hf] at he
    cases p with
    | agg cs =>
      cases hr : readV ti cs off' with
      | none => simp [hr] at he
      | some v =>
        simp only [hr, ok, Option.some.injEq] at he
        subst he
        obtain ⟨fs, fd, hu, hfd, hoff, hti⟩ := run_field hT hf w
        cases hp with
        | atom hv _ => simp [isP] at hv
        | agg arr hs hc =>
          obtain ⟨y, hy, hv⟩ := readV_value hT hti hr hs hc
          refine ⟨rfl, y, ?_, hv⟩
          unfold Instr.field
          simp [hu, hfd, asAgg, hoff, hy]
    | _ => simp at he

include hT in
theorem run_elem {t : Nat} {ti : TI} (h : elemTI tt t = some ti) (w : World) :
    ∃ e, (underlying t).run P w = .ok (.slice e) w ∧ lk tt e = some ti := by
  unfold elemTI at h
  split at h
  · rename_i e _ _ _ _ _ hl
    exact ⟨e, run_und hT hl w, h⟩
  · simp at h

include hT in
theorem indexAddr_sim {g : G} {s : AS} {a : Act} {w : World} {ι : Iota} {Fr : Nat → Nat → Prop} (h : Rel g s a w ι Fr) {t : Nat} {p ix : V} {x y : Value} {e : Ef}
    (he : indexAddrV tt s.S t p ix = some e) (ho : ∀ q ∈ e.ob, q) (hp : TRep w Fr ι p x) (hi : TRep w Fr ι ix y) :
    e.upd = [] ∧ ∃ z, (Instr.indexAt t x y).run P w = .ok z w ∧ TRep w Fr ι e.v z := by
  unfold indexAddrV at he
  cases hel : elemTI tt t with
  | none => simp [hel] at he
  | some ti =>
    obtain ⟨el, hu, hle⟩ := run_elem hT hel w
    have hsz := run_size hT hle w
    cases ix with
    | int k i =>
      have hy := inv_int hi
      subst hy
      have key : ∀ b o n cap : Nat, 0 ≤ i → i < (n : Int) → (Instr.indexAt t (.slice (some ⟨b, o, none⟩) n cap) (.int k i)).run P w = .ok (.pointer (some ⟨b, o + i.toNat * ti.size, none⟩)) w := by
        intro b o n cap h0 h1
        unfold Instr.indexAt asIntOf
        simp only [Sem.run_bind, Sem.run_pure, Result.andThen_ok, hu, hsz, h0, h1, and_self, if_true, Sem.run_ite, add_none]
      cases p with
      | sl n g' tg =>
        simp only [hel] at he
        cases hb : Nat.beq (g' i.toNat).cells.length ti.size with
        | false => simp [hb] at he
        | true =>
          simp only [hb, okO, Option.some.injEq] at he
          subst he
          have hob := ho _ (List.mem_singleton.2 rfl)
          have hlt : i.toNat < n := by omega
          have hsz' := natBeq.1 hb
          cases hp with
          | atom _ hp =>
            cases hp with
            | sl0 => omega
            | @sl _ _ _ b off cap sz cv hA hcap hlen hc hr =>
              have hs0 := hlen _ hlt
              refine ⟨rfl, _, key _ _ _ _ hob.1 hob.2, ?_⟩
              have e0 : sz = ti.size := by omega
              subst e0
              have hh : ∀ j, j < (g' i.toNat).cells.length → w.cell? ⟨b, off + i.toNat * ti.size + j, none⟩ = some (cv i.toNat j) := fun j hj => hc _ j hlt (by omega)
              exact .atom rfl (.ptr (base := off + i.toNat * ti.size) (off := 0) (cv i.toNat) hA hh fun j hj => hr _ j hlt (by omega))
      | osl id n =>
        simp only [hel] at he
        cases hb : lk s.S id with
        | none => simp [hb] at he
        | some blk =>
          cases blk with
          | box cs => simp [hb] at he
          | arr sz n' g' te =>
            simp only [hb] at he
            cases hbq : Nat.beq sz ti.size with
            | false => simp [hbq] at he
            | true =>
              simp only [hbq, Option.some.injEq] at he
              subst he
              have hob := ho _ (List.mem_singleton.2 rfl)
              have e0 := natBeq.1 hbq
              subst e0
              cases hp with
              | atom hv _ => simp [isP] at hv
              | osl0 => omega
              | @osl _ _ b sz m cap c e1 hid hn hc hs hcs =>
                have hown := (h.own id _ b sz m hb hid).1
                obtain ⟨rfl, _⟩ := hown
                refine ⟨rfl, _, key _ _ _ _ hob.1 hob.2, ?_⟩
                have : (⟨b, 0 + i.toNat * ti.size, none⟩ : Addr) = ⟨b, i.toNat * ti.size + 0, none⟩ := by simp
                rw [this]
                exact .oref hid (by omega)
      | _ => simp [hel] at he
    | _ => simp [hel] at he

end
end Go.Av
