/- Operations that leave memory alone, the rest: equality, slices of slices and texts, lengths, the greater of two, and all of them in one statement. -/
import Derived.Test.YtnfelcpanphhlaaA3b
import Derived.Laws.StructEq
namespace Go.Av

section
variable {P : Program} {tt : TT} (hT : TabOk P tt)

theorem inv_agg {w : World} {Fr : Nat → Nat → Prop} {ι : Iota} {cs : List V} {x : Value} (h : TRep w Fr ι (.agg cs) x) :
    ∃ arr : Array Value, x = .agg arr ∧ arr.size = cs.length ∧ ∀ j, j < cs.length → TRep w Fr ι (cs.getD j .undef) (arr.getD j Go.undef) := by
  cases h with
  | atom hv _ => simp [isP] at hv
  | agg arr hs hr => exact ⟨arr, rfl, hs, hr⟩

include hT in
theorem eqFs_run {w : World} {Fr : Nat → Nat → Prop} {ι : Iota} {E : Nat → V → V → Option Bool} {D : Nat} {as bs : List V} {xs ys : Array Value}
    (hE : ∀ t x y p vx vy, E t x y = some p → TRep w Fr ι x vx → TRep w Fr ι y vy → (Op.equalIn D t vx vy).run P w = .ok p w)
    (hx1 : xs.size = as.length) (hx : ∀ j, j < as.length → TRep w Fr ι (as.getD j .undef) (xs.getD j Go.undef))
    (hy1 : ys.size = bs.length) (hy : ∀ j, j < bs.length → TRep w Fr ι (bs.getD j .undef) (ys.getD j Go.undef)) :
    ∀ (fs : List Field) (p : Bool), (∀ f ∈ fs, f.name ≠ "_") → eqFs tt E as bs fs = some p → (Op.eqFields D xs ys fs).run P w = .ok p w
  | [], p, _, h => by
    simp only [eqFs, Option.some.injEq] at h
    subst h
    simp [Op.eqFields]
  | f :: fs, p, hn, h => by
    unfold eqFs at h
    split at h
    case h_2 => simp at h
    case h_1 ti hti =>
      split at h
      case h_2 => simp at h
      case h_1 x y hrx hry =>
        obtain ⟨vx, hvx, hrx'⟩ := readV_value hT hti hrx hx1 hx
        obtain ⟨vy, hvy, hry'⟩ := readV_value hT hti hry hy1 hy
        split at h
        case h_2 => simp at h
        case h_1 q hq =>
          have he := hE _ _ _ _ _ _ hq hrx' hry'
          have hn0 : f.name ≠ "_" := hn f (List.mem_cons_self ..)
          cases fs with
          | nil =>
            simp only [Option.some.injEq] at h
            subst h
            simp only [Op.eqFields, if_pos hn0, Sem.run_bind, hvx, hvy, he, Result.andThen_ok]
            cases q <;> simp
          | cons f' fs' =>
            simp only at h
            split at h
            case h_2 => simp at h
            case h_1 r hr =>
              simp only [Option.some.injEq] at h
              subst h
              have ih := eqFs_run hE hx1 hx hy1 hy (f' :: fs') r (fun g hg => hn g (List.mem_cons_of_mem _ hg)) hr
              rw [Op.eqFields]
              simp only [if_pos hn0, Sem.run_bind, hvx, hvy, he, Result.andThen_ok]
              cases q
              · simp
              · simpa using ih

include hT in
theorem eqT_run {w : World} {Fr : Nat → Nat → Prop} {ι : Iota} : ∀ (d D t : Nat) (x y : V) (p : Bool) (vx vy : Value), d ≤ D → eqT tt d t x y = some p → TRep w Fr ι x vx → TRep w Fr ι y vy →
    (Op.equalIn D t vx vy).run P w = .ok p w
  | 0, _, _, _, _, _, _, _, _, h, _, _ => by simp [eqT] at h
  | d + 1, 0, _, _, _, _, _, _, hd, _, _, _ => by omega
  | d + 1, D + 1, t, x, y, p, vx, vy, hd, h, hx, hy => by
    unfold eqT at h
    split at h
    · rename_i kd _ _ _ _ _ k a k' b hl
      have hx' := inv_int hx
      have hy' := inv_int hy
      subst hx' hy'
      split at h
      · rename_i hk
        have := kindB_eq hk
        subst this
        simp only [Option.some.injEq] at h
        subst h
        exact run_equalIn_int w D t k kd a b (hT.und _ _ hl)
      · simp at h
    · rename_i _ _ _ _ _ a b hl
      have hx' := inv_bool hx
      have hy' := inv_bool hy
      subst hx' hy'
      simp only [Option.some.injEq] at h
      subst h
      exact run_equalIn_bool' w D t a b (hT.und _ _ hl)
    · rename_i _ _ _ _ _ a b hl
      have hx' := inv_str hx
      have hy' := inv_str hy
      subst hx' hy'
      simp only [Option.some.injEq] at h
      subst h
      exact run_equalIn_string w D t a b (hT.und _ _ hl)
    · rename_i fs _ _ _ _ as bs hl
      obtain ⟨xs, rfl, hx1, hx2⟩ := inv_agg hx
      obtain ⟨ys, rfl, hy1, hy2⟩ := inv_agg hy
      obtain ⟨hc1, hc2, hc3⟩ := hT.cmp _ _ hl rfl
      have hu := hT.und _ _ hl
      have hf : P.fieldsOf t = fs := by simp [Program.fieldsOf, hu]
      rw [run_equalIn_struct w D t xs ys (by rw [hf]; exact hu) hc1, hf]
      exact eqFs_run hT (fun t x y p vx vy hE h1 h2 => eqT_run d D t x y p vx vy (by omega) hE h1 h2) hx1 hx2 hy1 hy2 _ p (hc3 fs rfl) h
    · simp at h

theorem eqGuard_run {op : BinOp} {t : Nat} {x y : Operand} {a b : Value} {w : World} (h : ∀ cs ds, a = .agg cs → b = .agg ds → P.eqGuardType P.depth t = false)
    (hn : a ≠ .nilIface) : (eqGuard op t x y a b).run P w = .ok () w := by
  unfold eqGuard
  cases op <;> simp only [Bool.not_false, Bool.not_true, if_true, Bool.false_eq_true, if_false, Sem.run_pure] <;> try rfl
  all_goals
    cases a <;> cases b <;> first
      | rfl
      | exact absurd rfl hn
      | (have := h _ _ rfl rfl; simp [this])
      | simp

include hT in
theorem binV_run {w : World} {Fr : Nat → Nat → Prop} {ι : Iota} {op : BinOp} {t : Nat} {ox oy : Operand} {x y : V} {vx vy : Value} {e : Ef} (he : binV tt op t x y = some e) (ho : ∀ p ∈ e.ob, p)
    (hx : TRep w Fr ι x vx) (hy : TRep w Fr ι y vy) :
    e.upd = [] ∧ ∃ z, (do eqGuard op t ox oy vx vy; binOp op t vx vy : Sem Value).run P w = .ok z w ∧ TRep w Fr ι e.v z := by
  have guard0 : (∀ cs ds, vx = .agg cs → vy = .agg ds → P.eqGuardType P.depth t = false) → vx ≠ .nilIface → ∀ z, (binOp op t vx vy).run P w = .ok z w →
      (do eqGuard op t ox oy vx vy; binOp op t vx vy : Sem Value).run P w = .ok z w := by
    intro h1 h2 z hz
    simp only [Sem.run_bind, eqGuard_run h1 h2, Result.andThen_ok, hz]
  unfold binV at he
  split at he
  · rename_i k a k' b
    have hx' := inv_int hx
    have hy' := inv_int hy
    subst hx' hy'
    split at he
    · rename_i hk
      have := kindB_eq hk
      subst this
      obtain ⟨h1, z, hz, hv⟩ := binInt_run (P := P) (w := w) (t := t) he ho
      exact ⟨h1, z, guard0 (fun _ _ h => by cases h) (by simp) z hz, hv Fr ι⟩
    · simp at he
  · rename_i a b
    have hx' := inv_str hx
    have hy' := inv_str hy
    subst hx' hy'
    obtain ⟨h1, z, hz, hv⟩ := binStr_run (P := P) (w := w) (t := t) he ho
    exact ⟨h1, z, guard0 (fun _ _ h => by cases h) (by simp) z hz, hv Fr ι⟩
  · rename_i a b
    have hx' := inv_bool hx
    have hy' := inv_bool hy
    subst hx' hy'
    split at he
    · rename_i p hp
      simp only [ok, Option.some.injEq] at he
      subst he
      have hr := eqT_run hT 5 10000 t _ _ p _ _ (by omega) hp hx hy
      exact ⟨rfl, .bool p, guard0 (fun _ _ h => by cases h) (by simp) _ (by simp [binOp, Op.equal, Op.maxDepth, hr]), .atom rfl (.bool _)⟩
    · rename_i p hp
      simp only [ok, Option.some.injEq] at he
      subst he
      have hr := eqT_run hT 5 10000 t _ _ p _ _ (by omega) hp hx hy
      exact ⟨rfl, .bool (!p), guard0 (fun _ _ h => by cases h) (by simp) _ (by simp [binOp, Op.equal, Op.maxDepth, hr]), .atom rfl (.bool _)⟩
    · simp at he
  · rename_i as bs
    have hcmp : ∀ p, eqT tt 5 t (.agg as) (.agg bs) = some p → P.eqGuardType P.depth t = false := by
      intro p hp
      unfold eqT at hp
      split at hp
      · rename_i h _ ; cases h
      · rename_i h _ ; cases h
      · rename_i h _ ; cases h
      · rename_i hl _ _
        exact (hT.cmp _ _ hl rfl).2.1
      · simp at hp
    obtain ⟨xs, rfl, _⟩ := inv_agg hx
    obtain ⟨ys, rfl, _⟩ := inv_agg hy
    split at he
    · rename_i p hp
      simp only [ok, Option.some.injEq] at he
      subst he
      have hr := eqT_run hT 5 10000 t _ _ p _ _ (by omega) hp hx hy
      exact ⟨rfl, .bool p, guard0 (fun _ _ _ _ => hcmp p hp) (by simp) _ (by rw [run_eql_struct]; simp [hr]), .atom rfl (.bool _)⟩
    · rename_i p hp
      simp only [ok, Option.some.injEq] at he
      subst he
      have hr := eqT_run hT 5 10000 t _ _ p _ _ (by omega) hp hx hy
      exact ⟨rfl, .bool (!p), guard0 (fun _ _ _ _ => hcmp p hp) (by simp) _ (by rw [run_neq_struct]; simp [hr]), .atom rfl (.bool _)⟩
    · simp at he
  · simp at he

include hT in
theorem run_strT {t : Nat} (h : isStrT tt t = true) (w : World) : (underlying t).run P w = .ok .string w := by
  unfold isStrT at h
  split at h
  · rename_i _ _ _ _ _ hl
    exact run_und hT hl w
  · simp at h

include hT in
theorem run_slT {t : Nat} (h : isSlT tt t = true) (w : World) : ∃ e ti, elemTI tt t = some ti ∧ (underlying t).run P w = .ok (.slice e) w ∧ lk tt e = some ti := by
  unfold isSlT at h
  split at h
  · rename_i ti hti
    obtain ⟨e, h1, h2⟩ := run_elem hT hti w
    exact ⟨e, ti, hti, h1, h2⟩
  · simp at h

include hT in
theorem lenV_run {w : World} {Fr : Nat → Nat → Prop} {ι : Iota} {t rt : Nat} {x : V} {vx : Value} {e : Ef} (rest : List TypeId) (he : lenV tt t x = some e) (hx : TRep w Fr ι x vx) :
    e.upd = [] ∧ ∃ z, (Builtin.len_ (t :: rest).toArray rt #[vx]).run P w = .ok z w ∧ TRep w Fr ι e.v z := by
  have str : ∀ s, vx = .string s → isStrT tt t = true → (Builtin.len_ (t :: rest).toArray rt #[vx]).run P w = .ok (.int .i64 s.size) w := by
    intro s hs hst
    subst hs
    unfold Builtin.len_
    simp [run_strT hT hst, goInt]
  have sl : ∀ a n c, vx = .slice a n c → isSlT tt t = true → (Builtin.len_ (t :: rest).toArray rt #[vx]).run P w = .ok (.int .i64 n) w := by
    intro a n c hs hst
    subst hs
    obtain ⟨e, ti, _, hu, _⟩ := run_slT hT hst w
    unfold Builtin.len_
    simp [hu, goInt]
  unfold lenV at he
  split at he
  · rename_i s hs
    simp only [ok, Option.some.injEq] at he
    subst he
    exact ⟨rfl, _, str s (inv_str hx) hs, .atom rfl (.int _ _)⟩
  · rename_i hs
    simp only [ok, Option.some.injEq] at he
    subst he
    cases hx with
    | atom _ hp => cases hp; exact ⟨rfl, _, sl _ _ _ rfl hs, .atom rfl (.int _ _)⟩
  · rename_i n g t hs
    simp only [ok, Option.some.injEq] at he
    subst he
    cases hx with
    | atom _ hp =>
      cases hp with
      | sl0 => exact ⟨rfl, _, sl _ _ _ rfl hs, .atom rfl (.int _ _)⟩
      | sl => exact ⟨rfl, _, sl _ _ _ rfl hs, .atom rfl (.int _ _)⟩
  · rename_i id n hs
    simp only [ok, Option.some.injEq] at he
    subst he
    cases hx with
    | atom hv _ => simp [isP] at hv
    | osl0 => exact ⟨rfl, _, sl _ _ _ rfl hs, .atom rfl (.int _ _)⟩
    | osl => exact ⟨rfl, _, sl _ _ _ rfl hs, .atom rfl (.int _ _)⟩
  · simp at he

end
end Go.Av
