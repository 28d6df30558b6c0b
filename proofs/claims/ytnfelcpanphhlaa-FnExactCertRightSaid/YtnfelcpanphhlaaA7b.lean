/- The abstract weakest condition, and that it is one. -/
import Derived.LoopN
import Derived.Test.YtnfelcpanphhlaaA7
namespace Go.Av

/-- A loop, by an invariant: the states at its head are 'L.st x' for those x that fit. -/
def Loops (L : LoopInv) (B : (Exit → AS → Prop) → AS → Prop) (m : AS → AS) (Q : Exit → AS → Prop) (s : AS) : Prop :=
  (∃ x, SLe (m s) (L.st x) ∧ L.I x) ∧
    ∀ x, L.I x → B (fun e s' => match e with
      | .normal => ∃ y, SLe (m s') (L.st y) ∧ L.I y ∧ L.μ y < L.μ x
      | e => Q e s') (L.st x)

def awp (cx : Cx) : Code → (Exit → AS → Prop) → AS → Prop
  | .skip, Q, s => Q .normal s
  | .region id ops draw, Q, s => match mem id cx.cuts with
    | true => region cx ops.toList draw s fun s => ∃ s', SLe s s' ∧ Q .normal s'
    | false => region cx ops.toList draw s (Q .normal)
  | .seq a b, Q, s => awp cx a (thenQ (awp cx b Q) Q) s
  | .cond c a b, Q, s => match aval s c with
    | .bool t => (t = true → awp cx a Q s) ∧ (t = false → awp cx b Q s)
    | _ => False
  | .block id a, Q, s => awp cx a (blockQ id Q) s
  | .loop a, Q, s => match cx.invs (firstRegion a) with
    | some L => Loops L (awp cx a) (mask cx a) Q s
    | none => False
  | .exit id, Q, s => Q (.exit id) s
  | .ret, Q, s => Q .ret s
  | _, _, _ => False

theorem Rel.drawn {g : G} {s : AS} {a : Act} {w : World} {ι : Iota} {Fr : Nat → Nat → Prop} (h : Rel g s a w ι Fr) : Rel g s a { w with drawn := w.drawn + 1 } ι Fr :=
  h.grow rfl rfl rfl (Nat.le_refl _) fun _ _ => rfl

section
variable {P : Program} {cx : Cx} (hT : TabOk P cx.tt) (hD : SoundAll P cx.D) (hm : P.follows .mixedOrders = true)

include hT hD hm in
theorem region_sound {g : G} (hnt : cx.nt = g.nt) {id : Nat} {ops : Array Oper} {draw : Bool} {K : AS → Prop} {Q : Exit → Act → World → Prop}
    (hK : ∀ s a w ι Fr, K s → Rel g s a w ι Fr → Q .normal a w) {s : AS} {a : Act} {w : World} {ι : Iota} {Fr : Nat → Nat → Prop} (hr : region cx ops.toList draw s K) (h : Rel g s a w ι Fr) :
    (Code.region id ops draw).wp P Q a w := by
  have hfresh : ∀ k, atSites (dstsOf cx.nt ops.toList) k = true → FreshId (purge (atSites (dstsOf cx.nt ops.toList)) s) k := fun k hk => purge_fresh hk
  have hp := h.purge (atSites (dstsOf cx.nt ops.toList))
  unfold region at hr
  cases draw with
  | false =>
    refine wp_region ?_
    have := region_text hT hD hnt (ops := ops.toList) (Q := Q) (fun s' es' a w ι Fr hk hrel => hK _ a w ι Fr hk (hrel.only cx.keep)) ops.toList [] rfl _ [] a w ι Fr hp hfresh hr
    simpa [List.range_eq_range'] using this
  | true =>
    refine wp_region_any hm ?_
    obtain ⟨L, hL, hf, hk⟩ := runOps_facts hr
    have hzip : ops.toList.zip (((L.map (fun p : Oper × Ef => p.2)).reverse ++ []).reverse) = L := by
      rw [List.append_nil, List.reverse_reverse, ← hL]
      clear hL hf hk hr hfresh hp
      induction L with
      | nil => rfl
      | cons p r ih => simp only [List.map_cons, List.zip_cons_cons, ih]
    simp only [hzip] at hk
    split at hk
    · rename_i hb
      simp only [Bool.and_eq_true] at hb
      have hlen : ops.size = ops.toList.length := by simp
      refine region_any hT hD hnt (ops := ops.toList) hL hf hfresh hb.1 hb.2 (fun a w ι Fr hrel => hK _ a w ι Fr hk (hrel.only cx.keep)) ops.size (Array.replicate ops.size false) a { w with drawn := w.drawn + 1 } ι Fr (by simp) ?_ ?_ ?_
      · have : ∀ n, undone (fun i => (Array.replicate ops.size false).getD i false) n ≤ n := by
          intro n
          induction n with
          | zero => exact Nat.le_refl _
          | succ n ih => simp only [undone]; split <;> omega
        rw [hlen]; exact this _
      · intro i hi
        have : (Array.replicate ops.size false).getD i false = false := by
          simp only [Array.getD]
          split <;> simp
        rw [this] at hi; simp at hi
      · rw [foldD_none fun j _ => by
          simp only [Array.getD]
          split <;> simp]
        exact hp.drawn
    · exact hk.elim

include hT hD hm in
theorem awp_sound {g : G} (hnt : cx.nt = g.nt) : ∀ (c : Code) (A : Exit → AS → Prop) (Q : Exit → Act → World → Prop), (∀ e s a w ι Fr, A e s → Rel g s a w ι Fr → Q e a w) →
    ∀ (s : AS) (a : Act) (w : World) (ι : Iota) (Fr : Nat → Nat → Prop), awp cx c A s → Rel g s a w ι Fr → c.wp P Q a w
  | .skip, A, Q, hA, s, a, w, ι, Fr, h, hr => wp_skip (hA _ _ _ _ _ _ h hr)
  | .region id ops draw, A, Q, hA, s, a, w, ι, Fr, h, hr => by
    simp only [awp] at h
    split at h
    · refine region_sound hT hD hm hnt (fun s a w ι Fr hk hrel => ?_) h hr
      obtain ⟨s', hle, hq⟩ := hk
      obtain ⟨ι', Fr', hrel'⟩ := hle.le g a w ι Fr hrel
      exact hA .normal s' a w ι' Fr' hq hrel'
    · exact region_sound hT hD hm hnt (K := A .normal) (fun s a w ι Fr hk hrel => hA .normal s a w ι Fr hk hrel) h hr
  | .seq x y, A, Q, hA, s, a, w, ι, Fr, h, hr => by
    refine wp_seq (awp_sound hnt x (thenQ (awp cx y A) A) _ ?_ s a w ι Fr h hr)
    intro e s a w ι Fr he hrel
    cases e with
    | normal => exact awp_sound hnt y A Q hA s a w ι Fr he hrel
    | _ => exact hA _ _ _ _ _ _ he hrel
  | .cond c x y, A, Q, hA, s, a, w, ι, Fr, h, hr => by
    simp only [awp] at h
    split at h
    · rename_i t ht
      have hv := aval_rep hr c
      rw [ht] at hv
      exact wp_cond_split (inv_bool hv) (fun e => awp_sound hnt x A Q hA s a w ι Fr (h.1 e) hr) (fun e => awp_sound hnt y A Q hA s a w ι Fr (h.2 e) hr)
    · exact h.elim
  | .block id x, A, Q, hA, s, a, w, ι, Fr, h, hr => by
    refine wp_block (awp_sound hnt x (blockQ id A) _ ?_ s a w ι Fr h hr)
    intro e s a w ι Fr he hrel
    cases e with
    | exit j =>
      simp only [blockQ] at he
      simp only [Exit.inBlock]
      split at he
      · rename_i hj
        rw [if_pos (natBeq.1 hj)]
        exact hA _ _ _ _ _ _ he hrel
      · rename_i hj
        rw [if_neg (natBeqF.1 hj)]
        exact hA _ _ _ _ _ _ he hrel
    | _ => exact hA _ _ _ _ _ _ he hrel
  | .loop x, A, Q, hA, s, a, w, ι, Fr, h, hr => by
    simp only [awp] at h
    cases hL : cx.invs (firstRegion x) with
    | none => rw [hL] at h; exact h.elim
    | some L =>
    rw [hL] at h
    obtain ⟨⟨x0, h0, hI0⟩, hround⟩ := h
    have key : ∀ (n : Nat) (y : L.α), L.I y → L.μ y < n → ∀ (a : Act) (w : World) (ι : Iota) (Fr : Nat → Nat → Prop), Rel g (L.st y) a w ι Fr → Code.rounds P x Q n a w := by
      intro n
      induction n with
      | zero => intro y _ hlt; omega
      | succ n ih =>
        intro y hIy hlt a w ι Fr hrel
        rw [rounds_succ]
        refine awp_sound hnt x _ _ ?_ (L.st y) a w ι Fr (hround y hIy) hrel
        intro e s' a' w' ι' Fr' he hrel'
        cases e with
        | normal =>
          obtain ⟨z, hz, hIz, hμ⟩ := he
          obtain ⟨ι1, Fr1, h1⟩ := (sle_mask cx x s').le g a' w' ι' Fr' hrel'
          obtain ⟨ι2, Fr2, h2⟩ := hz.le g a' w' ι1 Fr1 h1
          exact ih z hIz (by omega) a' w' ι2 Fr2 h2
        | _ => exact hA _ _ _ _ _ _ he hrel'
    obtain ⟨ι1, Fr1, h1⟩ := (sle_mask cx x s).le g a w ι Fr hr
    obtain ⟨ι2, Fr2, h2⟩ := h0.le g a w ι1 Fr1 h1
    exact wp_loop_rounds (L.μ x0 + 1) (key _ x0 hI0 (by omega) a w ι2 Fr2 h2)
  | .exit id, A, Q, hA, s, a, w, ι, Fr, h, hr => wp_exit (hA _ _ _ _ _ _ h hr)
  | .ret, A, Q, hA, s, a, w, ι, Fr, h, hr => wp_ret (hA _ _ _ _ _ _ h hr)
  | .rangeFunc .., A, Q, hA, s, a, w, ι, Fr, h, hr => h.elim
  | .scope .., A, Q, hA, s, a, w, ι, Fr, h, hr => h.elim
  | .label .., A, Q, hA, s, a, w, ι, Fr, h, hr => h.elim
  | .goto .., A, Q, hA, s, a, w, ι, Fr, h, hr => h.elim
  | .refuse .., A, Q, hA, s, a, w, ι, Fr, h, hr => h.elim

end
end Go.Av
