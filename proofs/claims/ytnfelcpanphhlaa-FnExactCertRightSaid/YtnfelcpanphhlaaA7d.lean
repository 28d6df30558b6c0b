/- A function whose body fits does what is told of it. -/
import Derived.Test.YtnfelcpanphhlaaA7c
namespace Go.Av

theorem lk_enterT : ∀ {args : List V} {k t : Nat} {v : V}, lk (enterT args k) t = some v → ∃ j, t = k + j ∧ args[j]? = some v
  | [], _, _, _, h => by simp [enterT, lk] at h
  | x :: r, k, t, v, h => by
    simp only [enterT, lk] at h
    split at h
    · rename_i hk
      refine ⟨0, ?_, ?_⟩
      · have := natBeq.1 hk; omega
      · simpa using h
    · obtain ⟨j, hj, hv⟩ := lk_enterT h
      exact ⟨j + 1, by omega, by simpa using hv⟩

/-- Arguments that tell no more. -/
def ArgsLe (args args' : List V) : Prop := args'.length = args.length ∧ ∀ j, j < args.length → VLe (args.getD j .undef) (args'.getD j .undef)

theorem ArgsLe.refl (args : List V) : ArgsLe args args := ⟨rfl, fun _ _ => VLe.refl _⟩

theorem enters_of {P : Program} {f : Nat} {fn : Func} {c : Code} (hf : P.funcs[f]? = some fn) (hb : fn.body = some c) (hn : (fn.name == "runtime.NumGoroutine") = false) (vals : Array Value) (w : World) :
    (callFunc f vals).run P w = .ok (.enter f vals) w := by
  have hn' : ¬ fn.name = "runtime.NumGoroutine" := by simpa using hn
  unfold callFunc
  simp [hf, hb, hn']

theorem sound_of_body {P : Program} (hm : P.follows .mixedOrders = true) {f : Nat} {fn : Func} {c : Code} {D : FSpec} {pol : Nat}
    (hf : P.funcs[f]? = some fn) (hb : fn.body = some c) (hn : (fn.name == "runtime.NumGoroutine") = false)
    (hbody : ∀ args bin ob r bout, D args bin = some (ob, r, bout) → ob → bin = [] ∧ bout = [] ∧ args.length ≤ fn.ntmps ∧
      ∃ cx : Cx, TabOk P cx.tt ∧ SoundAll P cx.D ∧ cx.nt = fn.ntmps ∧ ∃ args', ArgsLe args args' ∧ bodyP cx fn pol args' (fun r' => VLe r' r)) : Sound P f D := by
  refine ⟨enters_of hf hb hn, ?_⟩
  intro args bin ob r bout hDe hob vals w X0 io ι Fr hE hsize hvals
  obtain ⟨rfl, rfl, hlen, cx, hT, hD, hnt, args', ⟨hl', hle⟩, hp⟩ := hbody args bin ob r bout hDe hob
  let g : G := ⟨w, X0, io, fn.ntmps⟩
  have hrel : Rel g ⟨enterT args' 0, []⟩ { tmps := vals ++ Array.replicate (fn.ntmps - vals.size) Go.undef, defers := [] } w ι Fr := by
    refine
      { defers := rfl
        size := by show (vals ++ Array.replicate (fn.ntmps - vals.size) Go.undef).size = fn.ntmps; simp; omega
        tmp := ?_
        own := fun id blk b sz m hl => by simp [lk] at hl
        nob := fun id blk hl => by simp [lk] at hl
        inj := fun id id' blk blk' r r' hl => by simp [lk] at hl
        fr := fun t b hb => ⟨(hE.fr t b hb).1, (hE.fr t b hb).2.1, fun id blk r hl => by simp [lk] at hl⟩
        frS := hE.frS
        fr0 := hE.fr0
        fr2 := fun t b h2 hb => absurd hb (hE.fr2 t b h2)
        x0 := hE.x0
        io0 := hE.io0
        os := rfl, tape := rfl, output := rfl, hsize := Nat.le_refl _, frame := fun _ _ _ => rfl, shape := fun _ _ h => h }
    intro t v ht
    obtain ⟨j, rfl, hj⟩ := lk_enterT ht
    rw [Nat.zero_add]
    have hj' : j < args'.length := (List.getElem?_eq_some_iff.1 hj).1
    have e1 : args'.getD j .undef = v := by simp [List.getD, hj]
    have e2 : (vals ++ Array.replicate (fn.ntmps - vals.size) Go.undef).getD j Go.undef = vals.getD j Go.undef := by
      have hjv : j < vals.size := by omega
      simp only [Array.getD_eq_getD_getElem?]
      rw [Array.getElem?_append_left hjv]
    have := (hle j (by omega)).le w Fr ι _ hE.frS hE.fr0 (hvals j (by omega))
    rw [e1] at this
    show TRep w Fr ι v ((vals ++ Array.replicate (fn.ntmps - vals.size) Go.undef).getD j Go.undef)
    rw [e2]; exact this
  have hfin : ∀ (s : AS) (a : Act) (w' : World) (ι' : Iota) (Fr' : Nat → Nat → Prop), Rel g s a w' ι' Fr' → (∃ r0, resV cx.tt s fn.results.toList = some r0 ∧ VLe (exportV pol s r0) r) →
      a.defers = [] ∧ ∃ v, (results fn a.tmps).run P w' = .ok v w' ∧ ∃ v' ι'' Fr'', Ending.returned v = .returned v' ∧ TRep w' Fr'' ι'' r v' ∧ Ext w w' X0 io ι 0 [] ι'' Fr'' := by
    rintro s a w' ι' Fr' hr ⟨r0, hr0, hv⟩
    obtain ⟨v, hrun, hrep⟩ := resV_run (P := P) hT hr hr0
    have hex := export_rep hr pol hrep (ι' := ι')
    have hS : ∀ b, ¬ outFr w w' X0 tagS b := fun b hb => hb.1 rfl
    have h0 : ∀ t b, outFr w w' X0 t b → outFr w w' X0 0 b := fun t b hb => ⟨by decide, hb.2.1, hb.2.2.1, fun h2 => by omega⟩
    refine ⟨hr.defers, v, hrun, v, ι', outFr w w' X0, rfl, hv.le w' _ ι' v hS h0 hex, ?_⟩
    exact
      { own := fun id blk b sz k hl => by simp at hl
        nob := fun id blk hl => by simp at hl
        inj := fun id id' blk blk' r r' hl => by simp at hl
        fr := fun t b hb => ⟨hb.2.1, hb.2.2.1, fun id blk r hl => by simp at hl⟩
        frS := hS
        fr0 := h0
        fr2 := fun t b h2 hb => hb.2.2.2 h2
        same := fun id hid => by omega
        os := hr.os, tape := hr.tape, output := hr.output, hsize := hr.hsize, frame := hr.frame, shape := hr.shape }
  unfold bodyP at hp
  rw [hb] at hp
  refine calls_of_wp hf hb (awp_sound hT hD hm (g := g) (hnt.trans rfl) c _ _ ?_ _ _ w ι Fr hp hrel)
  intro e s a w' ι' Fr' he hr
  cases e with
  | normal =>
    simp only [] at he
    split at he
    · rename_i r0 hr0
      exact hfin s a w' ι' Fr' hr ⟨r0, hr0, he⟩
    · exact he.elim
  | ret =>
    simp only [] at he
    split at he
    · rename_i r0 hr0
      exact hfin s a w' ι' Fr' hr ⟨r0, hr0, he⟩
    · exact he.elim
  | _ => exact he.elim

end Go.Av
