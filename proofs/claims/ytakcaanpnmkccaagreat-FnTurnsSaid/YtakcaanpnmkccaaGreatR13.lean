/- The law on turns: who leaves a view tells all that it committed, each by its newest. -/
import Derived.Test.YtakcaanpnmkccaaGreatR12
import Derived.Test.YtakcaanpnmkccaaGreatR5b
import Derived.Test.YtakcaanpnmkccaaGreatK25
import Derived.Test.YtakcaanpnmkccaaGreatK28
namespace Go.Av
open Go.Proofs
set_option maxRecDepth 100000
set_option maxHeartbeats 20000000
set_option linter.unusedVariables false
set_option linter.unusedSimpArgs false

theorem okX_code {code : List Int} (h1 : code.length ≤ 1048576) (h2 : ∀ x ∈ code, (Lit.int .u8 x).wf = true) : okX code 0 := by
  refine ⟨h1, fun x hx => ?_, by omega, by omega⟩
  have := h2 x hx
  simp [Lit.wf, IntKind.min, IntKind.max, IntKind.bits, IntKind.signed] at this
  omega
theorem chTo_max (f : Int) (l : List Msg) (view : Int) (hf : 0 ≤ f) : ∀ i, ((chTo f l view i).length : Int) ≤ 2 * f + 1
  | 0 => by simp [chTo]; omega
  | i + 1 => by
    have := chTo_max f l view hf i
    unfold chTo chStep
    split
    · rename_i h
      have := h.1
      rw [List.length_append, List.length_singleton]
      omega
    · exact this
noncomputable def tC (code : List Int) : List Cert := certsL (tL code) (tR code).id (tV code)
/-- Is a commitment among what is told? -/
def toldC (cs : List Cert) (x : Msg) : Prop := ∃ c ∈ cs, c.slot = x.slot ∧ x.view ≤ c.view
noncomputable instance (cs : List Cert) (x : Msg) : Decidable (toldC cs x) := Classical.propDecidable _
theorem told_snoc (cs : List Cert) (c : Cert) (x : Msg) : toldC (cs ++ [c]) x ↔ toldC cs x ∨ (c.slot = x.slot ∧ x.view ≤ c.view) := by
  unfold toldC
  constructor
  · rintro ⟨y, hy, h⟩
    rcases List.mem_append.1 hy with hy | hy
    · exact .inl ⟨y, hy, h⟩
    · have : y = c := List.mem_singleton.1 hy
      subst this
      exact .inr h
  · rintro (⟨y, hy, h⟩ | h)
    · exact ⟨y, List.mem_append.2 (.inl hy), h⟩
    · exact ⟨c, by simp, h⟩
theorem told_take {cs : List Cert} {k : Nat} (h : k < cs.length) (x : Msg) : toldC (cs.take (k + 1)) x ↔ toldC (cs.take k) x ∨ ((cs.getD k default).slot = x.slot ∧ x.view ≤ (cs.getD k default).view) := by
  have e : cs.take (k + 1) = cs.take k ++ [cs.getD k default] := by
    rw [List.take_add_one]
    simp [h]
  rw [e, told_snoc]
theorem told_all {f : Int} {l : List Msg} (hr : Right f l) {id view : Int} {i : Nat} (hi : i < l.length) (h1 : (l.getD i default).kind = 3) (h2 : (l.getD i default).sender = id) (h3 : (l.getD i default).view < view) : toldC (certsL l id view) (l.getD i default) := by
  have hg := hr.good hi
  have hs := (hg.ranged.2.2 ⟨by omega, by omega⟩).1
  have hv := hg.ranged.1
  unfold inR at hs hv
  obtain ⟨s, hs2⟩ : ∃ s : Nat, (l.getD i default).slot = (s : Int) + 1 := ⟨((l.getD i default).slot - 1).toNat, by omega⟩
  have hn := newest_ge (l := l) (id := id) (slot := (s : Int) + 1) (view := view) l.length (Nat.le_refl _) i hi h1 h2 hs2 h3
  refine ⟨_, certsTo_has l id view 30 s (by omega) (by omega), ?_, ?_⟩
  · simp only; omega
  · simp only; omega
theorem change_ok {f : Int} {l : List Msg} (hr : Right f l) {id view : Int} (hid : inR id 1 (3 * f + 1)) (hv : inR view 0 20) : msgFault f ⟨4, view, id, 0, 0, certsL l id view, []⟩ = 0 := by
  have hl := certsTo_len l id view 30
  have hv' := hv
  unfold inR at hv'
  have hm := certsTo_mem l id view 30
  have hrise := certsTo_rise l id view 30
  unfold msgFault
  have f1 : 1 ≤ f ∧ f ≤ 2 := by have := hr.okf; unfold okF at this; omega
  have b : bare ⟨4, view, id, 0, 0, certsL l id view, []⟩ := ⟨(show inR (4 : Int) 1 5 from ⟨by decide, by decide⟩), .inr ⟨rfl, rfl⟩, .inl rfl, .inr rfl⟩
  have r : ranged f ⟨4, view, id, 0, 0, certsL l id view, []⟩ := ⟨hv, hid, fun h => by unfold inR at h; simp only at h; omega⟩
  have w : few f ⟨4, view, id, 0, 0, certsL l id view, []⟩ := ⟨hl, by simp only [List.length_nil]; omega⟩
  rw [if_neg (not_not_intro b), if_neg (not_not_intro r), if_neg (not_not_intro w)]
  unfold listsFault
  have c1 : riseC (certsL l id view) ∧ riseR [] := ⟨hrise, fun i h1 h2 => by simp at h2⟩
  have c2 : (∀ c ∈ certsL l id view, goodC ⟨4, view, id, 0, 0, certsL l id view, []⟩ c) ∧ ∀ r ∈ ([] : List Int), goodR r := by
    refine ⟨fun c hc => ?_, fun r hr => by cases hr⟩
    obtain ⟨s, hs, e, h0⟩ := hm c hc
    have h1 := newest_lt (l := l) (id := id) (slot := (s : Int) + 1) hv'.1 l.length (Nat.le_refl _)
    have h2 := newest_val hr (id := id) (slot := (s : Int) + 1) (view := view) l.length (Nat.le_refl _)
    rw [e]
    exact ⟨⟨by simp only; omega, by simp only; omega⟩, ⟨h0, by simp only; omega⟩, h2.1, h2.2⟩
  rw [if_neg (not_not_intro c1), if_neg (not_not_intro c2)]
theorem cond3 {k s id vw v : Int} {q1 q : Bool} (h1 : q1 = bif k != 3 then true else s != id) (h : q = bif q1 then true else decide (vw ≥ v)) : q = decide (¬ (k = 3 ∧ s = id ∧ vw < v)) := by
  subst h1 h
  rw [Bool.eq_iff_iff, decide_eq_true_eq]
  by_cases a1 : k = 3 <;> by_cases a2 : s = id <;> simp [a1, a2]
theorem cond4 {cs cs' : List Cert} {c : Cert} {x : Msg} (ht : toldC cs' x ↔ toldC cs x ∨ (c.slot = x.slot ∧ x.view ≤ c.view)) {q1 q : Bool} (h1 : q1 = bif c.slot == x.slot then decide (c.view ≥ x.view) else false) (h : q = bif decide (toldC cs x) then true else q1) : q = decide (toldC cs' x) := by
  subst h1 h
  rw [Bool.eq_iff_iff, decide_eq_true_eq, ht]
  by_cases g : toldC cs x
  · simp [g]
  · by_cases g2 : c.slot = x.slot <;> simp [g, g2]
theorem tL_bd {code : List Int} (h0 : okX code 0) : bdL (tL code) := by
  have w := wrong10_bd (h0.to (b := 2) (by omega) (by omega)) (by omega)
  have e : tL code = (wrong10 code 2).1 := rfl
  rw [e]
  exact bdL_short w.1 (by omega) (by omega)

/-! ### spec.NewMsg%c -/
def pr22c (f : Int) (l : List Msg) (r : Replica) : Prop := bdL l
noncomputable def rs22c (f : Int) (l : List Msg) (r : Replica) : V := .agg [.int .i64 (newMsgF f l r).code, .undef, .undef, .undef, .undef, .undef, .undef, .undef]
noncomputable def sp22c : FSpec := fun args bin => match args, bin with
  | [.int .i64 a0, a1, a2], [] => some (VLe a1 (encL (encMsg 1) 1 (((decL decMsg) a1))) ∧ VLe a2 (encReplica 1 ((decReplica a2))) ∧ pr22c a0 ((decL decMsg) a1) (decReplica a2), rs22c a0 ((decL decMsg) a1) (decReplica a2), [])
  | _, _ => none
noncomputable def D22c : Nat → Option (Bool × FSpec) := lk [(48, (false, sp48)), (55, (false, sp55)), (34, (false, sp34o)), (56, (false, sp56))]
theorem da22c : SoundAll Tryz.prog D22c := soundAll_cons so48 (soundAll_cons so55 (soundAll_cons so34o (soundAll_cons so56 (soundAll_nil))))
noncomputable def cx22c (f : Int) (l : List Msg) (r : Replica) : Cx := ⟨tt, D22c, Tryz.f22.ntmps, [0, 1, 2, 5, 6, 7, 8, 13, 32, 43], [], [], fun _ => none, [], noM, []⟩
noncomputable def k22c_0 (f : Int) (l : List Msg) (r : Replica) : V := (V.agg [vi (MsgResult.code (newMsgF f l r)), V.undef, V.undef, V.undef, V.undef, V.undef, V.undef, V.undef])
theorem bd22c (f : Int) (l : List Msg) (r : Replica) (hpre : pr22c f l r) : bodyP (cx22c f l r) Tryz.f22 0 [.int .i64 (f), encL (encMsg 1) 1 (l), encReplica 1 (r)] (fun rr => VLe rr (rs22c f l r)) := by
  have key : (((VLe (encL (encMsg 1) 1 l) (encL (encMsg 1) 1 (decL decMsg (encL (encMsg 1) 1 l)))) ∧ ((VLe (encPReplica 1 r) (encPReplica 1 (decPReplica (encPReplica 1 r)))) ∧ (pr48 f (decL decMsg (encL (encMsg 1) 1 l)) (decPReplica (encPReplica 1 r))))) ∧ ((((replicaFault f (decL decMsg (encL (encMsg 1) 1 l)) (decPReplica (encPReplica 1 r)) != (0 : Int)) = true) → (VLe (V.agg [vi (replicaFault f (decL decMsg (encL (encMsg 1) 1 l)) (decPReplica (encPReplica 1 r))), vi (0 : Int), vi (0 : Int), vi (0 : Int), vi (0 : Int), vi (0 : Int), V.nil, V.nil]) (k22c_0 f l r))) ∧ (((replicaFault f (decL decMsg (encL (encMsg 1) 1 l)) (decPReplica (encPReplica 1 r)) != (0 : Int)) = false) → ((tq (!Replica.view r == (0 : Int))) ∧ ((tq (!Replica.view r == (0 : Int))) ∧ ((tq (!Replica.view r == (0 : Int))) ∧ ((tq (!Replica.view r == (0 : Int))) ∧ ((((!Replica.view r == (0 : Int)) = true) → (pr55 f (Replica.view r))) ∧ ((tq (!Replica.view r == (0 : Int))) ∧ ((tq (!Replica.view r == (0 : Int))) ∧ (((true = true) → (((Replica.view r == (0 : Int)) = false) → ((!Replica.view r == (0 : Int)) = true))) ∧ (∀ b : Bool, ((b = bif Replica.view r == (0 : Int) then true else Replica.id r != primaryF f (Replica.view r)) → ((tq (!b)) ∧ ((tq (!b)) ∧ (((true = true) → ((b = false) → ((!b) = true))) ∧ (∀ b_1 : Bool, ((b_1 = bif b then true else Replica.start r != (-1 : Int)) → (((b_1 = true) → (VLe (V.agg [vi (8 : Int), vi (0 : Int), vi (0 : Int), vi (0 : Int), vi (0 : Int), vi (0 : Int), V.nil, V.nil]) (k22c_0 f l r))) ∧ ((b_1 = false) → (((VLe (encL (encMsg 1) 1 l) (encL (encMsg 1) 1 (decL decMsg (encL (encMsg 1) 1 l)))) ∧ (pr34o f (decL decMsg (encL (encMsg 1) 1 l)) (Replica.view r))) ∧ ((pr56 f) ∧ (((decide ((↑(List.length (ro34o f (decL decMsg (encL (encMsg 1) 1 l)) (Replica.view r))) : Int) < (2 : Int) * f + (1 : Int)) = true) → (VLe (V.agg [vi (10 : Int), vi (0 : Int), vi (0 : Int), vi (0 : Int), vi (0 : Int), vi (0 : Int), V.nil, V.nil]) (k22c_0 f l r))) ∧ ((decide ((↑(List.length (ro34o f (decL decMsg (encL (encMsg 1) 1 l)) (Replica.view r))) : Int) < (2 : Int) * f + (1 : Int)) = false) → (VLe (V.agg [vi (0 : Int), vi (5 : Int), vi (Replica.view r), vi (Replica.id r), vi (0 : Int), vi (0 : Int), V.nil, encL encI 0 (ro34o f (decL decMsg (encL (encMsg 1) 1 l)) (Replica.view r))]) (k22c_0 f l r)))))))))))))))))))))))))) := by
    delta k22c_0; delta vi
    simp only [decL_Msg, dec_encReplica, dec_encPReplica, ro34o]
    refine ⟨⟨VLe.refl _, VLe.refl _, hpre⟩, fun h => ?_, fun h => ?_⟩
    · have e : newMsgF f l r = ⟨replicaFault f l r, default⟩ := if_pos (by simpa using h)
      rw [e]
      exact vle_agg ⟨VLe.refl _, vle_undef _, vle_undef _, vle_undef _, vle_undef _, vle_undef _, vle_undef _, vle_undef _, trivial⟩
    have h0 : replicaFault f l r = 0 := by simpa using h
    obtain ⟨hr, hv⟩ := replica_right h0
    have e' : newMsgF f l r = newF f l r := if_neg (not_not_intro h0)
    rw [e']
    repeat (first | (refine And.intro (fun h _ => h) ?_) | (refine And.intro (fun _ h => h) ?_) | (refine And.intro ?aa ?_; case aa => (exact fun _ => ⟨hr.okf, hv⟩)) | (refine And.intro ?aa ?_; case aa => (intros; simp_all [pr48, pr55, pr34o, pr56]; done)) | (refine And.intro ?aa ?_; case aa => (intros; exact inK64 (by omega))) | (refine And.intro ?aa ?_; case aa => (intros; simp only [decide_eq_true_eq] at *; omega)) | (intro q hq))
    have e0 : q = decide (r.view = 0 ∨ r.id ≠ primaryF f r.view ∨ r.start ≠ -1) := by
      subst_vars
      rw [Bool.eq_iff_iff, decide_eq_true_eq]
      by_cases a1 : r.view = 0 <;> by_cases a2 : r.id = primaryF f r.view <;> simp [a1, a2]
    clear hq
    subst e0
    refine ⟨fun h => ?_, fun h => ?_⟩
    · have e : newF f l r = ⟨8, default⟩ := if_pos (of_decide_eq_true h)
      rw [e]
      exact vle_agg ⟨VLe.refl _, vle_undef _, vle_undef _, vle_undef _, vle_undef _, vle_undef _, vle_undef _, vle_undef _, trivial⟩
    have h1 := of_decide_eq_false h
    have hf : 1 ≤ f ∧ f ≤ 2 := by have := hr.okf; unfold okF at this; omega
    refine ⟨⟨VLe.refl _, hr, hpre⟩, hr.okf, fun h2 => ?_, fun h2 => ?_⟩
    · have e : newF f l r = ⟨10, default⟩ := by unfold newF; rw [if_neg h1, if_pos (of_decide_eq_true h2)]
      rw [e]
      exact vle_agg ⟨VLe.refl _, vle_undef _, vle_undef _, vle_undef _, vle_undef _, vle_undef _, vle_undef _, vle_undef _, trivial⟩
    · have e : newF f l r = ⟨0, ⟨5, r.view, r.id, 0, 0, [], chL f l r.view⟩⟩ := by unfold newF; rw [if_neg h1, if_neg (of_decide_eq_false h2)]
      rw [e]
      exact vle_agg ⟨VLe.refl _, vle_undef _, vle_undef _, vle_undef _, vle_undef _, vle_undef _, vle_undef _, vle_undef _, trivial⟩
  exact Eq.mp (by kernel_rfl) key
theorem so22c : Sound Tryz.prog 22 sp22c := by
  refine sound_of_body hmix (pol := 0) Tryz.func22 rfl (by kernel_rfl) fun args bin ob r bout hDe hob => ?_
  unfold sp22c at hDe
  split at hDe
  · rename_i a0 a1 a2
    cases hDe
    exact ⟨rfl, rfl, Nat.le_of_ble_eq_true (by kernel_rfl), cx22c a0 ((decL decMsg) a1) (decReplica a2), Eq.mp (by kernel_rfl) htt, Eq.mp (by kernel_rfl) da22c, Eq.mp (by kernel_rfl) (noM_sound (P := Tryz.prog)), by kernel_rfl, [.int .i64 (a0), encL (encMsg 1) 1 (((decL decMsg) a1)), encReplica 1 ((decReplica a2))], args_of_vles (⟨VLe.refl _, hob.1, hob.2.1, trivial⟩), Eq.mp (by kernel_rfl) (bd22c a0 ((decL decMsg) a1) (decReplica a2) (hob.2.2))⟩
  · cases hDe

/-! ### laws.FnTurns -/
def pr4 (code : List Int) : Prop := code.length ≤ maxLen ∧ ∀ x ∈ code, (Lit.int .u8 x).wf = true
noncomputable def rs4 (code : List Int) : V := .bool (true)
def Q4 (vs : List V) : Prop := ∃ (code : List Int), ArgsLe vs [encL encY 1 (code)] ∧ pr4 code
noncomputable def in4_9 (code : List Int) : LoopInv :=
  ⟨Nat, fun i => ⟨[(0, encL encY 1 code), (3, .int .i64 (tF code)), (4, encL (encMsg 1) 221 (tL code)), (5, .oref 384 0 0), (6, .int .i64 (tV code)), (7, .oref 512 0 0), (8, .oref 576 0 0), (9, .int .i64 i)], [(384, .box (encReplica 1 (tR code)).cells), (512, .box [.int .i64 0, .int .i64 4, .int .i64 (tV code), .int .i64 (tR code).id, .int .i64 0, .int .i64 0, .osl (canonB 512 6) (tC code).length, .osl (canonB 512 7) 0]), (canonB 512 6, .arr 3 (tC code).length (gL (encCert 1) (tC code)) tagS), (canonB 512 7, .arr 1 ([] : List Int).length (gL encI []) tagS), (576, .box [.int .i64 0, .osl (canonB 576 1) (tC code).length]), (canonB 576 1, .arr 3 (tC code).length (gL (encCert 1) (tC code)) tagS)]⟩,
    fun i => i ≤ (tL code).length, fun i => (tL code).length - i⟩
noncomputable def in4_15 (code : List Int) : LoopInv :=
  ⟨Nat × Nat, fun p => ⟨[(0, encL encY 1 code), (3, .int .i64 (tF code)), (4, encL (encMsg 1) 221 (tL code)), (5, .oref 384 0 0), (6, .int .i64 (tV code)), (7, .oref 512 0 0), (8, .oref 576 0 0), (9, .int .i64 p.1), (10, .oref 704 0 0), (11, .bool (decide (toldC ((tC code).take p.2) ((tL code).getD p.1 default)))), (12, .int .i64 p.2)], [(384, .box (encReplica 1 (tR code)).cells), (512, .box [.int .i64 0, .int .i64 4, .int .i64 (tV code), .int .i64 (tR code).id, .int .i64 0, .int .i64 0, .osl (canonB 512 6) (tC code).length, .osl (canonB 512 7) 0]), (canonB 512 6, .arr 3 (tC code).length (gL (encCert 1) (tC code)) tagS), (canonB 512 7, .arr 1 ([] : List Int).length (gL encI []) tagS), (576, .box [.int .i64 0, .osl (canonB 576 1) (tC code).length]), (canonB 576 1, .arr 3 (tC code).length (gL (encCert 1) (tC code)) tagS), (704, .box (encMsg 221 ((tL code).getD p.1 default)).cells)]⟩,
    fun p => p.1 < (tL code).length ∧ p.2 ≤ (tC code).length, fun p => (tC code).length - p.2⟩
noncomputable def iv4 (code : List Int) : Nat → Option LoopInv := fun rg_ => match rg_ with
  | 9 => some (in4_9 code)
  | 15 => some (in4_15 code)
  | _ => none
noncomputable def D4 : Nat → Option (Bool × FSpec) := lk [(5, (false, sp5)), (15, (false, sp15)), (16, (false, sp16o)), (17, (false, sp17o)), (18, (false, sp18o)), (19, (false, sp19)), (20, (false, sp20o)), (22, (false, sp22c)), (21, (false, sp21)), (12, (false, sp12))]
theorem da4 : SoundAll Tryz.prog D4 := soundAll_cons so5 (soundAll_cons so15 (soundAll_cons so16o (soundAll_cons so17o (soundAll_cons so18o (soundAll_cons so19 (soundAll_cons so20o (soundAll_cons so22c (soundAll_cons so21 (soundAll_cons so12 (soundAll_nil))))))))))
noncomputable def cx4 (code : List Int) : Cx := ⟨tt, D4, Tryz.f4.ntmps, [0, 2, 3, 4, 5, 6, 7, 8, 9, 10, 11, 12, 13, 14, 15, 16, 18, 33, 52, 74, 80, 109], [(9, ⟨[(0, none), (3, none), (4, none), (5, none), (6, none), (7, none), (8, none), (9, none)], [(384, []), (512, [(6, 3), (7, 1)]), (576, [(1, 3)])]⟩), (15, ⟨[(0, none), (3, none), (4, none), (5, none), (6, none), (7, none), (8, none), (9, none), (10, none), (11, none), (12, none)], [(384, []), (512, [(6, 3), (7, 1)]), (576, [(1, 3)]), (704, [])]⟩)], [], iv4 code, [], noM, [15]⟩
noncomputable def k4_0 (code : List Int) : V := (encL (encMsg 1) 1 (Prod.fst (tL (decL decY (encL encY 1 code)), tR (decL decY (encL encY 1 code)), tV (decL decY (encL encY 1 code)))))
noncomputable def k4_1 (code : List Int) : List (Nat × Blk) := [(384, Blk.box [vi (Replica.id (tR code)), vi (Replica.view (tR code)), vi (Replica.start (tR code)), vi (Replica.done (tR code))]), (512, Blk.box [vi (0 : Int), vi (4 : Int), vi (tV code), vi (Replica.id (tR code)), vi (0 : Int), vi (0 : Int), V.osl 66097536 (List.length (tC code)), V.osl 66097600 0]), (66097536, Blk.arr 3 (List.length (tC code)) (gL (encCert 1) (tC code)) 100), (66097600, Blk.arr 1 0 (gL encI []) 100), (576, Blk.box [vi (0 : Int), V.osl 66359360 (List.length (tC code))]), (66359360, Blk.arr 3 (List.length (tC code)) (gL (encCert 1) (tC code)) 100)]
noncomputable def k4_2 (code : List Int) : V := (encReplica 1 (Prod.fst (tR (decL decY (encL encY 1 code)), tV (decL decY (encL encY 1 code)))))
noncomputable def k4_3 (code : List Int) : List Msg := (decL decMsg (encL (encMsg 1) 1 (Prod.fst (tL (decL decY (encL encY 1 code)), uR (decL decY (encL encY 1 code))))))
noncomputable def k4_4 (code : List Int) : V := (encReplica 1 (Prod.snd (tL (decL decY (encL encY 1 code)), uR (decL decY (encL encY 1 code)))))
noncomputable def k4_5 (code : List Int) (x_1 : Nat × Nat) : List (Nat × Blk) := [(384, Blk.box [vi (Replica.id (tR code)), vi (Replica.view (tR code)), vi (Replica.start (tR code)), vi (Replica.done (tR code))]), (512, Blk.box [vi (0 : Int), vi (4 : Int), vi (tV code), vi (Replica.id (tR code)), vi (0 : Int), vi (0 : Int), V.osl 66097536 (List.length (tC code)), V.osl 66097600 0]), (66097536, Blk.arr 3 (List.length (tC code)) (gL (encCert 1) (tC code)) 100), (66097600, Blk.arr 1 0 (gL encI []) 100), (576, Blk.box [vi (0 : Int), V.osl 66359360 (List.length (tC code))]), (66359360, Blk.arr 3 (List.length (tC code)) (gL (encCert 1) (tC code)) 100), (704, Blk.box [vi (Msg.kind (List.getD (tL code) x_1.1 default)), vi (Msg.view (List.getD (tL code) x_1.1 default)), vi (Msg.sender (List.getD (tL code) x_1.1 default)), vi (Msg.slot (List.getD (tL code) x_1.1 default)), vi (Msg.value (List.getD (tL code) x_1.1 default)), encL (encCert 1) 221 (Msg.certs (List.getD (tL code) x_1.1 default)), encL encI 221 (Msg.refs (List.getD (tL code) x_1.1 default))])]
noncomputable def k4_6 (code : List Int) : V := (V.agg [vi (4 : Int), vi (tV code), vi (Replica.id (tR code)), vi (0 : Int), vi (0 : Int), encL (encCert 1) 1 (tC code), V.sl 0 (gL encI []) 1])
noncomputable def k4_7 (code : List Int) : Nat := (List.length (CertsResult.certs (ro18o (Prod.fst (tF (decL decY (encL encY 1 code)), tL (decL decY (encL encY 1 code)), tR (decL decY (encL encY 1 code)), tV (decL decY (encL encY 1 code)))) (decL decMsg (k4_0 code)) (Replica.id (Prod.fst (tR (decL decY (encL encY 1 code)), tV (decL decY (encL encY 1 code))))) (Prod.snd (tR (decL decY (encL encY 1 code)), tV (decL decY (encL encY 1 code)))))))
noncomputable def k4_8 (code : List Int) : Nat := (List.length (Msg.certs (MsgResult.msg (ro16o (Prod.fst (tF (decL decY (encL encY 1 code)), tL (decL decY (encL encY 1 code)), tR (decL decY (encL encY 1 code)), tV (decL decY (encL encY 1 code)))) (decL decMsg (k4_0 code)) (decReplica (k4_2 code)) (Prod.snd (tR (decL decY (encL encY 1 code)), tV (decL decY (encL encY 1 code))))))))
noncomputable def k4_9 (code : List Int) : Nat := (List.length (Msg.refs (MsgResult.msg (ro16o (Prod.fst (tF (decL decY (encL encY 1 code)), tL (decL decY (encL encY 1 code)), tR (decL decY (encL encY 1 code)), tV (decL decY (encL encY 1 code)))) (decL decMsg (k4_0 code)) (decReplica (k4_2 code)) (Prod.snd (tR (decL decY (encL encY 1 code)), tV (decL decY (encL encY 1 code))))))))
noncomputable def k4_10 (code : List Int) (y : Nat) : AS := (AS.mk [(0, encL encY 1 code), (3, vi (tF code)), (4, encL (encMsg 1) 221 (tL code)), (5, V.oref 384 0 0), (6, vi (tV code)), (7, V.oref 512 0 0), (8, V.oref 576 0 0), (9, vi (↑y : Int))] (k4_1 code))
noncomputable def k4_11 (code : List Int) : Nat × Blk := (512, Blk.box [vi (0 : Int), vi (4 : Int), vi (tV code), vi (Replica.id (tR code)), vi (0 : Int), vi (0 : Int), V.osl 66097536 (List.length (tC code)), V.osl 66097600 0])
noncomputable def k4_12 (code : List Int) : Prop := (VLe (encL (encMsg 1) 1 (Prod.fst (tL (decL decY (encL encY 1 code)), uR (decL decY (encL encY 1 code))))) (encL (encMsg 1) 1 (k4_3 code)))
noncomputable def k4_13 (code : List Int) : Prop := (VLe (encL encY 1 code) (encL encY 1 (decL decY (encL encY 1 code))))
noncomputable def k4_14 (code : List Int) : Nat × Blk := (384, Blk.box [vi (Replica.id (tR code)), vi (Replica.view (tR code)), vi (Replica.start (tR code)), vi (Replica.done (tR code))])
theorem bd4 (code : List Int) (hpre : pr4 code) : bodyP (cx4 code) Tryz.f4 0 [encL encY 1 (code)] (fun rr => VLe rr (rs4 code)) := by
  have key : (((k4_13 code) ∧ (pr5 (decL decY (encL encY 1 code)))) ∧ (((decide (1048576 < List.length (decL decY (encL encY 1 code))) = true) → (VLe (V.bool true) (V.bool true))) ∧ ((decide (1048576 < List.length (decL decY (encL encY 1 code))) = false) → (((k4_13 code) ∧ (pr15 (decL decY (encL encY 1 code)))) ∧ (((VLe (k4_0 code) (encL (encMsg 1) 1 (decL decMsg (k4_0 code)))) ∧ ((VLe (k4_2 code) (encReplica 1 (decReplica (k4_2 code)))) ∧ (pr16o (Prod.fst (tF (decL decY (encL encY 1 code)), tL (decL decY (encL encY 1 code)), tR (decL decY (encL encY 1 code)), tV (decL decY (encL encY 1 code)))) (decL decMsg (k4_0 code)) (decReplica (k4_2 code)) (Prod.snd (tR (decL decY (encL encY 1 code)), tV (decL decY (encL encY 1 code))))))) ∧ ((((MsgResult.code (ro16o (Prod.fst (tF (decL decY (encL encY 1 code)), tL (decL decY (encL encY 1 code)), tR (decL decY (encL encY 1 code)), tV (decL decY (encL encY 1 code)))) (decL decMsg (k4_0 code)) (decReplica (k4_2 code)) (Prod.snd (tR (decL decY (encL encY 1 code)), tV (decL decY (encL encY 1 code))))) != (0 : Int)) = true) → (((VLe (k4_0 code) (encL (encMsg 1) 1 (decL decMsg (k4_0 code)))) ∧ ((VLe (k4_2 code) (encReplica 1 (decReplica (k4_2 code)))) ∧ (pr17o (Prod.fst (tF (decL decY (encL encY 1 code)), tL (decL decY (encL encY 1 code)), tR (decL decY (encL encY 1 code)), tV (decL decY (encL encY 1 code)))) (decL decMsg (k4_0 code)) (decReplica (k4_2 code)) (Prod.snd (tR (decL decY (encL encY 1 code)), tV (decL decY (encL encY 1 code))))))) ∧ (VLe (V.bool (MsgResult.code (ro17o (Prod.fst (tF (decL decY (encL encY 1 code)), tL (decL decY (encL encY 1 code)), tR (decL decY (encL encY 1 code)), tV (decL decY (encL encY 1 code)))) (decL decMsg (k4_0 code)) (decReplica (k4_2 code)) (Prod.snd (tR (decL decY (encL encY 1 code)), tV (decL decY (encL encY 1 code))))) == MsgResult.code (ro16o (Prod.fst (tF (decL decY (encL encY 1 code)), tL (decL decY (encL encY 1 code)), tR (decL decY (encL encY 1 code)), tV (decL decY (encL encY 1 code)))) (decL decMsg (k4_0 code)) (decReplica (k4_2 code)) (Prod.snd (tR (decL decY (encL encY 1 code)), tV (decL decY (encL encY 1 code))))))) (V.bool true)))) ∧ (((MsgResult.code (ro16o (Prod.fst (tF (decL decY (encL encY 1 code)), tL (decL decY (encL encY 1 code)), tR (decL decY (encL encY 1 code)), tV (decL decY (encL encY 1 code)))) (decL decMsg (k4_0 code)) (decReplica (k4_2 code)) (Prod.snd (tR (decL decY (encL encY 1 code)), tV (decL decY (encL encY 1 code))))) != (0 : Int)) = false) → (((VLe (k4_0 code) (encL (encMsg 1) 1 (decL decMsg (k4_0 code)))) ∧ (pr18o (Prod.fst (tF (decL decY (encL encY 1 code)), tL (decL decY (encL encY 1 code)), tR (decL decY (encL encY 1 code)), tV (decL decY (encL encY 1 code)))) (decL decMsg (k4_0 code)) (Replica.id (Prod.fst (tR (decL decY (encL encY 1 code)), tV (decL decY (encL encY 1 code))))) (Prod.snd (tR (decL decY (encL encY 1 code)), tV (decL decY (encL encY 1 code)))))) ∧ ((∃ x : Nat, ((SLe (AS.mk [(0, encL encY 1 code), (3, vi (Prod.fst (tF (decL decY (encL encY 1 code)), tL (decL decY (encL encY 1 code)), tR (decL decY (encL encY 1 code)), tV (decL decY (encL encY 1 code))))), (4, encL (encMsg 1) 221 (Prod.fst (tL (decL decY (encL encY 1 code)), tR (decL decY (encL encY 1 code)), tV (decL decY (encL encY 1 code))))), (5, V.oref 384 0 0), (6, vi (Prod.snd (tR (decL decY (encL encY 1 code)), tV (decL decY (encL encY 1 code))))), (7, V.oref 512 0 0), (8, V.oref 576 0 0), (9, vi (0 : Int))] [(384, Blk.box [vi (Replica.id (Prod.fst (tR (decL decY (encL encY 1 code)), tV (decL decY (encL encY 1 code))))), vi (Replica.view (Prod.fst (tR (decL decY (encL encY 1 code)), tV (decL decY (encL encY 1 code))))), vi (Replica.start (Prod.fst (tR (decL decY (encL encY 1 code)), tV (decL decY (encL encY 1 code))))), vi (Replica.done (Prod.fst (tR (decL decY (encL encY 1 code)), tV (decL decY (encL encY 1 code)))))]), (512, Blk.box [vi (MsgResult.code (ro16o (Prod.fst (tF (decL decY (encL encY 1 code)), tL (decL decY (encL encY 1 code)), tR (decL decY (encL encY 1 code)), tV (decL decY (encL encY 1 code)))) (decL decMsg (k4_0 code)) (decReplica (k4_2 code)) (Prod.snd (tR (decL decY (encL encY 1 code)), tV (decL decY (encL encY 1 code)))))), vi (Msg.kind (MsgResult.msg (ro16o (Prod.fst (tF (decL decY (encL encY 1 code)), tL (decL decY (encL encY 1 code)), tR (decL decY (encL encY 1 code)), tV (decL decY (encL encY 1 code)))) (decL decMsg (k4_0 code)) (decReplica (k4_2 code)) (Prod.snd (tR (decL decY (encL encY 1 code)), tV (decL decY (encL encY 1 code))))))), vi (Msg.view (MsgResult.msg (ro16o (Prod.fst (tF (decL decY (encL encY 1 code)), tL (decL decY (encL encY 1 code)), tR (decL decY (encL encY 1 code)), tV (decL decY (encL encY 1 code)))) (decL decMsg (k4_0 code)) (decReplica (k4_2 code)) (Prod.snd (tR (decL decY (encL encY 1 code)), tV (decL decY (encL encY 1 code))))))), vi (Msg.sender (MsgResult.msg (ro16o (Prod.fst (tF (decL decY (encL encY 1 code)), tL (decL decY (encL encY 1 code)), tR (decL decY (encL encY 1 code)), tV (decL decY (encL encY 1 code)))) (decL decMsg (k4_0 code)) (decReplica (k4_2 code)) (Prod.snd (tR (decL decY (encL encY 1 code)), tV (decL decY (encL encY 1 code))))))), vi (Msg.slot (MsgResult.msg (ro16o (Prod.fst (tF (decL decY (encL encY 1 code)), tL (decL decY (encL encY 1 code)), tR (decL decY (encL encY 1 code)), tV (decL decY (encL encY 1 code)))) (decL decMsg (k4_0 code)) (decReplica (k4_2 code)) (Prod.snd (tR (decL decY (encL encY 1 code)), tV (decL decY (encL encY 1 code))))))), vi (Msg.value (MsgResult.msg (ro16o (Prod.fst (tF (decL decY (encL encY 1 code)), tL (decL decY (encL encY 1 code)), tR (decL decY (encL encY 1 code)), tV (decL decY (encL encY 1 code)))) (decL decMsg (k4_0 code)) (decReplica (k4_2 code)) (Prod.snd (tR (decL decY (encL encY 1 code)), tV (decL decY (encL encY 1 code))))))), V.osl 66097536 (k4_8 code), V.osl 66097600 (k4_9 code)]), (66097536, Blk.arr 3 (k4_8 code) (gL (encCert 1) (Msg.certs (MsgResult.msg (ro16o (Prod.fst (tF (decL decY (encL encY 1 code)), tL (decL decY (encL encY 1 code)), tR (decL decY (encL encY 1 code)), tV (decL decY (encL encY 1 code)))) (decL decMsg (k4_0 code)) (decReplica (k4_2 code)) (Prod.snd (tR (decL decY (encL encY 1 code)), tV (decL decY (encL encY 1 code)))))))) 100), (66097600, Blk.arr 1 (k4_9 code) (gL encI (Msg.refs (MsgResult.msg (ro16o (Prod.fst (tF (decL decY (encL encY 1 code)), tL (decL decY (encL encY 1 code)), tR (decL decY (encL encY 1 code)), tV (decL decY (encL encY 1 code)))) (decL decMsg (k4_0 code)) (decReplica (k4_2 code)) (Prod.snd (tR (decL decY (encL encY 1 code)), tV (decL decY (encL encY 1 code)))))))) 100), (576, Blk.box [vi (CertsResult.code (ro18o (Prod.fst (tF (decL decY (encL encY 1 code)), tL (decL decY (encL encY 1 code)), tR (decL decY (encL encY 1 code)), tV (decL decY (encL encY 1 code)))) (decL decMsg (k4_0 code)) (Replica.id (Prod.fst (tR (decL decY (encL encY 1 code)), tV (decL decY (encL encY 1 code))))) (Prod.snd (tR (decL decY (encL encY 1 code)), tV (decL decY (encL encY 1 code)))))), V.osl 66359360 (k4_7 code)]), (66359360, Blk.arr 3 (k4_7 code) (gL (encCert 1) (CertsResult.certs (ro18o (Prod.fst (tF (decL decY (encL encY 1 code)), tL (decL decY (encL encY 1 code)), tR (decL decY (encL encY 1 code)), tV (decL decY (encL encY 1 code)))) (decL decMsg (k4_0 code)) (Replica.id (Prod.fst (tR (decL decY (encL encY 1 code)), tV (decL decY (encL encY 1 code))))) (Prod.snd (tR (decL decY (encL encY 1 code)), tV (decL decY (encL encY 1 code))))))) 100)]) (AS.mk [(0, encL encY 1 code), (3, vi (tF code)), (4, encL (encMsg 1) 221 (tL code)), (5, V.oref 384 0 0), (6, vi (tV code)), (7, V.oref 512 0 0), (8, V.oref 576 0 0), (9, vi (↑x : Int))] (k4_1 code))) ∧ (x ≤ List.length (tL code)))) ∧ (∀ x : Nat, ((x ≤ List.length (tL code)) → (((decide ((↑x : Int) < (↑(List.length (tL code)) : Int)) = true) → ((((0 : Int) ≤ (↑x : Int)) ∧ ((↑x : Int) < (↑(List.length (tL code)) : Int))) ∧ ((tq (!Msg.kind (List.getD (tL code) (Int.toNat (↑x : Int)) default) != (3 : Int))) ∧ ((tq (!Msg.kind (List.getD (tL code) (Int.toNat (↑x : Int)) default) != (3 : Int))) ∧ ((tq (!Msg.kind (List.getD (tL code) (Int.toNat (↑x : Int)) default) != (3 : Int))) ∧ ((tq (!Msg.kind (List.getD (tL code) (Int.toNat (↑x : Int)) default) != (3 : Int))) ∧ (((true = true) → (((Msg.kind (List.getD (tL code) (Int.toNat (↑x : Int)) default) != (3 : Int)) = false) → ((!Msg.kind (List.getD (tL code) (Int.toNat (↑x : Int)) default) != (3 : Int)) = true))) ∧ (∀ b : Bool, ((b = bif Msg.kind (List.getD (tL code) (Int.toNat (↑x : Int)) default) != (3 : Int) then true else Msg.sender (List.getD (tL code) (Int.toNat (↑x : Int)) default) != Replica.id (tR code)) → ((tq (!b)) ∧ ((tq (!b)) ∧ ((tq (!b)) ∧ (((true = true) → ((b = false) → ((!b) = true))) ∧ (∀ b_1 : Bool, ((b_1 = bif b then true else decide (Msg.view (List.getD (tL code) (Int.toNat (↑x : Int)) default) ≥ tV code)) → (((b_1 = true) → ((inK IntKind.i64 ((↑x : Int) + (1 : Int))) ∧ (∃ y : Nat, ((SLe (AS.mk [(0, encL encY 1 code), (3, vi (tF code)), (4, encL (encMsg 1) 221 (tL code)), (5, V.oref 384 0 0), (6, vi (tV code)), (7, V.oref 512 0 0), (8, V.oref 576 0 0), (9, vi ((↑x : Int) + (1 : Int)))] (k4_1 code)) (k4_10 code y)) ∧ ((y ≤ List.length (tL code)) ∧ (List.length (tL code) - y < List.length (tL code) - x)))))) ∧ ((b_1 = false) → (∃ R : Nat × Nat → Prop, ((∃ x_1 : Nat × Nat, ((SLe (AS.mk [(0, encL encY 1 code), (3, vi (tF code)), (4, encL (encMsg 1) 221 (tL code)), (5, V.oref 384 0 0), (6, vi (tV code)), (7, V.oref 512 0 0), (8, V.oref 576 0 0), (9, vi (↑x : Int)), (10, V.oref 704 0 0), (11, V.bool false), (12, vi (0 : Int))] [(k4_14 code), (k4_11 code), (66097536, Blk.arr 3 (List.length (tC code)) (gL (encCert 1) (tC code)) 100), (66097600, Blk.arr 1 0 (gL encI []) 100), (576, Blk.box [vi (0 : Int), V.osl 66359360 (List.length (tC code))]), (66359360, Blk.arr 3 (List.length (tC code)) (gL (encCert 1) (tC code)) 100), (704, Blk.box [vi (Msg.kind (List.getD (tL code) (Int.toNat (↑x : Int)) default)), vi (Msg.view (List.getD (tL code) (Int.toNat (↑x : Int)) default)), vi (Msg.sender (List.getD (tL code) (Int.toNat (↑x : Int)) default)), vi (Msg.slot (List.getD (tL code) (Int.toNat (↑x : Int)) default)), vi (Msg.value (List.getD (tL code) (Int.toNat (↑x : Int)) default)), encL (encCert 1) 221 (Msg.certs (List.getD (tL code) (Int.toNat (↑x : Int)) default)), encL encI 221 (Msg.refs (List.getD (tL code) (Int.toNat (↑x : Int)) default))])]) (AS.mk [(0, encL encY 1 code), (3, vi (tF code)), (4, encL (encMsg 1) 221 (tL code)), (5, V.oref 384 0 0), (6, vi (tV code)), (7, V.oref 512 0 0), (8, V.oref 576 0 0), (9, vi (↑x_1.1 : Int)), (10, V.oref 704 0 0), (11, V.bool (decide (toldC (List.take x_1.2 (tC code)) (List.getD (tL code) x_1.1 default)))), (12, vi (↑x_1.2 : Int))] (k4_5 code x_1))) ∧ (((Prod.fst x_1 < List.length (tL code)) ∧ (Prod.snd x_1 ≤ List.length (tC code))) ∧ (R x_1)))) ∧ (∀ x_1 : Nat × Nat, (((Prod.fst x_1 < List.length (tL code)) ∧ (Prod.snd x_1 ≤ List.length (tC code))) → ((R x_1) → (((decide ((↑x_1.2 : Int) < (↑(List.length (tC code)) : Int)) = true) → ((tq (!decide (toldC (List.take x_1.2 (tC code)) (List.getD (tL code) x_1.1 default)))) ∧ ((tq (!decide (toldC (List.take x_1.2 (tC code)) (List.getD (tL code) x_1.1 default)))) ∧ ((tq (!decide (toldC (List.take x_1.2 (tC code)) (List.getD (tL code) x_1.1 default)))) ∧ ((tq (!decide (toldC (List.take x_1.2 (tC code)) (List.getD (tL code) x_1.1 default)))) ∧ ((((!decide (toldC (List.take x_1.2 (tC code)) (List.getD (tL code) x_1.1 default))) = true) → (((0 : Int) ≤ (↑x_1.2 : Int)) ∧ ((↑x_1.2 : Int) < (↑(List.length (tC code)) : Int)))) ∧ ((tq (!decide (toldC (List.take x_1.2 (tC code)) (List.getD (tL code) x_1.1 default)))) ∧ ((tq (!decide (toldC (List.take x_1.2 (tC code)) (List.getD (tL code) x_1.1 default)))) ∧ ((((!decide (toldC (List.take x_1.2 (tC code)) (List.getD (tL code) x_1.1 default))) = true) → (Int.toNat (↑x_1.2 : Int) < List.length (tC code))) ∧ ((tq (!decide (toldC (List.take x_1.2 (tC code)) (List.getD (tL code) x_1.1 default)))) ∧ ((tq (!decide (toldC (List.take x_1.2 (tC code)) (List.getD (tL code) x_1.1 default)))) ∧ ((tq (!decide (toldC (List.take x_1.2 (tC code)) (List.getD (tL code) x_1.1 default)))) ∧ ((tq (!decide (toldC (List.take x_1.2 (tC code)) (List.getD (tL code) x_1.1 default)))) ∧ ((tq (!decide (toldC (List.take x_1.2 (tC code)) (List.getD (tL code) x_1.1 default)) && Cert.slot (List.getD (tC code) (Int.toNat (↑x_1.2 : Int)) default) == Msg.slot (List.getD (tL code) x_1.1 default))) ∧ ((tq (!decide (toldC (List.take x_1.2 (tC code)) (List.getD (tL code) x_1.1 default)) && Cert.slot (List.getD (tC code) (Int.toNat (↑x_1.2 : Int)) default) == Msg.slot (List.getD (tL code) x_1.1 default))) ∧ ((tq (!decide (toldC (List.take x_1.2 (tC code)) (List.getD (tL code) x_1.1 default)) && Cert.slot (List.getD (tC code) (Int.toNat (↑x_1.2 : Int)) default) == Msg.slot (List.getD (tL code) x_1.1 default))) ∧ ((tq (!decide (toldC (List.take x_1.2 (tC code)) (List.getD (tL code) x_1.1 default)) && Cert.slot (List.getD (tC code) (Int.toNat (↑x_1.2 : Int)) default) == Msg.slot (List.getD (tL code) x_1.1 default))) ∧ ((((!decide (toldC (List.take x_1.2 (tC code)) (List.getD (tL code) x_1.1 default)) && Cert.slot (List.getD (tC code) (Int.toNat (↑x_1.2 : Int)) default) == Msg.slot (List.getD (tL code) x_1.1 default)) = true) → (((0 : Int) ≤ (↑x_1.2 : Int)) ∧ ((↑x_1.2 : Int) < (↑(List.length (tC code)) : Int)))) ∧ ((tq (!decide (toldC (List.take x_1.2 (tC code)) (List.getD (tL code) x_1.1 default)) && Cert.slot (List.getD (tC code) (Int.toNat (↑x_1.2 : Int)) default) == Msg.slot (List.getD (tL code) x_1.1 default))) ∧ ((tq (!decide (toldC (List.take x_1.2 (tC code)) (List.getD (tL code) x_1.1 default)) && Cert.slot (List.getD (tC code) (Int.toNat (↑x_1.2 : Int)) default) == Msg.slot (List.getD (tL code) x_1.1 default))) ∧ ((((!decide (toldC (List.take x_1.2 (tC code)) (List.getD (tL code) x_1.1 default)) && Cert.slot (List.getD (tC code) (Int.toNat (↑x_1.2 : Int)) default) == Msg.slot (List.getD (tL code) x_1.1 default)) = true) → (Int.toNat (↑x_1.2 : Int) < List.length (tC code))) ∧ ((tq (!decide (toldC (List.take x_1.2 (tC code)) (List.getD (tL code) x_1.1 default)) && Cert.slot (List.getD (tC code) (Int.toNat (↑x_1.2 : Int)) default) == Msg.slot (List.getD (tL code) x_1.1 default))) ∧ ((tq (!decide (toldC (List.take x_1.2 (tC code)) (List.getD (tL code) x_1.1 default)) && Cert.slot (List.getD (tC code) (Int.toNat (↑x_1.2 : Int)) default) == Msg.slot (List.getD (tL code) x_1.1 default))) ∧ ((tq (!decide (toldC (List.take x_1.2 (tC code)) (List.getD (tL code) x_1.1 default)) && Cert.slot (List.getD (tC code) (Int.toNat (↑x_1.2 : Int)) default) == Msg.slot (List.getD (tL code) x_1.1 default))) ∧ ((tq (!decide (toldC (List.take x_1.2 (tC code)) (List.getD (tL code) x_1.1 default)))) ∧ ((((!decide (toldC (List.take x_1.2 (tC code)) (List.getD (tL code) x_1.1 default))) = true) → (((!decide (toldC (List.take x_1.2 (tC code)) (List.getD (tL code) x_1.1 default))) = true) → (((Cert.slot (List.getD (tC code) (Int.toNat (↑x_1.2 : Int)) default) == Msg.slot (List.getD (tL code) x_1.1 default)) = true) → ((!decide (toldC (List.take x_1.2 (tC code)) (List.getD (tL code) x_1.1 default)) && Cert.slot (List.getD (tC code) (Int.toNat (↑x_1.2 : Int)) default) == Msg.slot (List.getD (tL code) x_1.1 default)) = true)))) ∧ (∀ b_2 : Bool, ((b_2 = bif Cert.slot (List.getD (tC code) (Int.toNat (↑x_1.2 : Int)) default) == Msg.slot (List.getD (tL code) x_1.1 default) then decide (Cert.view (List.getD (tC code) (Int.toNat (↑x_1.2 : Int)) default) ≥ Msg.view (List.getD (tL code) x_1.1 default)) else false) → (((true = true) → ((decide (toldC (List.take x_1.2 (tC code)) (List.getD (tL code) x_1.1 default)) = false) → ((!decide (toldC (List.take x_1.2 (tC code)) (List.getD (tL code) x_1.1 default))) = true))) ∧ (∀ b_3 : Bool, ((b_3 = bif decide (toldC (List.take x_1.2 (tC code)) (List.getD (tL code) x_1.1 default)) then true else b_2) → ((inK IntKind.i64 ((↑x_1.2 : Int) + (1 : Int))) ∧ (∃ y : Nat × Nat, ((SLe (AS.mk [(0, encL encY 1 code), (3, vi (tF code)), (4, encL (encMsg 1) 221 (tL code)), (5, V.oref 384 0 0), (6, vi (tV code)), (7, V.oref 512 0 0), (8, V.oref 576 0 0), (9, vi (↑x_1.1 : Int)), (10, V.oref 704 0 0), (11, V.bool b_3), (12, vi ((↑x_1.2 : Int) + (1 : Int)))] (k4_5 code x_1)) (AS.mk [(0, encL encY 1 code), (3, vi (tF code)), (4, encL (encMsg 1) 221 (tL code)), (5, V.oref 384 0 0), (6, vi (tV code)), (7, V.oref 512 0 0), (8, V.oref 576 0 0), (9, vi (↑y.1 : Int)), (10, V.oref 704 0 0), (11, V.bool (decide (toldC (List.take y.2 (tC code)) (List.getD (tL code) y.1 default)))), (12, vi (↑y.2 : Int))] [(k4_14 code), (k4_11 code), (66097536, Blk.arr 3 (List.length (tC code)) (gL (encCert 1) (tC code)) 100), (66097600, Blk.arr 1 0 (gL encI []) 100), (576, Blk.box [vi (0 : Int), V.osl 66359360 (List.length (tC code))]), (66359360, Blk.arr 3 (List.length (tC code)) (gL (encCert 1) (tC code)) 100), (704, Blk.box [vi (Msg.kind (List.getD (tL code) y.1 default)), vi (Msg.view (List.getD (tL code) y.1 default)), vi (Msg.sender (List.getD (tL code) y.1 default)), vi (Msg.slot (List.getD (tL code) y.1 default)), vi (Msg.value (List.getD (tL code) y.1 default)), encL (encCert 1) 221 (Msg.certs (List.getD (tL code) y.1 default)), encL encI 221 (Msg.refs (List.getD (tL code) y.1 default))])])) ∧ (((Prod.fst y < List.length (tL code)) ∧ (Prod.snd y ≤ List.length (tC code))) ∧ ((R y) ∧ (List.length (tC code) - Prod.snd y < List.length (tC code) - Prod.snd x_1))))))))))))))))))))))))))))))))))))) ∧ ((decide ((↑x_1.2 : Int) < (↑(List.length (tC code)) : Int)) = false) → ((((!decide (toldC (List.take x_1.2 (tC code)) (List.getD (tL code) x_1.1 default))) = true) → (VLe (V.bool false) (V.bool true))) ∧ (((!decide (toldC (List.take x_1.2 (tC code)) (List.getD (tL code) x_1.1 default))) = false) → ((inK IntKind.i64 ((↑x_1.1 : Int) + (1 : Int))) ∧ (∃ y : Nat, ((SLe (AS.mk [(0, encL encY 1 code), (3, vi (tF code)), (4, encL (encMsg 1) 221 (tL code)), (5, V.oref 384 0 0), (6, vi (tV code)), (7, V.oref 512 0 0), (8, V.oref 576 0 0), (9, vi ((↑x_1.1 : Int) + (1 : Int)))] (k4_1 code)) (k4_10 code y)) ∧ ((y ≤ List.length (tL code)) ∧ (List.length (tL code) - y < List.length (tL code) - x))))))))))))))))))))))))))))))) ∧ ((decide ((↑x : Int) < (↑(List.length (tL code)) : Int)) = false) → (((k4_13 code) ∧ (pr19 (decL decY (encL encY 1 code)))) ∧ (((k4_12 code) ∧ ((VLe (k4_4 code) (encReplica 1 (decReplica (k4_4 code)))) ∧ (pr20o (Prod.fst (tF (decL decY (encL encY 1 code)), tL (decL decY (encL encY 1 code)), uR (decL decY (encL encY 1 code)))) (k4_3 code) (decReplica (k4_4 code))))) ∧ ((tq ((0 : Int) == (0 : Int))) ∧ ((tq ((0 : Int) == (0 : Int))) ∧ ((tq ((0 : Int) == (0 : Int))) ∧ ((tq ((0 : Int) == (0 : Int))) ∧ ((tq ((0 : Int) == (0 : Int))) ∧ ((tq ((0 : Int) == (0 : Int))) ∧ ((tq ((0 : Int) == (0 : Int))) ∧ (((true = true) → ((((0 : Int) == (0 : Int)) = true) → (((0 : Int) == (0 : Int)) = true))) ∧ (∀ b : Bool, ((b = bif (0 : Int) == (0 : Int) then (↑(List.length (tC code)) : Int) == (↑(List.length (tC code)) : Int) else false) → ((tq (b)) ∧ ((tq (b)) ∧ ((tq (b)) ∧ (((b = true) → ((VLe (k4_6 code) (encMsg 1 (decMsg (k4_6 code)))) ∧ (pr21 (tF code) (decMsg (k4_6 code))))) ∧ ((tq (b)) ∧ (((true = true) → ((b = true) → (b = true))) ∧ (∀ b_1 : Bool, ((b_1 = bif b then (if okF (tF code) then msgFault (tF code) (decMsg (k4_6 code)) else (3 : Int)) == (0 : Int) else false) → ((tq (b_1)) ∧ ((tq (b_1)) ∧ ((tq (b_1)) ∧ ((tq (b_1)) ∧ (((true = true) → ((b_1 = true) → (b_1 = true))) ∧ (∀ b_2 : Bool, ((b_2 = bif b_1 then tV code == tV code else false) → ((tq (b_2)) ∧ ((tq (b_2)) ∧ ((tq (b_2)) ∧ ((tq (b_2)) ∧ ((tq (b_2)) ∧ (((true = true) → ((b_2 = true) → (b_2 = true))) ∧ (∀ b_3 : Bool, ((b_3 = bif b_2 then Replica.id (tR code) == Replica.id (tR code) else false) → ((tq (b_3)) ∧ ((tq (b_3)) ∧ ((tq (b_3)) ∧ ((tq (b_3)) ∧ (((b_3 = true) → ((k4_12 code) ∧ ((VLe (k4_4 code) (encReplica 1 (decReplica (k4_4 code)))) ∧ (pr22c (Prod.fst (tF (decL decY (encL encY 1 code)), tL (decL decY (encL encY 1 code)), uR (decL decY (encL encY 1 code)))) (k4_3 code) (decReplica (k4_4 code)))))) ∧ ((tq (b_3)) ∧ ((tq (b_3)) ∧ ((tq (b_3)) ∧ (((true = true) → ((b_3 = true) → (b_3 = true))) ∧ (∀ b_4 : Bool, ((b_4 = bif b_3 then MsgResult.code (ro20o (Prod.fst (tF (decL decY (encL encY 1 code)), tL (decL decY (encL encY 1 code)), uR (decL decY (encL encY 1 code)))) (k4_3 code) (decReplica (k4_4 code))) == MsgResult.code (newMsgF (Prod.fst (tF (decL decY (encL encY 1 code)), tL (decL decY (encL encY 1 code)), uR (decL decY (encL encY 1 code)))) (k4_3 code) (decReplica (k4_4 code))) else false) → ((tq (b_4)) ∧ ((tq (b_4)) ∧ ((tq (b_4)) ∧ ((tq (b_4 && !MsgResult.code (ro20o (Prod.fst (tF (decL decY (encL encY 1 code)), tL (decL decY (encL encY 1 code)), uR (decL decY (encL encY 1 code)))) (k4_3 code) (decReplica (k4_4 code))) != (0 : Int))) ∧ ((tq (b_4 && !MsgResult.code (ro20o (Prod.fst (tF (decL decY (encL encY 1 code)), tL (decL decY (encL encY 1 code)), uR (decL decY (encL encY 1 code)))) (k4_3 code) (decReplica (k4_4 code))) != (0 : Int))) ∧ ((tq (b_4 && !MsgResult.code (ro20o (Prod.fst (tF (decL decY (encL encY 1 code)), tL (decL decY (encL encY 1 code)), uR (decL decY (encL encY 1 code)))) (k4_3 code) (decReplica (k4_4 code))) != (0 : Int))) ∧ ((tq (b_4 && !MsgResult.code (ro20o (Prod.fst (tF (decL decY (encL encY 1 code)), tL (decL decY (encL encY 1 code)), uR (decL decY (encL encY 1 code)))) (k4_3 code) (decReplica (k4_4 code))) != (0 : Int))) ∧ ((((b_4 && !MsgResult.code (ro20o (Prod.fst (tF (decL decY (encL encY 1 code)), tL (decL decY (encL encY 1 code)), uR (decL decY (encL encY 1 code)))) (k4_3 code) (decReplica (k4_4 code))) != (0 : Int)) = true) → (pr12 (Prod.fst (tF (decL decY (encL encY 1 code)), tL (decL decY (encL encY 1 code)), uR (decL decY (encL encY 1 code)))))) ∧ ((tq (b_4 && !MsgResult.code (ro20o (Prod.fst (tF (decL decY (encL encY 1 code)), tL (decL decY (encL encY 1 code)), uR (decL decY (encL encY 1 code)))) (k4_3 code) (decReplica (k4_4 code))) != (0 : Int))) ∧ ((tq (b_4 && !MsgResult.code (ro20o (Prod.fst (tF (decL decY (encL encY 1 code)), tL (decL decY (encL encY 1 code)), uR (decL decY (encL encY 1 code)))) (k4_3 code) (decReplica (k4_4 code))) != (0 : Int))) ∧ ((tq (b_4 && !MsgResult.code (ro20o (Prod.fst (tF (decL decY (encL encY 1 code)), tL (decL decY (encL encY 1 code)), uR (decL decY (encL encY 1 code)))) (k4_3 code) (decReplica (k4_4 code))) != (0 : Int))) ∧ ((tq (b_4)) ∧ (((b_4 = true) → ((b_4 = true) → (((MsgResult.code (ro20o (Prod.fst (tF (decL decY (encL encY 1 code)), tL (decL decY (encL encY 1 code)), uR (decL decY (encL encY 1 code)))) (k4_3 code) (decReplica (k4_4 code))) != (0 : Int)) = false) → ((b_4 && !MsgResult.code (ro20o (Prod.fst (tF (decL decY (encL encY 1 code)), tL (decL decY (encL encY 1 code)), uR (decL decY (encL encY 1 code)))) (k4_3 code) (decReplica (k4_4 code))) != (0 : Int)) = true)))) ∧ (∀ b_5 : Bool, ((b_5 = bif MsgResult.code (ro20o (Prod.fst (tF (decL decY (encL encY 1 code)), tL (decL decY (encL encY 1 code)), uR (decL decY (encL encY 1 code)))) (k4_3 code) (decReplica (k4_4 code))) != (0 : Int) then true else (↑(List.length (Msg.refs (MsgResult.msg (ro20o (Prod.fst (tF (decL decY (encL encY 1 code)), tL (decL decY (encL encY 1 code)), uR (decL decY (encL encY 1 code)))) (k4_3 code) (decReplica (k4_4 code)))))) : Int) == IntResult.value (needOfF (Prod.fst (tF (decL decY (encL encY 1 code)), tL (decL decY (encL encY 1 code)), uR (decL decY (encL encY 1 code)))))) → (((true = true) → ((b_4 = true) → (b_4 = true))) ∧ (∀ b_6 : Bool, ((b_6 = bif b_4 then b_5 else false) → (VLe (V.bool b_6) (V.bool true))))))))))))))))))))))))))))))))))))))))))))))))))))))))))))))))))))))))))))))) := by
    delta k4_14; delta k4_13; delta k4_12; delta k4_11; delta k4_10; delta k4_9; delta k4_8; delta k4_7; delta k4_6; delta k4_5; delta k4_4; delta k4_3; delta k4_2; delta k4_1; delta k4_0; delta vi
    obtain ⟨hlen, hby⟩ := hpre
    simp only [decL_bytes, decL_Msg, decL_ints, decL_Cert, dec_encReplica, dec_encMsg, ro16o, ro17o, ro18o, ro20o]
    refine ⟨⟨VLe.refl _, trivial⟩, fun h => VLe.refl _, fun h => ?_⟩
    have h0 := okX_code (Nat.le_of_not_lt (of_decide_eq_false h)) hby
    have hb := tL_bd h0
    have hC : tC code = certsL (tL code) (tR code).id (tV code) := rfl
    generalize tF code = f at *
    generalize tL code = l at *
    generalize tR code = r at *
    generalize tV code = v at *
    generalize tC code = C at *
    generalize uR code = u at *
    refine ⟨⟨VLe.refl _, h0⟩, ⟨VLe.refl _, VLe.refl _, hb⟩, fun h => ⟨⟨VLe.refl _, VLe.refl _, hb⟩, vle_bool (by simp)⟩, fun h => ?_⟩
    have hc : (changeMsgF f l r v).code = 0 := by simpa using h
    have hz : replicaFault f l r = 0 := Classical.byContradiction fun g => by
      unfold changeMsgF at hc
      rw [if_pos g] at hc
      exact g hc
    have hv : inR v 0 20 := Classical.byContradiction fun g => by
      unfold changeMsgF changeF at hc
      rw [if_neg (not_not_intro hz), if_pos g] at hc
      simp at hc
    have hgt : ¬ v ≤ r.view := fun g => by
      unfold changeMsgF changeF at hc
      rw [if_neg (not_not_intro hz), if_neg (not_not_intro hv), if_pos g] at hc
      simp at hc
    have e : changeMsgF f l r v = ⟨0, ⟨4, v, r.id, 0, 0, C, []⟩⟩ := by
      unfold changeMsgF changeF
      rw [if_neg (not_not_intro hz), if_neg (not_not_intro hv), if_neg hgt, hC]
    obtain ⟨hr, hrv⟩ := replica_right hz
    have h240 := hr.len
    have hlf : ledgerFault f l = 0 := Classical.byContradiction fun g => by
      unfold replicaFault at hz
      rw [if_pos g] at hz
      exact g hz
    have hid : inR r.id 1 (3 * f + 1) := Classical.byContradiction fun g => by
      unfold replicaFault repF at hz
      rw [if_neg (not_not_intro hlf), if_pos (fun k => g k.1)] at hz
      simp at hz
    have ec : certsOfF f l r.id v = ⟨0, C⟩ := by
      unfold certsOfF
      rw [if_neg (not_not_intro hlf), if_neg (not_not_intro ⟨hid, hv⟩), hC]
    have hCl : C.length ≤ 30 := by rw [hC]; exact certsTo_len _ _ _ _
    have hmf : msgFault f ⟨4, v, r.id, 0, 0, C, []⟩ = 0 := by rw [hC]; exact change_ok hr hid hv
    have hmb : (⟨4, v, r.id, 0, 0, C, []⟩ : Msg).bd := ⟨by unfold maxLen; simp only; omega, Nat.zero_le _⟩
    simp only [e, ec]
    refine ⟨⟨VLe.refl _, hb⟩, ⟨0, sle_of ⟨rfl, VLe.refl _, rfl, VLe.refl _, rfl, VLe.refl _, rfl, VLe.refl _, rfl, VLe.refl _, rfl, VLe.refl _, rfl, VLe.refl _, rfl, VLe.refl _, trivial⟩ ⟨rfl, BLe.refl _, rfl, BLe.refl _, rfl, BLe.refl _, rfl, BLe.refl _, rfl, BLe.refl _, rfl, BLe.refl _, trivial⟩, Nat.zero_le _⟩, fun i hi => ⟨fun h => ?_, fun h => ?_⟩⟩
    · have hlt : i < l.length := by simpa using h
      simp only [Int.toNat_natCast]
      refine ⟨by omega, ?_⟩
      repeat (refine And.intro (tqB _) ?_)
      refine ⟨fun _ h => by simpa using h, fun q1 hq1 => ?_⟩
      repeat (refine And.intro (tqB _) ?_)
      refine ⟨fun _ h => by simpa using h, fun q hq => ?_⟩
      have e1 := cond3 hq1 hq
      clear hq hq1
      refine ⟨fun h2 => ⟨inK64 (by omega), i + 1, sle_of ⟨rfl, VLe.refl _, rfl, VLe.refl _, rfl, VLe.refl _, rfl, VLe.refl _, rfl, VLe.refl _, rfl, VLe.refl _, rfl, VLe.refl _, rfl, vle_int rfl, trivial⟩ ⟨rfl, BLe.refl _, rfl, BLe.refl _, rfl, BLe.refl _, rfl, BLe.refl _, rfl, BLe.refl _, rfl, BLe.refl _, trivial⟩, by omega, by omega⟩, fun h2 => ?_⟩
      rw [e1] at h2
      have hx := Classical.not_not.1 (of_decide_eq_false h2)
      have hz0 : false = decide (toldC (C.take 0) (l.getD i default)) := by simp [toldC]
      refine ⟨fun p => p.1 = i, ⟨(i, 0), sle_of ⟨rfl, VLe.refl _, rfl, VLe.refl _, rfl, VLe.refl _, rfl, VLe.refl _, rfl, VLe.refl _, rfl, VLe.refl _, rfl, VLe.refl _, rfl, VLe.refl _, rfl, VLe.refl _, rfl, vle_bool hz0, rfl, VLe.refl _, trivial⟩ ⟨rfl, BLe.refl _, rfl, BLe.refl _, rfl, BLe.refl _, rfl, BLe.refl _, rfl, BLe.refl _, rfl, BLe.refl _, rfl, BLe.refl _, trivial⟩, ⟨hlt, Nat.zero_le _⟩, rfl⟩, ?_⟩
      rintro ⟨i', k⟩ ⟨_, hk⟩ hR
      simp only at hR
      subst hR
      simp only at hk ⊢
      refine ⟨fun h => ?_, fun h => ?_⟩
      · have hkl : k < C.length := by simpa using h
        have ht := told_take hkl (l.getD i' default)
        repeat (first | refine And.intro (tqB _) ?_ | refine And.intro (fun _ => ⟨by omega, by omega⟩) ?_ | refine And.intro (fun _ => hkl) ?_)
        refine ⟨fun a _ b => by rw [a, b]; rfl, fun q1 hq1 => ?_⟩
        refine ⟨fun _ h => by rw [h]; rfl, fun q hq => ⟨inK64 (by omega), (i', k + 1), sle_of ⟨rfl, VLe.refl _, rfl, VLe.refl _, rfl, VLe.refl _, rfl, VLe.refl _, rfl, VLe.refl _, rfl, VLe.refl _, rfl, VLe.refl _, rfl, VLe.refl _, rfl, VLe.refl _, rfl, vle_bool (cond4 ht hq1 hq), rfl, vle_int rfl, trivial⟩ ⟨rfl, BLe.refl _, rfl, BLe.refl _, rfl, BLe.refl _, rfl, BLe.refl _, rfl, BLe.refl _, rfl, BLe.refl _, rfl, BLe.refl _, trivial⟩, ⟨hlt, by simp only; omega⟩, rfl, by simp only; omega⟩⟩
      · have hge : k = C.length := by have := of_decide_eq_false h; omega
        have htl : decide (toldC (C.take k) (l.getD i' default)) = true := by
          rw [hge, List.take_length, hC]
          exact decide_eq_true (told_all hr hlt hx.1 hx.2.1 hx.2.2)
        simp only [htl]
        exact ⟨fun h => by simp at h, fun _ => ⟨inK64 (by omega), i' + 1, sle_of ⟨rfl, VLe.refl _, rfl, VLe.refl _, rfl, VLe.refl _, rfl, VLe.refl _, rfl, VLe.refl _, rfl, VLe.refl _, rfl, VLe.refl _, rfl, vle_int rfl, trivial⟩ ⟨rfl, BLe.refl _, rfl, BLe.refl _, rfl, BLe.refl _, rfl, BLe.refl _, rfl, BLe.refl _, rfl, BLe.refl _, trivial⟩, by omega, by omega⟩⟩
    · refine ⟨⟨VLe.refl _, h0⟩, ?_⟩
      have hdec : decMsg (V.agg [V.int .i64 4, V.int .i64 v, V.int .i64 r.id, V.int .i64 0, V.int .i64 0, encL (encCert 1) 1 C, V.sl 0 (gL encI []) 1]) = ⟨4, v, r.id, 0, 0, C, []⟩ := by
        show (⟨4, v, r.id, 0, 0, decL decCert (encL (encCert 1) 1 C), decL decI (encL encI 1 [])⟩ : Msg) = _
        rw [decL_Cert, decL_ints]
      have hmf2 : (if okF f then msgFault f ⟨4, v, r.id, 0, 0, C, []⟩ else 3) = 0 := by rw [if_pos hr.okf, hmf]
      have hw : (newMsgF f l u).code = 0 → ((newMsgF f l u).msg.refs.length : Int) = (needOfF f).value := fun g => by
        have hf' : 1 ≤ f ∧ f ≤ 2 := by have := hr.okf; unfold okF at this; omega
        have hnd : needOfF f = ⟨0, 2 * f + 1⟩ := if_pos hr.okf
        unfold newMsgF at g ⊢
        split at g
        · rename_i h1; exact absurd g h1
        · rename_i h1
          rw [if_neg h1]
          unfold newF at g ⊢
          split at g
          · simp at g
          · rename_i h2
            rw [if_neg h2]
            split at g
            · simp at g
            · rename_i h3
              rw [if_neg h3, hnd]
              have := chTo_max f l u.view (by omega) l.length
              unfold chL at h3 ⊢
              simp only
              omega
      simp only [hdec, hmf2]
      refine ⟨⟨VLe.refl _, VLe.refl _, hb⟩, ?_⟩
      repeat (first | refine And.intro (tqB _) ?_ | refine And.intro (fun _ => ⟨VLe.refl _, hmb⟩) ?_ | refine And.intro (fun _ => ⟨VLe.refl _, VLe.refl _, hb⟩) ?_ | refine And.intro (fun _ h => h) ?_ | refine And.intro (fun _ => trivial) ?_ | refine And.intro (fun a _ b => by rw [a, b]; rfl) ?_ | intro q hq)
      subst_vars
      refine vle_bool ?_
      by_cases g : (newMsgF f l u).code = 0
      · simp [g, hw g]
      · simp [g]
  exact Eq.mp (by kernel_rfl) key
theorem so4 : Sound Tryz.prog 4 (lawD Q4) := by
  refine sound_of_body hmix (pol := 0) Tryz.func4 rfl (by kernel_rfl) fun args bin ob r bout hDe hob => ?_
  unfold lawD at hDe
  split at hDe
  · cases hDe
    obtain ⟨code, hle, hpre⟩ := hob
    have hlen : args.length = 1 := hle.1.symm
    exact ⟨rfl, rfl, by rw [hlen]; exact Nat.le_of_ble_eq_true (by kernel_rfl), cx4 code, Eq.mp (by kernel_rfl) htt, Eq.mp (by kernel_rfl) da4, Eq.mp (by kernel_rfl) (noM_sound (P := Tryz.prog)), by kernel_rfl, _, hle, Eq.mp (by kernel_rfl) (bd4 code hpre)⟩
  · cases hDe

end Go.Av
