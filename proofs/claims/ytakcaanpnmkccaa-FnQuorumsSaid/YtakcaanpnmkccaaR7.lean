/- The law on quorums: two have more in common than may be bad. -/
import Derived.Test.YtakcaanpnmkccaaR5
namespace Go.Av
open Go.Proofs
set_option maxRecDepth 100000
set_option maxHeartbeats 2000000
set_option linter.unusedVariables false
set_option linter.unusedSimpArgs false

theorem okX_code {code : List Int} (h1 : code.length ≤ 1048576) (h2 : ∀ x ∈ code, (Lit.int .u8 x).wf = true) : okX code 0 := by
  refine ⟨h1, fun x hx => ?_, by omega, by omega⟩
  have := h2 x hx
  simp [Lit.wf, IntKind.min, IntKind.max, IntKind.bits, IntKind.signed] at this
  omega
theorem votesTo_mem (l : List Msg) (kind : Int) (c : Cert) {n : Nat} {i : Nat} (h : i < n) : (((i : Int) + 1) ∈ votesTo l kind c n) ↔ bareMsg kind c (i + 1) ∈ l := by
  unfold votesTo
  rw [List.mem_filter]
  constructor
  · exact fun g => of_decide_eq_true g.2
  · exact fun g => ⟨List.mem_map.2 ⟨i, List.mem_range.2 h, rfl⟩, decide_eq_true g⟩
theorem votesTo_mono (l : List Msg) (kind : Int) (c : Cert) (a : Nat) : ∀ n, (votesTo l kind c a).length ≤ (votesTo l kind c (a + n)).length
  | 0 => Nat.le_refl _
  | n + 1 => by
    have h := votesTo_mono l kind c a n
    have e : votesTo l kind c (a + (n + 1)) = votesTo l kind c (a + n) ++ if bareMsg kind c ((a + n : Nat) + 1) ∈ l then [((a + n : Nat) : Int) + 1] else [] := votesTo_succ l kind c (a + n)
    rw [e, List.length_append]
    omega
/-- How many of those behind the first f sent it. -/
noncomputable def commonTo (f : Int) (l : List Msg) (kind : Int) (c : Cert) (i : Nat) : Nat := (votesTo l kind c (f.toNat + i)).length - (votesTo l kind c f.toNat).length
theorem commonTo_succ {f : Int} {l : List Msg} {kind : Int} {c : Cert} {i : Nat} : commonTo f l kind c (i + 1) = commonTo f l kind c i + if bareMsg kind c ((f.toNat + i : Nat) + 1) ∈ l then 1 else 0 := by
  have h := votesTo_mono l kind c f.toNat i
  have e : votesTo l kind c (f.toNat + (i + 1)) = votesTo l kind c (f.toNat + i) ++ if bareMsg kind c ((f.toNat + i : Nat) + 1) ∈ l then [((f.toNat + i : Nat) : Int) + 1] else [] := votesTo_succ l kind c (f.toNat + i)
  unfold commonTo
  rw [e, List.length_append]
  split
  · simp only [List.length_singleton]; omega
  · simp
theorem commonTo_zero (f : Int) (l : List Msg) (kind : Int) (c : Cert) : commonTo f l kind c 0 = 0 := by simp [commonTo]
theorem common_all {f : Int} {l : List Msg} {kind : Int} {c : Cert} (hf : 1 ≤ f) (h : 2 * f + 1 ≤ ((votesF f l kind c).length : Int)) : f < commonTo f l kind c (2 * f + 1).toNat := by
  have h1 := votesTo_len l kind c f.toNat
  have e : f.toNat + (2 * f + 1).toNat = (3 * f + 1).toNat := by omega
  unfold commonTo
  rw [e]
  unfold votesF at h
  omega
noncomputable def vF (code : List Int) : Int := (votesArg code).1
noncomputable def vL (code : List Int) : List Msg := (votesArg code).2.1
noncomputable def vM (code : List Int) : Msg := (votesArg code).2.2
noncomputable def vC (code : List Int) : Cert := ⟨(vM code).slot, (vM code).view, (vM code).value⟩
noncomputable def vV (code : List Int) : List Int := votesF (vF code) (vL code) (vM code).kind (vC code)
theorem votesArg_bd {code : List Int} (h0 : okX code 0) : bdL (vL code) ∧ (vM code).bd := by
  have w := worldD_bd h0 (by omega)
  have hb : ∀ m : Msg, m.certs.length ≤ 100 → m.refs.length ≤ 100 → m.bd := fun m h1 h2 => ⟨by unfold maxLen; omega, by unfold maxLen; omega⟩
  have hbe : ∀ a, (bentM code a).1.bd := fun a => by
    have := bentM_bd code a
    exact hb _ (by omega) (by omega)
  unfold vL vM votesArg
  refine ⟨?_, ?_⟩
  · split
    · split
      · exact bdL_short w.1 (by omega) (by simp only; omega)
      · exact bdL_short w.1 (by omega) (by simp only; omega)
    · exact bdL_short w.1 (by omega) (by simp only; omega)
  · split
    · split
      · exact hbe _
      · rename_i hl hc
        have n1 := nextF_bd (h0.to (b := (worldD code 0).2 + 2) (by omega) (by omega)) (worldD code 0).1.length
        have hin : (nextF code ((worldD code 0).2 + 2) (worldD code 0).1.length).toNat < (worldD code 0).1.length := by omega
        have := w.1 ((worldD code 0).1.getD (nextF code ((worldD code 0).2 + 2) (worldD code 0).1.length).toNat default) (by simp [hin])
        exact hb _ this.1 this.2
    · exact hbe _

/-! ### spec.VotesFor -/
def pr9 (f : Int) (l : List Msg) (m : Msg) : Prop := bdL l ∧ m.bd
noncomputable def rs9 (f : Int) (l : List Msg) (m : Msg) : V := encIntsResult 2 (votesForF f l m)
noncomputable def sp9 : FSpec := fun args bin => match args, bin with
  | [.int .i64 a0, a1, a2], [] => some (VLe a1 (encL (encMsg 1) 1 (((decL decMsg) a1))) ∧ VLe a2 (encMsg 1 ((decMsg a2))) ∧ pr9 a0 ((decL decMsg) a1) (decMsg a2), rs9 a0 ((decL decMsg) a1) (decMsg a2), [])
  | _, _ => none
noncomputable def D9 : Nat → Option (Bool × FSpec) := lk [(33, (false, sp33)), (34, (false, sp34)), (35, (false, sp35))]
theorem da9 : SoundAll Try.prog D9 := soundAll_cons so33 (soundAll_cons so34 (soundAll_cons so35 (soundAll_nil)))
noncomputable def cx9 (f : Int) (l : List Msg) (m : Msg) : Cx := ⟨tt, D9, Try.f9.ntmps, [0, 1, 2, 5, 6, 7, 8, 13, 19, 29], [], [], fun _ => none, [], noM, []⟩
theorem bd9 (f : Int) (l : List Msg) (m : Msg) (hpre : pr9 f l m) : bodyP (cx9 f l m) Try.f9 1 [.int .i64 (f), encL (encMsg 1) 1 (l), encMsg 1 (m)] (fun rr => VLe rr (rs9 f l m)) := by
  have key :
      (((VLe (encL (encMsg 1) 1 l)
   (encL (encMsg 1) 1 (decL decMsg (encL (encMsg 1) 1 l)))) ∧
   (pr33 f (decL decMsg (encL (encMsg 1) 1 l)))) ∧
   ((((ledgerFault f (decL decMsg (encL (encMsg 1) 1 l)) != (0 : Int)) = true) →
   (VLe (V.agg [V.int IntKind.i64 (ledgerFault f (decL decMsg (encL (encMsg 1) 1 l))), V.nil])
   (encIntsResult 2 (votesForF f l m)))) ∧
   (((ledgerFault f (decL decMsg (encL (encMsg 1) 1 l)) != (0 : Int)) = false) →
   (((VLe (encPMsg 1 m) (encPMsg 1 (decPMsg (encPMsg 1 m)))) ∧
   (pr34 f (decPMsg (encPMsg 1 m)))) ∧
   ((((msgFault f (decPMsg (encPMsg 1 m)) != (0 : Int)) = true) →
   (VLe (V.agg [V.int IntKind.i64 (msgFault f (decPMsg (encPMsg 1 m))), V.nil])
   (encIntsResult 2 (votesForF f l m)))) ∧
   (((msgFault f (decPMsg (encPMsg 1 m)) != (0 : Int)) = false) →
   ((tq (Msg.kind m != (2 : Int))) ∧
   ((tq (Msg.kind m != (2 : Int))) ∧
   (((true = true) →
   (((Msg.kind m != (2 : Int)) = true) →
   ((Msg.kind m != (2 : Int)) = true))) ∧
   (∀ b : Bool,
   ((b = bif Msg.kind m != (2 : Int) then Msg.kind m != (3 : Int) else false) →
   (((b = true) →
   (VLe (V.agg [V.int IntKind.i64 (1 : Int), V.nil]) (encIntsResult 2 (votesForF f l m)))) ∧
   ((b = false) →
   (((VLe (encL (encMsg 1) 1 l)
   (encL (encMsg 1) 1 (decL decMsg (encL (encMsg 1) 1 l)))) ∧
   ((VLe (V.agg [V.int IntKind.i64 (Msg.slot m), V.int IntKind.i64 (Msg.view m), V.int IntKind.i64 (Msg.value m)])
   (encCert 1
   (decCert (V.agg [V.int IntKind.i64 (Msg.slot m), V.int IntKind.i64 (Msg.view m), V.int IntKind.i64 (Msg.value m)])))) ∧
   (pr35 f (decL decMsg (encL (encMsg 1) 1 l)) (Msg.kind m)
   (decCert (V.agg [V.int IntKind.i64 (Msg.slot m), V.int IntKind.i64 (Msg.view m), V.int IntKind.i64 (Msg.value m)]))))) ∧
   (VLe
   (V.agg
   [V.int IntKind.i64 (0 : Int),
   encL encI 2
   (votesF f (decL decMsg (encL (encMsg 1) 1 l)) (Msg.kind m)
   (decCert
   (V.agg
   [V.int IntKind.i64 (Msg.slot m), V.int IntKind.i64 (Msg.view m), V.int IntKind.i64 (Msg.value m)])))])
   (encIntsResult 2 (votesForF f l m))))))))))))))))) := by
    obtain ⟨hl, hm⟩ := hpre
    have hd : decCert (.agg [.int .i64 m.slot, .int .i64 m.view, .int .i64 m.value]) = ⟨m.slot, m.view, m.value⟩ := rfl
    simp only [decL_Msg, dec_encPMsg, dec_encCert, hd]
    refine ⟨⟨VLe.refl _, hl⟩, fun h => ?_, fun h => ?_⟩
    · rw [votesFor_1 (by simpa using h)]
      exact vle_agg ⟨VLe.refl _, vle_nil _ _, trivial⟩
    have h0 : ledgerFault f l = 0 := by simpa using h
    have hr := right_of h0
    refine ⟨⟨VLe.refl _, hr.okf, hm⟩, fun h => ?_, fun h => ?_⟩
    · rw [votesFor_2 h0 (by simpa using h)]
      exact vle_agg ⟨VLe.refl _, vle_nil _ _, trivial⟩
    have h1 : msgFault f m = 0 := by simpa using h
    repeat (first | (refine And.intro (fun h _ => h) ?_) | (refine And.intro (fun _ h => h) ?_) | (refine And.intro ?aa ?_; case aa => (exact trivial)) | (refine And.intro ?aa ?_; case aa => (intros; simp_all [pr33, pr34, pr35]; done)) | (refine And.intro ?aa ?_; case aa => (intros; exact inK64 (by omega))) | (refine And.intro ?aa ?_; case aa => (intros; simp only [decide_eq_true_eq] at *; omega)) | (intro q hq))
    have e0 : q = decide (m.kind ≠ 2 ∧ m.kind ≠ 3) := by
      subst_vars
      rw [Bool.eq_iff_iff]
      by_cases h2 : m.kind = 2 <;> simp [h2]
    clear hq
    refine ⟨fun h => ?_, fun h => ?_⟩
    · rw [e0] at h
      rw [votesFor_3 h0 h1 (of_decide_eq_true h)]
      exact vle_agg ⟨VLe.refl _, vle_nil _ _, trivial⟩
    · rw [e0] at h
      rw [votesFor_4 h0 h1 (of_decide_eq_false h)]
      exact ⟨⟨VLe.refl _, VLe.refl _, hr.okf, hl⟩, VLe.refl _⟩
  exact Eq.mp (by kernel_rfl) key
theorem so9 : Sound Try.prog 9 sp9 := by
  refine sound_of_body hmix (pol := 1) Try.func9 rfl (by kernel_rfl) fun args bin ob r bout hDe hob => ?_
  unfold sp9 at hDe
  split at hDe
  · rename_i a0 a1 a2
    cases hDe
    exact ⟨rfl, rfl, Nat.le_of_ble_eq_true (by kernel_rfl), cx9 a0 ((decL decMsg) a1) (decMsg a2), Eq.mp (by kernel_rfl) htt, Eq.mp (by kernel_rfl) da9, Eq.mp (by kernel_rfl) (noM_sound (P := Try.prog)), by kernel_rfl, [.int .i64 (a0), encL (encMsg 1) 1 (((decL decMsg) a1)), encMsg 1 ((decMsg a2))], args_of_vles (⟨VLe.refl _, hob.1, hob.2.1, trivial⟩), Eq.mp (by kernel_rfl) (bd9 a0 ((decL decMsg) a1) (decMsg a2) (hob.2.2))⟩
  · cases hDe

/-! ### laws.FnQuorums -/
def pr3 (code : List Int) : Prop := code.length ≤ maxLen ∧ ∀ x ∈ code, (Lit.int .u8 x).wf = true
noncomputable def rs3 (code : List Int) : V := .bool (true)
def Q3 (vs : List V) : Prop := ∃ (code : List Int), ArgsLe vs [encL encY 1 (code)] ∧ pr3 code
noncomputable def in3_15 (code : List Int) : LoopInv :=
  ⟨Nat, fun i => ⟨[(3, .int .i64 (vF code)), (4, .osl (canonT 4) (vL code).length), (5, .oref 384 0 0), (6, .oref 448 0 0), (7, .oref 512 0 0), (10, .int .i64 (commonTo (vF code) (vL code) (vM code).kind (vC code) i)), (11, .int .i64 (vF code + 1 + i))],
    [(canonT 4, .arr 7 (vL code).length (gL (encMsg 1) (vL code)) 216), (384, .box [.int .i64 (vM code).kind, .int .i64 (vM code).view, .int .i64 (vM code).sender, .int .i64 (vM code).slot, .int .i64 (vM code).value, .osl (canonB 384 5) (vM code).certs.length, .osl (canonB 384 6) (vM code).refs.length]), (canonB 384 5, .arr 3 (vM code).certs.length (gL (encCert 1) (vM code).certs) tagS), (canonB 384 6, .arr 1 (vM code).refs.length (gL encI (vM code).refs) tagS), (448, .box [.int .i64 0, .osl (canonB 448 1) (vV code).length]), (canonB 448 1, .arr 1 (vV code).length (gL encI (vV code)) tagS), (512, .box [.int .i64 0, .int .i64 (2 * vF code + 1)])]⟩,
    fun i => (i : Int) ≤ 2 * vF code + 1, fun i => (2 * vF code + 1).toNat - i⟩
noncomputable def iv3 (code : List Int) : Nat → Option LoopInv := fun rg_ => match rg_ with
  | 15 => some (in3_15 code)
  | _ => none
noncomputable def D3 : Nat → Option (Bool × FSpec) := lk [(6, (false, sp6)), (7, (false, sp7)), (8, (false, sp8o)), (9, (false, sp9)), (10, (false, sp10)), (11, (false, sp11)), (12, (false, sp12)), (13, (false, sp13)), (14, (false, sp14)), (15, (false, sp15))]
theorem da3 : SoundAll Try.prog D3 := soundAll_cons so6 (soundAll_cons so7 (soundAll_cons so8o (soundAll_cons so9 (soundAll_cons so10 (soundAll_cons so11 (soundAll_cons so12 (soundAll_cons so13 (soundAll_cons so14 (soundAll_cons so15 (soundAll_nil))))))))))
noncomputable def cx3 (code : List Int) : Cx := ⟨tt, D3, Try.f3.ntmps, [0, 2, 3, 4, 5, 6, 7, 8, 9, 10, 11, 13, 26, 60, 66, 73, 79, 84], [(15, ⟨[(3, none), (4, some 7), (5, none), (6, none), (7, none), (10, none), (11, none)], [(384, [(5, 3), (6, 1)]), (448, [(1, 1)]), (512, [])]⟩)], [], iv3 code, [], noM, []⟩
theorem bd3 (code : List Int) (hpre : pr3 code) : bodyP (cx3 code) Try.f3 0 [encL encY 1 (code)] (fun rr => VLe rr (rs3 code)) := by
  have key :
      (((VLe (encL encY 1 code) (encL encY 1 (decL decY (encL encY 1 code)))) ∧
   (pr6 (decL decY (encL encY 1 code)))) ∧
   (((decide (1048576 < List.length (decL decY (encL encY 1 code))) = true) →
   (VLe (V.bool true) (V.bool true))) ∧
   ((decide (1048576 < List.length (decL decY (encL encY 1 code))) = false) →
   (((VLe (encL encY 1 code) (encL encY 1 (decL decY (encL encY 1 code)))) ∧
   (pr7 (decL decY (encL encY 1 code)))) ∧
   (((VLe (encL (encMsg 1) 1 (Prod.fst (Prod.snd (ro7 (decL decY (encL encY 1 code))))))
   (encL (encMsg 1) 1
   (decL decMsg
   (encL (encMsg 1) 1 (Prod.fst (Prod.snd (ro7 (decL decY (encL encY 1 code))))))))) ∧
   ((VLe (encMsg 1 (Prod.snd (Prod.snd (ro7 (decL decY (encL encY 1 code))))))
   (encMsg 1 (decMsg (encMsg 1 (Prod.snd (Prod.snd (ro7 (decL decY (encL encY 1 code))))))))) ∧
   (pr8o (Prod.fst (ro7 (decL decY (encL encY 1 code))))
   (decL decMsg (encL (encMsg 1) 1 (Prod.fst (Prod.snd (ro7 (decL decY (encL encY 1 code)))))))
   (decMsg (encMsg 1 (Prod.snd (Prod.snd (ro7 (decL decY (encL encY 1 code)))))))))) ∧
   ((((IntsResult.code
   (ro8o (Prod.fst (ro7 (decL decY (encL encY 1 code))))
   (decL decMsg
   (encL (encMsg 1) 1 (Prod.fst (Prod.snd (ro7 (decL decY (encL encY 1 code)))))))
   (decMsg (encMsg 1 (Prod.snd (Prod.snd (ro7 (decL decY (encL encY 1 code)))))))) !=
   (0 : Int)) =
   true) →
   (((VLe (encL (encMsg 1) 1 (Prod.fst (Prod.snd (ro7 (decL decY (encL encY 1 code))))))
   (encL (encMsg 1) 1
   (decL decMsg
   (encL (encMsg 1) 1 (Prod.fst (Prod.snd (ro7 (decL decY (encL encY 1 code))))))))) ∧
   ((VLe (encMsg 1 (Prod.snd (Prod.snd (ro7 (decL decY (encL encY 1 code))))))
   (encMsg 1 (decMsg (encMsg 1 (Prod.snd (Prod.snd (ro7 (decL decY (encL encY 1 code))))))))) ∧
   (pr9 (Prod.fst (ro7 (decL decY (encL encY 1 code))))
   (decL decMsg (encL (encMsg 1) 1 (Prod.fst (Prod.snd (ro7 (decL decY (encL encY 1 code)))))))
   (decMsg (encMsg 1 (Prod.snd (Prod.snd (ro7 (decL decY (encL encY 1 code)))))))))) ∧
   (VLe
   (V.bool
   (IntsResult.code
   (votesForF (Prod.fst (ro7 (decL decY (encL encY 1 code))))
   (decL decMsg
   (encL (encMsg 1) 1 (Prod.fst (Prod.snd (ro7 (decL decY (encL encY 1 code)))))))
   (decMsg (encMsg 1 (Prod.snd (Prod.snd (ro7 (decL decY (encL encY 1 code)))))))) ==
   IntsResult.code
   (ro8o (Prod.fst (ro7 (decL decY (encL encY 1 code))))
   (decL decMsg
   (encL (encMsg 1) 1 (Prod.fst (Prod.snd (ro7 (decL decY (encL encY 1 code)))))))
   (decMsg (encMsg 1 (Prod.snd (Prod.snd (ro7 (decL decY (encL encY 1 code))))))))))
   (V.bool true)))) ∧
   (((IntsResult.code
   (ro8o (Prod.fst (ro7 (decL decY (encL encY 1 code))))
   (decL decMsg
   (encL (encMsg 1) 1 (Prod.fst (Prod.snd (ro7 (decL decY (encL encY 1 code)))))))
   (decMsg (encMsg 1 (Prod.snd (Prod.snd (ro7 (decL decY (encL encY 1 code)))))))) !=
   (0 : Int)) =
   false) →
   ((pr10 (Prod.fst (ro7 (decL decY (encL encY 1 code))))) ∧
   (((VLe (encL (encMsg 1) 1 (Prod.fst (Prod.snd (ro7 (decL decY (encL encY 1 code))))))
   (encL (encMsg 1) 1
   (decL decMsg
   (encL (encMsg 1) 1 (Prod.fst (Prod.snd (ro7 (decL decY (encL encY 1 code))))))))) ∧
   ((VLe
   (V.agg
   [V.int IntKind.i64 (Msg.slot (Prod.snd (Prod.snd (ro7 (decL decY (encL encY 1 code)))))),
   V.int IntKind.i64 (Msg.view (Prod.snd (Prod.snd (ro7 (decL decY (encL encY 1 code)))))),
   V.int IntKind.i64 (Msg.value (Prod.snd (Prod.snd (ro7 (decL decY (encL encY 1 code))))))])
   (encCert 1
   (decCert
   (V.agg
   [V.int IntKind.i64 (Msg.slot (Prod.snd (Prod.snd (ro7 (decL decY (encL encY 1 code)))))),
   V.int IntKind.i64 (Msg.view (Prod.snd (Prod.snd (ro7 (decL decY (encL encY 1 code)))))),
   V.int IntKind.i64 (Msg.value (Prod.snd (Prod.snd (ro7 (decL decY (encL encY 1 code))))))])))) ∧
   (pr11 (Prod.fst (ro7 (decL decY (encL encY 1 code))))
   (decL decMsg (encL (encMsg 1) 1 (Prod.fst (Prod.snd (ro7 (decL decY (encL encY 1 code)))))))
   (decCert
   (V.agg
   [V.int IntKind.i64 (Msg.slot (Prod.snd (Prod.snd (ro7 (decL decY (encL encY 1 code)))))),
   V.int IntKind.i64 (Msg.view (Prod.snd (Prod.snd (ro7 (decL decY (encL encY 1 code)))))),
   V.int IntKind.i64 (Msg.value (Prod.snd (Prod.snd (ro7 (decL decY (encL encY 1 code))))))]))))) ∧
   ((tq (Msg.kind (Prod.snd (Prod.snd (ro7 (decL decY (encL encY 1 code))))) == (2 : Int))) ∧
   ((tq (Msg.kind (Prod.snd (Prod.snd (ro7 (decL decY (encL encY 1 code))))) == (2 : Int))) ∧
   ((tq (Msg.kind (Prod.snd (Prod.snd (ro7 (decL decY (encL encY 1 code))))) == (2 : Int))) ∧
   ((tq (Msg.kind (Prod.snd (Prod.snd (ro7 (decL decY (encL encY 1 code))))) == (2 : Int))) ∧
   ((tq (Msg.kind (Prod.snd (Prod.snd (ro7 (decL decY (encL encY 1 code))))) == (2 : Int))) ∧
   ((tq (Msg.kind (Prod.snd (Prod.snd (ro7 (decL decY (encL encY 1 code))))) == (2 : Int))) ∧
   ((tq (Msg.kind (Prod.snd (Prod.snd (ro7 (decL decY (encL encY 1 code))))) == (2 : Int))) ∧
   (((true = true) →
   (((Msg.kind (Prod.snd (Prod.snd (ro7 (decL decY (encL encY 1 code))))) == (2 : Int)) = true) →
   ((Msg.kind (Prod.snd (Prod.snd (ro7 (decL decY (encL encY 1 code))))) == (2 : Int)) = true))) ∧
   (∀ b : Bool,
   ((b =
   bif Msg.kind (Prod.snd (Prod.snd (ro7 (decL decY (encL encY 1 code))))) == (2 : Int) then
   !decide
   (ledgerFault (Prod.fst (ro7 (decL decY (encL encY 1 code))))
   (decL decMsg
   (encL (encMsg 1) 1
   (Prod.fst (Prod.snd (ro7 (decL decY (encL encY 1 code))))))) =
   (0 : Int) ∧
   certOk (Prod.fst (ro7 (decL decY (encL encY 1 code))))
   (decL decMsg
   (encL (encMsg 1) 1 (Prod.fst (Prod.snd (ro7 (decL decY (encL encY 1 code)))))))
   (decCert
   (V.agg
   [V.int IntKind.i64 (Msg.slot (Prod.snd (Prod.snd (ro7 (decL decY (encL encY 1 code)))))),
   V.int IntKind.i64 (Msg.view (Prod.snd (Prod.snd (ro7 (decL decY (encL encY 1 code)))))),
   V.int IntKind.i64
   (Msg.value (Prod.snd (Prod.snd (ro7 (decL decY (encL encY 1 code))))))]))) ==
   decide
   ((↑(List.length
   (IntsResult.list
   (ro8o (Prod.fst (ro7 (decL decY (encL encY 1 code))))
   (decL decMsg
   (encL (encMsg 1) 1
   (Prod.fst (Prod.snd (ro7 (decL decY (encL encY 1 code)))))))
   (decMsg
   (encMsg 1 (Prod.snd (Prod.snd (ro7 (decL decY (encL encY 1 code)))))))))) :
   Int) ≥
   IntResult.value (needOfF (Prod.fst (ro7 (decL decY (encL encY 1 code))))))
   else false) →
   (((b = true) →
   (VLe (V.bool false) (V.bool true))) ∧
   ((b = false) →
   (((decide
   ((↑(List.length
   (IntsResult.list
   (ro8o (Prod.fst (ro7 (decL decY (encL encY 1 code))))
   (decL decMsg
   (encL (encMsg 1) 1
   (Prod.fst (Prod.snd (ro7 (decL decY (encL encY 1 code)))))))
   (decMsg (encMsg 1 (Prod.snd (Prod.snd (ro7 (decL decY (encL encY 1 code)))))))))) :
   Int) ≥
   IntResult.value (needOfF (Prod.fst (ro7 (decL decY (encL encY 1 code)))))) =
   true) →
   ((inK IntKind.i64 (Prod.fst (ro7 (decL decY (encL encY 1 code))) + (1 : Int))) ∧
   ((∃ x : Nat, ((SLe
   (AS.mk
   [(3, V.int IntKind.i64 (Prod.fst (ro7 (decL decY (encL encY 1 code))))),
   (4,
   V.osl 32000320 (List.length (Prod.fst (Prod.snd (ro7 (decL decY (encL encY 1 code))))))),
   (5, V.oref 384 0 0), (6, V.oref 448 0 0),
   (7, V.oref 512 0 0), (10, V.int IntKind.i64 (0 : Int)),
   (11, V.int IntKind.i64 (Prod.fst (ro7 (decL decY (encL encY 1 code))) + (1 : Int)))]
   [(32000320,
   Blk.arr 7 (List.length (Prod.fst (Prod.snd (ro7 (decL decY (encL encY 1 code))))))
   (gL (encMsg 1) (Prod.fst (Prod.snd (ro7 (decL decY (encL encY 1 code)))))) 216),
   (384,
   Blk.box
   [V.int IntKind.i64 (Msg.kind (Prod.snd (Prod.snd (ro7 (decL decY (encL encY 1 code)))))),
   V.int IntKind.i64 (Msg.view (Prod.snd (Prod.snd (ro7 (decL decY (encL encY 1 code)))))),
   V.int IntKind.i64 (Msg.sender (Prod.snd (Prod.snd (ro7 (decL decY (encL encY 1 code)))))),
   V.int IntKind.i64 (Msg.slot (Prod.snd (Prod.snd (ro7 (decL decY (encL encY 1 code)))))),
   V.int IntKind.i64 (Msg.value (Prod.snd (Prod.snd (ro7 (decL decY (encL encY 1 code)))))),
   V.osl 65573184
   (List.length (Msg.certs (Prod.snd (Prod.snd (ro7 (decL decY (encL encY 1 code))))))),
   V.osl 65573248
   (List.length (Msg.refs (Prod.snd (Prod.snd (ro7 (decL decY (encL encY 1 code)))))))]),
   (65573184,
   Blk.arr 3 (List.length (Msg.certs (Prod.snd (Prod.snd (ro7 (decL decY (encL encY 1 code)))))))
   (gL (encCert 1) (Msg.certs (Prod.snd (Prod.snd (ro7 (decL decY (encL encY 1 code)))))))
   100),
   (65573248,
   Blk.arr 1 (List.length (Msg.refs (Prod.snd (Prod.snd (ro7 (decL decY (encL encY 1 code)))))))
   (gL encI (Msg.refs (Prod.snd (Prod.snd (ro7 (decL decY (encL encY 1 code))))))) 100),
   (448,
   Blk.box
   [V.int IntKind.i64
   (IntsResult.code
   (ro8o (Prod.fst (ro7 (decL decY (encL encY 1 code))))
   (decL decMsg
   (encL (encMsg 1) 1
   (Prod.fst (Prod.snd (ro7 (decL decY (encL encY 1 code)))))))
   (decMsg (encMsg 1 (Prod.snd (Prod.snd (ro7 (decL decY (encL encY 1 code))))))))),
   V.osl 65835072
   (List.length
   (IntsResult.list
   (ro8o (Prod.fst (ro7 (decL decY (encL encY 1 code))))
   (decL decMsg
   (encL (encMsg 1) 1
   (Prod.fst (Prod.snd (ro7 (decL decY (encL encY 1 code)))))))
   (decMsg (encMsg 1 (Prod.snd (Prod.snd (ro7 (decL decY (encL encY 1 code))))))))))]),
   (65835072,
   Blk.arr 1
   (List.length
   (IntsResult.list
   (ro8o (Prod.fst (ro7 (decL decY (encL encY 1 code))))
   (decL decMsg
   (encL (encMsg 1) 1
   (Prod.fst (Prod.snd (ro7 (decL decY (encL encY 1 code)))))))
   (decMsg (encMsg 1 (Prod.snd (Prod.snd (ro7 (decL decY (encL encY 1 code))))))))))
   (gL encI
   (IntsResult.list
   (ro8o (Prod.fst (ro7 (decL decY (encL encY 1 code))))
   (decL decMsg
   (encL (encMsg 1) 1
   (Prod.fst (Prod.snd (ro7 (decL decY (encL encY 1 code)))))))
   (decMsg (encMsg 1 (Prod.snd (Prod.snd (ro7 (decL decY (encL encY 1 code))))))))))
   100),
   (512,
   Blk.box
   [V.int IntKind.i64 (IntResult.code (needOfF (Prod.fst (ro7 (decL decY (encL encY 1 code)))))),
   V.int IntKind.i64 (IntResult.value (needOfF (Prod.fst (ro7 (decL decY (encL encY 1 code))))))])])
   (AS.mk
   [(3, V.int IntKind.i64 (vF code)), (4, V.osl 32000320 (List.length (vL code))),
   (5, V.oref 384 0 0), (6, V.oref 448 0 0),
   (7, V.oref 512 0 0),
   (10, V.int IntKind.i64 (↑(commonTo (vF code) (vL code) (Msg.kind (vM code)) (vC code) x) : Int)),
   (11, V.int IntKind.i64 (vF code + (1 : Int) + (↑x : Int)))]
   [(32000320, Blk.arr 7 (List.length (vL code)) (gL (encMsg 1) (vL code)) 216),
   (384,
   Blk.box
   [V.int IntKind.i64 (Msg.kind (vM code)), V.int IntKind.i64 (Msg.view (vM code)),
   V.int IntKind.i64 (Msg.sender (vM code)), V.int IntKind.i64 (Msg.slot (vM code)),
   V.int IntKind.i64 (Msg.value (vM code)), V.osl 65573184 (List.length (Msg.certs (vM code))),
   V.osl 65573248 (List.length (Msg.refs (vM code)))]),
   (65573184,
   Blk.arr 3 (List.length (Msg.certs (vM code))) (gL (encCert 1) (Msg.certs (vM code)))
   100),
   (65573248,
   Blk.arr 1 (List.length (Msg.refs (vM code))) (gL encI (Msg.refs (vM code))) 100),
   (448, Blk.box [V.int IntKind.i64 (0 : Int), V.osl 65835072 (List.length (vV code))]),
   (65835072, Blk.arr 1 (List.length (vV code)) (gL encI (vV code)) 100),
   (512, Blk.box [V.int IntKind.i64 (0 : Int), V.int IntKind.i64 ((2 : Int) * vF code + (1 : Int))])])) ∧
   ((↑x : Int) ≤ (2 : Int) * vF code + (1 : Int)))) ∧
   (∀ x : Nat,
   (((↑x : Int) ≤ (2 : Int) * vF code + (1 : Int)) →
   ((inK IntKind.i64 ((3 : Int) * vF code)) ∧
   ((inK IntKind.i64 ((3 : Int) * vF code + (1 : Int))) ∧
   (((decide (vF code + (1 : Int) + (↑x : Int) ≤ (3 : Int) * vF code + (1 : Int)) = true) →
   (((VLe (encL encI 1 (vV code)) (encL encI 1 (decL decI (encL encI 1 (vV code))))) ∧
   (pr12 (decL decI (encL encI 1 (vV code))) (vF code + (1 : Int) + (↑x : Int)))) ∧
   (((decide (vF code + (1 : Int) + (↑x : Int) ∈ decL decI (encL encI 1 (vV code))) = true) →
   ((inK IntKind.i64 ((↑(commonTo (vF code) (vL code) (Msg.kind (vM code)) (vC code) x) : Int) + (1 : Int))) ∧
   ((inK IntKind.i64 (vF code + (1 : Int) + (↑x : Int) + (1 : Int))) ∧
   (∃ y : Nat, ((SLe
   (AS.mk
   [(3, V.int IntKind.i64 (vF code)), (4, V.osl 32000320 (List.length (vL code))),
   (5, V.oref 384 0 0), (6, V.oref 448 0 0),
   (7, V.oref 512 0 0),
   (10,
   V.int IntKind.i64 ((↑(commonTo (vF code) (vL code) (Msg.kind (vM code)) (vC code) x) : Int) + (1 : Int))),
   (11, V.int IntKind.i64 (vF code + (1 : Int) + (↑x : Int) + (1 : Int)))]
   [(32000320, Blk.arr 7 (List.length (vL code)) (gL (encMsg 1) (vL code)) 216),
   (384,
   Blk.box
   [V.int IntKind.i64 (Msg.kind (vM code)), V.int IntKind.i64 (Msg.view (vM code)),
   V.int IntKind.i64 (Msg.sender (vM code)), V.int IntKind.i64 (Msg.slot (vM code)),
   V.int IntKind.i64 (Msg.value (vM code)), V.osl 65573184 (List.length (Msg.certs (vM code))),
   V.osl 65573248 (List.length (Msg.refs (vM code)))]),
   (65573184,
   Blk.arr 3 (List.length (Msg.certs (vM code))) (gL (encCert 1) (Msg.certs (vM code)))
   100),
   (65573248,
   Blk.arr 1 (List.length (Msg.refs (vM code))) (gL encI (Msg.refs (vM code))) 100),
   (448, Blk.box [V.int IntKind.i64 (0 : Int), V.osl 65835072 (List.length (vV code))]),
   (65835072, Blk.arr 1 (List.length (vV code)) (gL encI (vV code)) 100),
   (512, Blk.box [V.int IntKind.i64 (0 : Int), V.int IntKind.i64 ((2 : Int) * vF code + (1 : Int))])])
   (AS.mk
   [(3, V.int IntKind.i64 (vF code)), (4, V.osl 32000320 (List.length (vL code))),
   (5, V.oref 384 0 0), (6, V.oref 448 0 0),
   (7, V.oref 512 0 0),
   (10, V.int IntKind.i64 (↑(commonTo (vF code) (vL code) (Msg.kind (vM code)) (vC code) y) : Int)),
   (11, V.int IntKind.i64 (vF code + (1 : Int) + (↑y : Int)))]
   [(32000320, Blk.arr 7 (List.length (vL code)) (gL (encMsg 1) (vL code)) 216),
   (384,
   Blk.box
   [V.int IntKind.i64 (Msg.kind (vM code)), V.int IntKind.i64 (Msg.view (vM code)),
   V.int IntKind.i64 (Msg.sender (vM code)), V.int IntKind.i64 (Msg.slot (vM code)),
   V.int IntKind.i64 (Msg.value (vM code)), V.osl 65573184 (List.length (Msg.certs (vM code))),
   V.osl 65573248 (List.length (Msg.refs (vM code)))]),
   (65573184,
   Blk.arr 3 (List.length (Msg.certs (vM code))) (gL (encCert 1) (Msg.certs (vM code)))
   100),
   (65573248,
   Blk.arr 1 (List.length (Msg.refs (vM code))) (gL encI (Msg.refs (vM code))) 100),
   (448, Blk.box [V.int IntKind.i64 (0 : Int), V.osl 65835072 (List.length (vV code))]),
   (65835072, Blk.arr 1 (List.length (vV code)) (gL encI (vV code)) 100),
   (512, Blk.box [V.int IntKind.i64 (0 : Int), V.int IntKind.i64 ((2 : Int) * vF code + (1 : Int))])])) ∧
   (((↑y : Int) ≤ (2 : Int) * vF code + (1 : Int)) ∧
   (Int.toNat ((2 : Int) * vF code + (1 : Int)) - y < Int.toNat ((2 : Int) * vF code + (1 : Int)) - x))))))) ∧
   ((decide (vF code + (1 : Int) + (↑x : Int) ∈ decL decI (encL encI 1 (vV code))) = false) →
   ((inK IntKind.i64 (vF code + (1 : Int) + (↑x : Int) + (1 : Int))) ∧
   (∃ y : Nat, ((SLe
   (AS.mk
   [(3, V.int IntKind.i64 (vF code)), (4, V.osl 32000320 (List.length (vL code))),
   (5, V.oref 384 0 0), (6, V.oref 448 0 0),
   (7, V.oref 512 0 0),
   (10, V.int IntKind.i64 (↑(commonTo (vF code) (vL code) (Msg.kind (vM code)) (vC code) x) : Int)),
   (11, V.int IntKind.i64 (vF code + (1 : Int) + (↑x : Int) + (1 : Int)))]
   [(32000320, Blk.arr 7 (List.length (vL code)) (gL (encMsg 1) (vL code)) 216),
   (384,
   Blk.box
   [V.int IntKind.i64 (Msg.kind (vM code)), V.int IntKind.i64 (Msg.view (vM code)),
   V.int IntKind.i64 (Msg.sender (vM code)), V.int IntKind.i64 (Msg.slot (vM code)),
   V.int IntKind.i64 (Msg.value (vM code)), V.osl 65573184 (List.length (Msg.certs (vM code))),
   V.osl 65573248 (List.length (Msg.refs (vM code)))]),
   (65573184,
   Blk.arr 3 (List.length (Msg.certs (vM code))) (gL (encCert 1) (Msg.certs (vM code)))
   100),
   (65573248,
   Blk.arr 1 (List.length (Msg.refs (vM code))) (gL encI (Msg.refs (vM code))) 100),
   (448, Blk.box [V.int IntKind.i64 (0 : Int), V.osl 65835072 (List.length (vV code))]),
   (65835072, Blk.arr 1 (List.length (vV code)) (gL encI (vV code)) 100),
   (512, Blk.box [V.int IntKind.i64 (0 : Int), V.int IntKind.i64 ((2 : Int) * vF code + (1 : Int))])])
   (AS.mk
   [(3, V.int IntKind.i64 (vF code)), (4, V.osl 32000320 (List.length (vL code))),
   (5, V.oref 384 0 0), (6, V.oref 448 0 0),
   (7, V.oref 512 0 0),
   (10, V.int IntKind.i64 (↑(commonTo (vF code) (vL code) (Msg.kind (vM code)) (vC code) y) : Int)),
   (11, V.int IntKind.i64 (vF code + (1 : Int) + (↑y : Int)))]
   [(32000320, Blk.arr 7 (List.length (vL code)) (gL (encMsg 1) (vL code)) 216),
   (384,
   Blk.box
   [V.int IntKind.i64 (Msg.kind (vM code)), V.int IntKind.i64 (Msg.view (vM code)),
   V.int IntKind.i64 (Msg.sender (vM code)), V.int IntKind.i64 (Msg.slot (vM code)),
   V.int IntKind.i64 (Msg.value (vM code)), V.osl 65573184 (List.length (Msg.certs (vM code))),
   V.osl 65573248 (List.length (Msg.refs (vM code)))]),
   (65573184,
   Blk.arr 3 (List.length (Msg.certs (vM code))) (gL (encCert 1) (Msg.certs (vM code)))
   100),
   (65573248,
   Blk.arr 1 (List.length (Msg.refs (vM code))) (gL encI (Msg.refs (vM code))) 100),
   (448, Blk.box [V.int IntKind.i64 (0 : Int), V.osl 65835072 (List.length (vV code))]),
   (65835072, Blk.arr 1 (List.length (vV code)) (gL encI (vV code)) 100),
   (512, Blk.box [V.int IntKind.i64 (0 : Int), V.int IntKind.i64 ((2 : Int) * vF code + (1 : Int))])])) ∧
   (((↑y : Int) ≤ (2 : Int) * vF code + (1 : Int)) ∧
   (Int.toNat ((2 : Int) * vF code + (1 : Int)) - y < Int.toNat ((2 : Int) * vF code + (1 : Int)) - x))))))))) ∧
   ((decide (vF code + (1 : Int) + (↑x : Int) ≤ (3 : Int) * vF code + (1 : Int)) = false) →
   (((decide ((↑(commonTo (vF code) (vL code) (Msg.kind (vM code)) (vC code) x) : Int) ≤ vF code) = true) →
   (VLe (V.bool false) (V.bool true))) ∧
   ((decide ((↑(commonTo (vF code) (vL code) (Msg.kind (vM code)) (vC code) x) : Int) ≤ vF code) = false) →
   ((inK IntKind.i64 ((2 : Int) * vF code)) ∧
   ((inK IntKind.i64 ((2 : Int) * vF code + (1 : Int))) ∧
   ((tq ((2 : Int) * vF code + (1 : Int) == (2 : Int) * vF code + (1 : Int))) ∧
   ((tq ((2 : Int) * vF code + (1 : Int) == (2 : Int) * vF code + (1 : Int))) ∧
   ((tq ((2 : Int) * vF code + (1 : Int) == (2 : Int) * vF code + (1 : Int))) ∧
   ((tq ((2 : Int) * vF code + (1 : Int) == (2 : Int) * vF code + (1 : Int))) ∧
   (((((2 : Int) * vF code + (1 : Int) == (2 : Int) * vF code + (1 : Int)) = true) →
   ((VLe (encL (encMsg 1) 1 (vL code))
   (encL (encMsg 1) 1 (decL decMsg (encL (encMsg 1) 1 (vL code))))) ∧
   ((VLe (encMsg 1 (vM code)) (encMsg 1 (decMsg (encMsg 1 (vM code))))) ∧
   (pr9 (vF code) (decL decMsg (encL (encMsg 1) 1 (vL code))) (decMsg (encMsg 1 (vM code))))))) ∧
   ((tq ((2 : Int) * vF code + (1 : Int) == (2 : Int) * vF code + (1 : Int))) ∧
   ((tq ((2 : Int) * vF code + (1 : Int) == (2 : Int) * vF code + (1 : Int))) ∧
   ((tq ((2 : Int) * vF code + (1 : Int) == (2 : Int) * vF code + (1 : Int))) ∧
   (((((2 : Int) * vF code + (1 : Int) == (2 : Int) * vF code + (1 : Int)) = true) →
   ((VLe (encL encI 1 (vV code)) (encL encI 1 (decL decI (encL encI 1 (vV code))))) ∧
   ((VLe
   (encL encI 1
   (IntsResult.list
   (votesForF (vF code) (decL decMsg (encL (encMsg 1) 1 (vL code)))
   (decMsg (encMsg 1 (vM code))))))
   (encL encI 1
   (decL decI
   (encL encI 1
   (IntsResult.list
   (votesForF (vF code) (decL decMsg (encL (encMsg 1) 1 (vL code)))
   (decMsg (encMsg 1 (vM code))))))))) ∧
   (pr13 (decL decI (encL encI 1 (vV code)))
   (decL decI
   (encL encI 1
   (IntsResult.list
   (votesForF (vF code) (decL decMsg (encL (encMsg 1) 1 (vL code)))
   (decMsg (encMsg 1 (vM code))))))))))) ∧
   (((true = true) →
   ((((2 : Int) * vF code + (1 : Int) == (2 : Int) * vF code + (1 : Int)) = true) →
   (((2 : Int) * vF code + (1 : Int) == (2 : Int) * vF code + (1 : Int)) = true))) ∧
   (∀ b_1 : Bool,
   ((b_1 =
   bif (2 : Int) * vF code + (1 : Int) == (2 : Int) * vF code + (1 : Int) then
   decide
   (decL decI (encL encI 1 (vV code)) =
   decL decI
   (encL encI 1
   (IntsResult.list
   (votesForF (vF code) (decL decMsg (encL (encMsg 1) 1 (vL code)))
   (decMsg (encMsg 1 (vM code)))))))
   else false) →
   ((tq (b_1)) ∧
   ((tq (b_1)) ∧
   ((tq (b_1)) ∧
   (((b_1 = true) →
   (pr14 (vF code) (Msg.view (vM code)))) ∧
   ((tq (b_1)) ∧
   ((tq (b_1)) ∧
   ((tq (b_1)) ∧
   ((tq (b_1)) ∧
   ((tq (b_1)) ∧
   ((tq (b_1)) ∧
   ((tq (b_1)) ∧
   (((b_1 = true) →
   (pr15 (vF code) (Msg.view (vM code)))) ∧
   ((tq (b_1)) ∧
   ((tq (b_1)) ∧
   ((tq (b_1)) ∧
   ((tq (b_1)) ∧
   ((tq (b_1)) ∧
   ((tq (b_1)) ∧
   (((true = true) →
   ((b_1 = true) →
   (b_1 = true))) ∧
   (∀ b_2 : Bool,
   ((b_2 =
   bif b_1 then
   (IntResult.value (primaryOfF (vF code) (Msg.view (vM code))) == Msg.sender (vM code)) ==
   (IntResult.value (primaryOfF (vF code) (Msg.view (vM code))) == Msg.sender (vM code))
   else false) →
   (VLe (V.bool b_2) (V.bool true)))))))))))))))))))))))))))))))))))))))))))))))) ∧
   ((decide
   ((↑(List.length
   (IntsResult.list
   (ro8o (Prod.fst (ro7 (decL decY (encL encY 1 code))))
   (decL decMsg
   (encL (encMsg 1) 1
   (Prod.fst (Prod.snd (ro7 (decL decY (encL encY 1 code)))))))
   (decMsg (encMsg 1 (Prod.snd (Prod.snd (ro7 (decL decY (encL encY 1 code)))))))))) :
   Int) ≥
   IntResult.value (needOfF (Prod.fst (ro7 (decL decY (encL encY 1 code)))))) =
   false) →
   ((inK IntKind.i64 ((2 : Int) * Prod.fst (ro7 (decL decY (encL encY 1 code))))) ∧
   ((inK IntKind.i64 ((2 : Int) * Prod.fst (ro7 (decL decY (encL encY 1 code))) + (1 : Int))) ∧
   ((tq (IntResult.value (needOfF (Prod.fst (ro7 (decL decY (encL encY 1 code))))) ==
   (2 : Int) * Prod.fst (ro7 (decL decY (encL encY 1 code))) + (1 : Int))) ∧
   ((tq (IntResult.value (needOfF (Prod.fst (ro7 (decL decY (encL encY 1 code))))) ==
   (2 : Int) * Prod.fst (ro7 (decL decY (encL encY 1 code))) + (1 : Int))) ∧
   ((tq (IntResult.value (needOfF (Prod.fst (ro7 (decL decY (encL encY 1 code))))) ==
   (2 : Int) * Prod.fst (ro7 (decL decY (encL encY 1 code))) + (1 : Int))) ∧
   ((tq (IntResult.value (needOfF (Prod.fst (ro7 (decL decY (encL encY 1 code))))) ==
   (2 : Int) * Prod.fst (ro7 (decL decY (encL encY 1 code))) + (1 : Int))) ∧
   ((((IntResult.value (needOfF (Prod.fst (ro7 (decL decY (encL encY 1 code))))) ==
   (2 : Int) * Prod.fst (ro7 (decL decY (encL encY 1 code))) + (1 : Int)) =
   true) →
   ((VLe (encL (encMsg 1) 1 (Prod.fst (Prod.snd (ro7 (decL decY (encL encY 1 code))))))
   (encL (encMsg 1) 1
   (decL decMsg
   (encL (encMsg 1) 1 (Prod.fst (Prod.snd (ro7 (decL decY (encL encY 1 code))))))))) ∧
   ((VLe (encMsg 1 (Prod.snd (Prod.snd (ro7 (decL decY (encL encY 1 code))))))
   (encMsg 1 (decMsg (encMsg 1 (Prod.snd (Prod.snd (ro7 (decL decY (encL encY 1 code))))))))) ∧
   (pr9 (Prod.fst (ro7 (decL decY (encL encY 1 code))))
   (decL decMsg (encL (encMsg 1) 1 (Prod.fst (Prod.snd (ro7 (decL decY (encL encY 1 code)))))))
   (decMsg (encMsg 1 (Prod.snd (Prod.snd (ro7 (decL decY (encL encY 1 code))))))))))) ∧
   ((tq (IntResult.value (needOfF (Prod.fst (ro7 (decL decY (encL encY 1 code))))) ==
   (2 : Int) * Prod.fst (ro7 (decL decY (encL encY 1 code))) + (1 : Int))) ∧
   ((tq (IntResult.value (needOfF (Prod.fst (ro7 (decL decY (encL encY 1 code))))) ==
   (2 : Int) * Prod.fst (ro7 (decL decY (encL encY 1 code))) + (1 : Int))) ∧
   ((tq (IntResult.value (needOfF (Prod.fst (ro7 (decL decY (encL encY 1 code))))) ==
   (2 : Int) * Prod.fst (ro7 (decL decY (encL encY 1 code))) + (1 : Int))) ∧
   ((((IntResult.value (needOfF (Prod.fst (ro7 (decL decY (encL encY 1 code))))) ==
   (2 : Int) * Prod.fst (ro7 (decL decY (encL encY 1 code))) + (1 : Int)) =
   true) →
   ((VLe
   (encL encI 1
   (IntsResult.list
   (ro8o (Prod.fst (ro7 (decL decY (encL encY 1 code))))
   (decL decMsg
   (encL (encMsg 1) 1 (Prod.fst (Prod.snd (ro7 (decL decY (encL encY 1 code)))))))
   (decMsg (encMsg 1 (Prod.snd (Prod.snd (ro7 (decL decY (encL encY 1 code))))))))))
   (encL encI 1
   (decL decI
   (encL encI 1
   (IntsResult.list
   (ro8o (Prod.fst (ro7 (decL decY (encL encY 1 code))))
   (decL decMsg
   (encL (encMsg 1) 1 (Prod.fst (Prod.snd (ro7 (decL decY (encL encY 1 code)))))))
   (decMsg (encMsg 1 (Prod.snd (Prod.snd (ro7 (decL decY (encL encY 1 code))))))))))))) ∧
   ((VLe
   (encL encI 1
   (IntsResult.list
   (votesForF (Prod.fst (ro7 (decL decY (encL encY 1 code))))
   (decL decMsg
   (encL (encMsg 1) 1 (Prod.fst (Prod.snd (ro7 (decL decY (encL encY 1 code)))))))
   (decMsg (encMsg 1 (Prod.snd (Prod.snd (ro7 (decL decY (encL encY 1 code))))))))))
   (encL encI 1
   (decL decI
   (encL encI 1
   (IntsResult.list
   (votesForF (Prod.fst (ro7 (decL decY (encL encY 1 code))))
   (decL decMsg
   (encL (encMsg 1) 1 (Prod.fst (Prod.snd (ro7 (decL decY (encL encY 1 code)))))))
   (decMsg (encMsg 1 (Prod.snd (Prod.snd (ro7 (decL decY (encL encY 1 code))))))))))))) ∧
   (pr13
   (decL decI
   (encL encI 1
   (IntsResult.list
   (ro8o (Prod.fst (ro7 (decL decY (encL encY 1 code))))
   (decL decMsg
   (encL (encMsg 1) 1 (Prod.fst (Prod.snd (ro7 (decL decY (encL encY 1 code)))))))
   (decMsg (encMsg 1 (Prod.snd (Prod.snd (ro7 (decL decY (encL encY 1 code)))))))))))
   (decL decI
   (encL encI 1
   (IntsResult.list
   (votesForF (Prod.fst (ro7 (decL decY (encL encY 1 code))))
   (decL decMsg
   (encL (encMsg 1) 1 (Prod.fst (Prod.snd (ro7 (decL decY (encL encY 1 code)))))))
   (decMsg (encMsg 1 (Prod.snd (Prod.snd (ro7 (decL decY (encL encY 1 code))))))))))))))) ∧
   (((true = true) →
   (((IntResult.value (needOfF (Prod.fst (ro7 (decL decY (encL encY 1 code))))) ==
   (2 : Int) * Prod.fst (ro7 (decL decY (encL encY 1 code))) + (1 : Int)) =
   true) →
   ((IntResult.value (needOfF (Prod.fst (ro7 (decL decY (encL encY 1 code))))) ==
   (2 : Int) * Prod.fst (ro7 (decL decY (encL encY 1 code))) + (1 : Int)) =
   true))) ∧
   (∀ b_1 : Bool,
   ((b_1 =
   bif
   IntResult.value (needOfF (Prod.fst (ro7 (decL decY (encL encY 1 code))))) ==
   (2 : Int) * Prod.fst (ro7 (decL decY (encL encY 1 code))) + (1 : Int) then
   decide
   (decL decI
   (encL encI 1
   (IntsResult.list
   (ro8o (Prod.fst (ro7 (decL decY (encL encY 1 code))))
   (decL decMsg
   (encL (encMsg 1) 1
   (Prod.fst (Prod.snd (ro7 (decL decY (encL encY 1 code)))))))
   (decMsg (encMsg 1 (Prod.snd (Prod.snd (ro7 (decL decY (encL encY 1 code)))))))))) =
   decL decI
   (encL encI 1
   (IntsResult.list
   (votesForF (Prod.fst (ro7 (decL decY (encL encY 1 code))))
   (decL decMsg
   (encL (encMsg 1) 1
   (Prod.fst (Prod.snd (ro7 (decL decY (encL encY 1 code)))))))
   (decMsg (encMsg 1 (Prod.snd (Prod.snd (ro7 (decL decY (encL encY 1 code)))))))))))
   else false) →
   ((tq (b_1)) ∧
   ((tq (b_1)) ∧
   ((tq (b_1)) ∧
   (((b_1 = true) →
   (pr14 (Prod.fst (ro7 (decL decY (encL encY 1 code))))
   (Msg.view (Prod.snd (Prod.snd (ro7 (decL decY (encL encY 1 code)))))))) ∧
   ((tq (b_1)) ∧
   ((tq (b_1)) ∧
   ((tq (b_1)) ∧
   ((tq (b_1)) ∧
   ((tq (b_1)) ∧
   ((tq (b_1)) ∧
   ((tq (b_1)) ∧
   (((b_1 = true) →
   (pr15 (Prod.fst (ro7 (decL decY (encL encY 1 code))))
   (Msg.view (Prod.snd (Prod.snd (ro7 (decL decY (encL encY 1 code)))))))) ∧
   ((tq (b_1)) ∧
   ((tq (b_1)) ∧
   ((tq (b_1)) ∧
   ((tq (b_1)) ∧
   ((tq (b_1)) ∧
   ((tq (b_1)) ∧
   (((true = true) →
   ((b_1 = true) →
   (b_1 = true))) ∧
   (∀ b_2 : Bool,
   ((b_2 =
   bif b_1 then
   (IntResult.value
   (primaryOfF (Prod.fst (ro7 (decL decY (encL encY 1 code))))
   (Msg.view (Prod.snd (Prod.snd (ro7 (decL decY (encL encY 1 code))))))) ==
   Msg.sender (Prod.snd (Prod.snd (ro7 (decL decY (encL encY 1 code)))))) ==
   (IntResult.value
   (primaryOfF (Prod.fst (ro7 (decL decY (encL encY 1 code))))
   (Msg.view (Prod.snd (Prod.snd (ro7 (decL decY (encL encY 1 code))))))) ==
   Msg.sender (Prod.snd (Prod.snd (ro7 (decL decY (encL encY 1 code))))))
   else false) →
   (VLe (V.bool b_2) (V.bool true)))))))))))))))))))))))))))))))))))))))))))))))))))))))))))) := by
    obtain ⟨hlen, hby⟩ := hpre
    have hd : decCert (.agg [.int .i64 (vM code).slot, .int .i64 (vM code).view, .int .i64 (vM code).value]) = vC code := rfl
    simp only [decL_bytes, decL_Msg, dec_encMsg, decL_ints, ro7, ro8o, show (votesArg code).1 = vF code from rfl, show (votesArg code).2.1 = vL code from rfl, show (votesArg code).2.2 = vM code from rfl, hd]
    refine ⟨⟨VLe.refl _, trivial⟩, fun h => VLe.refl _, fun h => ?_⟩
    have h0 := okX_code (Nat.le_of_not_lt (of_decide_eq_false h)) hby
    have hb : bdL (vL code) ∧ (vM code).bd := votesArg_bd h0
    have hV : vV code = votesF (vF code) (vL code) (vM code).kind (vC code) := rfl
    have hC : (⟨(vM code).slot, (vM code).view, (vM code).value⟩ : Cert) = vC code := rfl
    generalize vF code = f at *
    generalize vL code = l at *
    generalize vV code = U at *
    generalize vC code = c at *
    generalize vM code = m at *
    obtain ⟨hb, hmb⟩ := hb
    have pv : pr9 f l m := ⟨hb, hmb⟩
    refine ⟨⟨VLe.refl _, h0⟩, ⟨VLe.refl _, VLe.refl _, pv⟩, fun h => ⟨⟨VLe.refl _, VLe.refl _, pv⟩, vle_bool (by simp)⟩, fun h => ?_⟩
    have hc : (votesForF f l m).code = 0 := by simpa using h
    have hz : ledgerFault f l = 0 := Classical.byContradiction fun g => by rw [votesFor_1 g] at hc; exact g hc
    have hm : msgFault f m = 0 := Classical.byContradiction fun g => by rw [votesFor_2 hz g] at hc; exact g hc
    have hk : ¬ (m.kind ≠ 2 ∧ m.kind ≠ 3) := fun g => by rw [votesFor_3 hz hm g] at hc; simp at hc
    have e : votesForF f l m = ⟨0, U⟩ := by rw [votesFor_4 hz hm hk, hC, hV]
    have hr := right_of hz
    have hf' : 1 ≤ f ∧ f ≤ 2 := by have := hr.okf; unfold okF at this; omega
    have hn : needOfF f = ⟨0, 2 * f + 1⟩ := if_pos hr.okf
    have hVl : U.length ≤ 7 := by
      have := votesTo_len l m.kind c (3 * f + 1).toNat
      rw [hV]
      unfold votesF
      omega
    have hg := goodM_of hm
    have hcert : m.kind = 2 → (decide (ledgerFault f l = 0 ∧ certOk f l c) = decide ((U.length : Int) ≥ 2 * f + 1)) := fun h2 => by
      have hs := hg.ranged.2.2 ⟨by omega, by omega⟩
      have hv := hg.ranged.1
      rw [decide_eq_decide]
      unfold certOk
      rw [votes_eq hr (Or.inl rfl) c, hV, h2, ← hC]
      exact ⟨fun g => g.2.2.2.2, fun g => ⟨hz, hs.1, hv, hs.2, g⟩⟩
    simp only [e, hn]
    refine ⟨trivial, ⟨VLe.refl _, VLe.of_eq (by rw [← hC]; rfl), hb⟩, ?_⟩
    repeat (first | (refine And.intro (fun h _ => h) ?_) | (refine And.intro (fun _ h => h) ?_) | (refine And.intro ?aa ?_; case aa => (exact tqB _)) | (refine And.intro ?aa ?_; case aa => (exact fun _ _ h => h)) | (refine And.intro ?aa ?_; case aa => (intros; simp_all [pr6, pr7, pr8o, pr9, pr10, pr11, pr12, pr13, pr14, pr15]; done)) | (refine And.intro ?aa ?_; case aa => (intros; exact inK64 (by omega))) | (refine And.intro ?aa ?_; case aa => (intros; simp only [decide_eq_true_eq] at *; omega)) | (intro q hq))
    have e1 : q = false := by
      rw [hq]
      by_cases h2 : m.kind = 2
      · rw [hcert h2]
        simp [h2]
      · simp [h2]
    clear hq
    subst e1
    refine fun _ => ⟨fun hge => ?_, fun hge => ?_⟩
    · have hge := of_decide_eq_true hge
      have hall := common_all (c := c) (kind := m.kind) (l := l) hf'.1 (by rw [← hV]; exact hge)
      refine ⟨inK64 (by omega), ⟨0, sle_of ⟨rfl, VLe.refl _, rfl, VLe.refl _, rfl, VLe.refl _, rfl, VLe.refl _, rfl, VLe.refl _, rfl, vle_int (by simp [commonTo_zero]), rfl, vle_int (by simp), trivial⟩ ⟨rfl, BLe.refl _, rfl, BLe.refl _, rfl, BLe.refl _, rfl, BLe.refl _, rfl, BLe.refl _, rfl, BLe.refl _, rfl, BLe.refl _, trivial⟩, by omega⟩, fun i hi => ⟨inK64 (by omega), inK64 (by omega), fun h => ?_, fun h => ?_⟩⟩
      · have h1 := of_decide_eq_true h
        have hmem : f + 1 + (i : Int) ∈ U ↔ bareMsg m.kind c ((f.toNat + i : Nat) + 1) ∈ l := by
          have e2 : f + 1 + (i : Int) = ((f.toNat + i : Nat) : Int) + 1 := by omega
          rw [e2, hV]
          exact votesTo_mem l m.kind c (by omega)
        have hs := commonTo_succ (f := f) (l := l) (kind := m.kind) (c := c) (i := i)
        have hle : commonTo f l m.kind c i ≤ 7 := by
          have := votesTo_len l m.kind c (f.toNat + i)
          unfold commonTo
          omega
        refine ⟨⟨VLe.refl _, by show U.length ≤ maxLen; unfold maxLen; omega⟩, fun h2 => ?_, fun h2 => ?_⟩
        · rw [if_pos (hmem.1 (of_decide_eq_true h2))] at hs
          exact ⟨inK64 (by omega), inK64 (by omega), i + 1, sle_of ⟨rfl, VLe.refl _, rfl, VLe.refl _, rfl, VLe.refl _, rfl, VLe.refl _, rfl, VLe.refl _, rfl, vle_int (by omega), rfl, vle_int (by omega), trivial⟩ ⟨rfl, BLe.refl _, rfl, BLe.refl _, rfl, BLe.refl _, rfl, BLe.refl _, rfl, BLe.refl _, rfl, BLe.refl _, rfl, BLe.refl _, trivial⟩, by omega, by omega⟩
        · rw [if_neg fun g => of_decide_eq_false h2 (hmem.2 g)] at hs
          exact ⟨inK64 (by omega), i + 1, sle_of ⟨rfl, VLe.refl _, rfl, VLe.refl _, rfl, VLe.refl _, rfl, VLe.refl _, rfl, VLe.refl _, rfl, vle_int (by omega), rfl, vle_int (by omega), trivial⟩ ⟨rfl, BLe.refl _, rfl, BLe.refl _, rfl, BLe.refl _, rfl, BLe.refl _, rfl, BLe.refl _, rfl, BLe.refl _, rfl, BLe.refl _, trivial⟩, by omega, by omega⟩
      · have h1 := of_decide_eq_false h
        have hi2 : i = (2 * f + 1).toNat := by omega
        rw [← hi2] at hall
        refine ⟨fun h2 => absurd (of_decide_eq_true h2) (by omega), fun _ => ?_⟩
        refine ⟨inK64 (by omega), inK64 (by omega), ?_⟩
        repeat (first | (refine And.intro (fun h _ => h) ?_) | (refine And.intro (fun _ h => h) ?_) | (refine And.intro ?aa ?_; case aa => (exact tqB _)) | (refine And.intro ?aa ?_; case aa => (exact fun _ => ⟨VLe.refl _, VLe.refl _, pv⟩)) | (refine And.intro ?aa ?_; case aa => (exact fun _ => ⟨VLe.refl _, VLe.refl _, (by show U.length ≤ maxLen; unfold maxLen; omega)⟩)) | (refine And.intro ?aa ?_; case aa => (exact fun _ _ h => h)) | (refine And.intro ?aa ?_; case aa => (exact fun _ => trivial)) | (refine And.intro ?aa ?_; case aa => (intros; simp_all [pr6, pr7, pr8o, pr9, pr10, pr11, pr12, pr13, pr14, pr15]; done)) | (refine And.intro ?aa ?_; case aa => (intros; exact inK64 (by omega))) | (refine And.intro ?aa ?_; case aa => (intros; simp only [decide_eq_true_eq] at *; omega)) | (intro q hq))
        subst_vars
        exact vle_bool (by simp)
    · refine ⟨inK64 (by omega), inK64 (by omega), ?_⟩
      repeat (first | (refine And.intro (fun h _ => h) ?_) | (refine And.intro (fun _ h => h) ?_) | (refine And.intro ?aa ?_; case aa => (exact tqB _)) | (refine And.intro ?aa ?_; case aa => (exact fun _ => ⟨VLe.refl _, VLe.refl _, pv⟩)) | (refine And.intro ?aa ?_; case aa => (exact fun _ => ⟨VLe.refl _, VLe.refl _, (by show U.length ≤ maxLen; unfold maxLen; omega)⟩)) | (refine And.intro ?aa ?_; case aa => (exact fun _ _ h => h)) | (refine And.intro ?aa ?_; case aa => (exact fun _ => trivial)) | (refine And.intro ?aa ?_; case aa => (intros; simp_all [pr6, pr7, pr8o, pr9, pr10, pr11, pr12, pr13, pr14, pr15]; done)) | (refine And.intro ?aa ?_; case aa => (intros; exact inK64 (by omega))) | (refine And.intro ?aa ?_; case aa => (intros; simp only [decide_eq_true_eq] at *; omega)) | (intro q hq))
      subst_vars
      exact vle_bool (by simp)
  exact Eq.mp (by kernel_rfl) key
theorem so3 : Sound Try.prog 3 (lawD Q3) := by
  refine sound_of_body hmix (pol := 0) Try.func3 rfl (by kernel_rfl) fun args bin ob r bout hDe hob => ?_
  unfold lawD at hDe
  split at hDe
  · cases hDe
    obtain ⟨code, hle, hpre⟩ := hob
    have hlen : args.length = 1 := hle.1.symm
    exact ⟨rfl, rfl, by rw [hlen]; exact Nat.le_of_ble_eq_true (by kernel_rfl), cx3 code, Eq.mp (by kernel_rfl) htt, Eq.mp (by kernel_rfl) da3, Eq.mp (by kernel_rfl) (noM_sound (P := Try.prog)), by kernel_rfl, _, hle, Eq.mp (by kernel_rfl) (bd3 code hpre)⟩
  · cases hDe

end Go.Av
