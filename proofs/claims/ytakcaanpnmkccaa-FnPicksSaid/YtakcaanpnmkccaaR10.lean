/- The law on picks: a new view takes over the newest certificate of each slot. -/
import Derived.Test.YtakcaanpnmkccaaR9
import Derived.Test.YtakcaanpnmkccaaK31
namespace Go.Av
open Go.Proofs
set_option maxRecDepth 100000
set_option maxHeartbeats 2000000
set_option linter.unusedVariables false
set_option linter.unusedSimpArgs false


/-! ### spec.l10Pick -/
def pr55 (l : List Msg) (refs : List Int) : Prop := (∃ f, Right f l) ∧ bdL l ∧ pickOk l refs ∧ refs.length ≤ 7
noncomputable def rs55 (l : List Msg) (refs : List Int) : V := encL encI 2 (pickL l refs)
noncomputable def sp55 : FSpec := fun args bin => match args, bin with
  | [a0, a1], [] => some (VLe a0 (encL (encMsg 1) 1 (((decL decMsg) a0))) ∧ VLe a1 (encL encI 1 (((decL decI) a1))) ∧ pr55 ((decL decMsg) a0) ((decL decI) a1), rs55 ((decL decMsg) a0) ((decL decI) a1), [])
  | _, _ => none
noncomputable def in55_4 (l : List Msg) (refs : List Int) : LoopInv :=
  ⟨Nat, fun s => ⟨[(0, encL (encMsg 1) 1 l), (1, encL encI 1 refs), (5, .osl (canonT 5) (outTo (certsAll l refs) s).length), (6, .int .i64 (lastTop (certsAll l refs) s)), (7, .int .i64 (s + 1))], [(canonT 5, .arr 1 (outTo (certsAll l refs) s).length (gL encI (outTo (certsAll l refs) s)) tagS)]⟩,
    fun s => s ≤ 30, fun s => 30 - s⟩
noncomputable def iv55 (l : List Msg) (refs : List Int) : Nat → Option LoopInv := fun rg_ => match rg_ with
  | 4 => some (in55_4 l refs)
  | _ => none
noncomputable def D55 : Nat → Option (Bool × FSpec) := lk [(79, (false, sp79))]
theorem da55 : SoundAll Try.prog D55 := soundAll_cons so79 (soundAll_nil)
noncomputable def cx55 (l : List Msg) (refs : List Int) : Cx := ⟨tt, D55, Try.f55.ntmps, [0, 1, 4, 5, 6, 7, 8, 9, 12, 26], [(4, ⟨[(0, none), (1, none), (5, some 1), (6, none), (7, none)], []⟩)], [], iv55 l refs, [], noM, []⟩
theorem bd55 (l : List Msg) (refs : List Int) (hpre : pr55 l refs) : bodyP (cx55 l refs) Try.f55 1 [encL (encMsg 1) 1 (l), encL encI 1 (refs)] (fun rr => VLe rr (rs55 l refs)) := by
  have key :
      ((∃ x : Nat, ((SLe
   (AS.mk
   [(0, encL (encMsg 1) 1 l), (1, encL encI 1 refs),
   (5, V.osl 32000384 0), (6, V.int IntKind.i64 (0 : Int)),
   (7, V.int IntKind.i64 (1 : Int))]
   [(32000384, Blk.arr 1 0 (rowg []) 100)])
   (AS.mk
   [(0, encL (encMsg 1) 1 l), (1, encL encI 1 refs),
   (5, V.osl 32000384 (List.length (outTo (certsAll l refs) x))),
   (6, V.int IntKind.i64 (lastTop (certsAll l refs) x)),
   (7, V.int IntKind.i64 ((↑x : Int) + (1 : Int)))]
   [(32000384,
   Blk.arr 1 (List.length (outTo (certsAll l refs) x)) (gL encI (outTo (certsAll l refs) x)) 100)])) ∧
   (x ≤ 30))) ∧
   (∀ x : Nat,
   ((x ≤ 30) →
   (((decide ((↑x : Int) + (1 : Int) ≤ (30 : Int)) = true) →
   (((VLe (encL (encMsg 1) 1 l)
   (encL (encMsg 1) 1 (decL decMsg (encL (encMsg 1) 1 l)))) ∧
   ((VLe (encL encI 1 refs) (encL encI 1 (decL decI (encL encI 1 refs)))) ∧
   (pr79 (decL decMsg (encL (encMsg 1) 1 l)) (decL decI (encL encI 1 refs)) ((↑x : Int) + (1 : Int))))) ∧
   ((List.length (outTo (certsAll l refs) x) = List.length (outTo (certsAll l refs) x)) ∧
   ((List.length (outTo (certsAll l refs) x) + 1 ≤ 1073741824) ∧
   ((sizedL 1 1
   (rowg
   [V.int IntKind.i64
   (Prod.snd
   (bestOf (certsAll (decL decMsg (encL (encMsg 1) 1 l)) (decL decI (encL encI 1 refs)))
   ((↑x : Int) + (1 : Int))))])) ∧
   (((hasK (certsAll (decL decMsg (encL (encMsg 1) 1 l)) (decL decI (encL encI 1 refs)))
   ((↑x : Int) + (1 : Int)) =
   true) →
   ((inK IntKind.i64 ((↑x : Int) + (1 : Int) + (1 : Int))) ∧
   (∃ y : Nat, ((SLe
   (AS.mk
   [(0, encL (encMsg 1) 1 l), (1, encL encI 1 refs),
   (5, V.osl 32000384 (List.length (outTo (certsAll l refs) x) + 1)),
   (6, V.int IntKind.i64 (↑(List.length (outTo (certsAll l refs) x) + 1) : Int)),
   (7, V.int IntKind.i64 ((↑x : Int) + (1 : Int) + (1 : Int)))]
   [(32000384,
   Blk.arr 1 (List.length (outTo (certsAll l refs) x) + 1)
   (appg (List.length (outTo (certsAll l refs) x)) (gL encI (outTo (certsAll l refs) x))
   (rowg
   [V.int IntKind.i64
   (Prod.snd
   (bestOf
   (certsAll (decL decMsg (encL (encMsg 1) 1 l))
   (decL decI (encL encI 1 refs)))
   ((↑x : Int) + (1 : Int))))]))
   100)])
   (AS.mk
   [(0, encL (encMsg 1) 1 l), (1, encL encI 1 refs),
   (5, V.osl 32000384 (List.length (outTo (certsAll l refs) y))),
   (6, V.int IntKind.i64 (lastTop (certsAll l refs) y)),
   (7, V.int IntKind.i64 ((↑y : Int) + (1 : Int)))]
   [(32000384,
   Blk.arr 1 (List.length (outTo (certsAll l refs) y)) (gL encI (outTo (certsAll l refs) y)) 100)])) ∧
   ((y ≤ 30) ∧
   (30 - y < 30 - x)))))) ∧
   ((hasK (certsAll (decL decMsg (encL (encMsg 1) 1 l)) (decL decI (encL encI 1 refs)))
   ((↑x : Int) + (1 : Int)) =
   false) →
   ((inK IntKind.i64 ((↑x : Int) + (1 : Int) + (1 : Int))) ∧
   (∃ y : Nat, ((SLe
   (AS.mk
   [(0, encL (encMsg 1) 1 l), (1, encL encI 1 refs),
   (5, V.osl 32000384 (List.length (outTo (certsAll l refs) x) + 1)),
   (6, V.int IntKind.i64 (lastTop (certsAll l refs) x)),
   (7, V.int IntKind.i64 ((↑x : Int) + (1 : Int) + (1 : Int)))]
   [(32000384,
   Blk.arr 1 (List.length (outTo (certsAll l refs) x) + 1)
   (appg (List.length (outTo (certsAll l refs) x)) (gL encI (outTo (certsAll l refs) x))
   (rowg
   [V.int IntKind.i64
   (Prod.snd
   (bestOf
   (certsAll (decL decMsg (encL (encMsg 1) 1 l))
   (decL decI (encL encI 1 refs)))
   ((↑x : Int) + (1 : Int))))]))
   100)])
   (AS.mk
   [(0, encL (encMsg 1) 1 l), (1, encL encI 1 refs),
   (5, V.osl 32000384 (List.length (outTo (certsAll l refs) y))),
   (6, V.int IntKind.i64 (lastTop (certsAll l refs) y)),
   (7, V.int IntKind.i64 ((↑y : Int) + (1 : Int)))]
   [(32000384,
   Blk.arr 1 (List.length (outTo (certsAll l refs) y)) (gL encI (outTo (certsAll l refs) y)) 100)])) ∧
   ((y ≤ 30) ∧
   (30 - y < 30 - x)))))))))))) ∧
   ((decide ((↑x : Int) + (1 : Int) ≤ (30 : Int)) = false) →
   ((((0 : Int) ≤ lastTop (certsAll l refs) x) ∧
   (lastTop (certsAll l refs) x ≤ (↑(List.length (outTo (certsAll l refs) x)) : Int))) ∧
   (VLe (V.sl (Int.toNat (lastTop (certsAll l refs) x)) (gL encI (outTo (certsAll l refs) x)) 2)
   (encL encI 2 (pickL l refs))))))))) := by
    obtain ⟨⟨f, hr⟩, hl, hp, h7⟩ := hpre
    have hgc : ∀ r ∈ refs, ∀ c ∈ (atM l r).certs, inR c.slot 1 30 ∧ 0 ≤ c.view := fun r hr' c hc => by
      have := (hr.memGood (atM_mem (hp r hr').1)).certs c hc
      exact ⟨this.1, this.2.1.1⟩
    have hv : ∀ c ∈ certsAll l refs, 0 ≤ c.view := fun c hc => by obtain ⟨r, h1, h2⟩ := upTo_mem hc; exact (hgc r h1 c h2).2
    have hsl : ∀ c ∈ certsAll l refs, 1 ≤ c.slot ∧ c.slot ≤ 30 := fun c hc => by obtain ⟨r, h1, h2⟩ := upTo_mem hc; exact (hgc r h1 c h2).1
    simp only [decL_Msg, decL_ints]
    refine ⟨⟨0, sle_of ⟨rfl, VLe.refl _, rfl, VLe.refl _, rfl, VLe.refl _, rfl, VLe.refl _, rfl, VLe.refl _, trivial⟩ ⟨rfl, ble_nil _, trivial⟩, by omega⟩, fun s hs => ⟨fun h => ?_, fun h => ?_⟩⟩
    · have hlt : s < 30 := by simp at h; omega
      have hl2 := outTo_len (certsAll l refs) s
      refine ⟨⟨VLe.refl _, VLe.refl _, ⟨f, hr⟩, hl, hp, h7⟩, trivial, by omega, fun k hk => ?_, fun h2 => ⟨inK64 (by omega), s + 1, ?_, by omega, by omega⟩, fun h2 => ⟨inK64 (by omega), s + 1, ?_, by omega, by omega⟩⟩
      · have hk0 : k = 0 := by omega
        subst hk0
        exact ⟨rfl, rfl⟩
      · have e : lastTop (certsAll l refs) (s + 1) = s + 1 := by unfold lastTop; rw [if_pos h2]
        rw [outTo_succ, List.length_append, e]
        exact sle_of ⟨rfl, VLe.refl _, rfl, VLe.refl _, rfl, VLe.refl _, rfl, vle_int (by simp [outTo_len]), rfl, vle_int (by omega), trivial⟩ ⟨rfl, ble_push rfl rfl, trivial⟩
      · have e : lastTop (certsAll l refs) (s + 1) = lastTop (certsAll l refs) s := by rw [lastTop, if_neg (by simp [h2])]
        rw [outTo_succ, List.length_append, e]
        exact sle_of ⟨rfl, VLe.refl _, rfl, VLe.refl _, rfl, VLe.refl _, rfl, VLe.refl _, rfl, vle_int (by omega), trivial⟩ ⟨rfl, ble_push rfl rfl, trivial⟩
    · have e : s = 30 := by simp at h; omega
      subst e
      have ht := lastTop_top hv hsl
      have hr30 := topOf_range hsl
      have e2 : pickL l refs = outTo (certsAll l refs) (lastTop (certsAll l refs) 30).toNat := by
        unfold pickL outTo
        rw [ht]
      rw [e2, outTo_len]
      refine ⟨by omega, ?_⟩
      have e3 : (outTo (certsAll l refs) (lastTop (certsAll l refs) 30).toNat).length = (lastTop (certsAll l refs) 30).toNat := outTo_len _ _
      show VLe _ (.sl (outTo (certsAll l refs) (lastTop (certsAll l refs) 30).toNat).length (gL encI (outTo (certsAll l refs) (lastTop (certsAll l refs) 30).toNat)) 2)
      rw [e3]
      refine vle_sl (fun j hj => ELe.of_eq ?_) (Or.inl rfl)
      simp only [gL]
      rw [outTo_get _ (by omega), outTo_get _ hj]
  exact Eq.mp (by kernel_rfl) key
theorem so55 : Sound Try.prog 55 sp55 := by
  refine sound_of_body hmix (pol := 1) Try.func55 rfl (by kernel_rfl) fun args bin ob r bout hDe hob => ?_
  unfold sp55 at hDe
  split at hDe
  · rename_i a0 a1
    cases hDe
    exact ⟨rfl, rfl, Nat.le_of_ble_eq_true (by kernel_rfl), cx55 ((decL decMsg) a0) ((decL decI) a1), Eq.mp (by kernel_rfl) htt, Eq.mp (by kernel_rfl) da55, Eq.mp (by kernel_rfl) (noM_sound (P := Try.prog)), by kernel_rfl, [encL (encMsg 1) 1 (((decL decMsg) a0)), encL encI 1 (((decL decI) a1))], args_of_vles (⟨hob.1, hob.2.1, trivial⟩), Eq.mp (by kernel_rfl) (bd55 ((decL decMsg) a0) ((decL decI) a1) (hob.2.2))⟩
  · cases hDe

/-! ### spec.PickOf -/
def pr22 (f : Int) (l : List Msg) (refs : List Int) : Prop := bdL l ∧ refs.length ≤ 1048576
noncomputable def rs22 (f : Int) (l : List Msg) (refs : List Int) : V := encIntsResult 2 (pickOfF f l refs)
noncomputable def sp22 : FSpec := fun args bin => match args, bin with
  | [.int .i64 a0, a1, a2], [] => some (VLe a1 (encL (encMsg 1) 1 (((decL decMsg) a1))) ∧ VLe a2 (encL encI 1 (((decL decI) a2))) ∧ pr22 a0 ((decL decMsg) a1) ((decL decI) a2), rs22 a0 ((decL decMsg) a1) ((decL decI) a2), [])
  | _, _ => none
noncomputable def in22_7 (f : Int) (l : List Msg) (refs : List Int) : LoopInv :=
  ⟨Nat, fun i => ⟨[(1, encL (encMsg 1) 1 l), (2, encL encI 1 refs), (6, .oref 448 0 0), (8, .int .i64 i)], [(448, .box [.int .i64 0, .nil])]⟩,
    fun i => i ≤ refs.length ∧ ∀ j, j < i → isAt l (refs.getD j default) 4, fun i => refs.length - i⟩
noncomputable def iv22 (f : Int) (l : List Msg) (refs : List Int) : Nat → Option LoopInv := fun rg_ => match rg_ with
  | 7 => some (in22_7 f l refs)
  | _ => none
noncomputable def D22 : Nat → Option (Bool × FSpec) := lk [(33, (false, sp33)), (54, (false, sp54)), (55, (false, sp55))]
theorem da22 : SoundAll Try.prog D22 := soundAll_cons so33 (soundAll_cons so54 (soundAll_cons so55 (soundAll_nil)))
noncomputable def cx22 (f : Int) (l : List Msg) (refs : List Int) : Cx := ⟨tt, D22, Try.f22.ntmps, [0, 1, 2, 6, 7, 8, 13, 21, 26, 35], [(7, ⟨[(1, none), (2, none), (6, none), (8, none)], [(448, [])]⟩)], [], iv22 f l refs, [], noM, []⟩
theorem bd22 (f : Int) (l : List Msg) (refs : List Int) (hpre : pr22 f l refs) : bodyP (cx22 f l refs) Try.f22 1 [.int .i64 (f), encL (encMsg 1) 1 (l), encL encI 1 (refs)] (fun rr => VLe rr (rs22 f l refs)) := by
  have key :
      (((VLe (encL (encMsg 1) 1 l)
   (encL (encMsg 1) 1 (decL decMsg (encL (encMsg 1) 1 l)))) ∧
   (pr33 f (decL decMsg (encL (encMsg 1) 1 l)))) ∧
   ((((ledgerFault f (decL decMsg (encL (encMsg 1) 1 l)) != (0 : Int)) = true) →
   (VLe (V.agg [V.int IntKind.i64 (ledgerFault f (decL decMsg (encL (encMsg 1) 1 l))), V.nil])
   (encIntsResult 2 (pickOfF f l refs)))) ∧
   (((ledgerFault f (decL decMsg (encL (encMsg 1) 1 l)) != (0 : Int)) = false) →
   ((inK IntKind.i64 ((3 : Int) * f)) ∧
   ((inK IntKind.i64 ((3 : Int) * f + (1 : Int))) ∧
   (((decide ((↑(List.length refs) : Int) > (3 : Int) * f + (1 : Int)) = true) →
   (VLe (V.agg [V.int IntKind.i64 (2 : Int), V.nil]) (encIntsResult 2 (pickOfF f l refs)))) ∧
   ((decide ((↑(List.length refs) : Int) > (3 : Int) * f + (1 : Int)) = false) →
   ((∃ x : Nat, ((SLe
   (AS.mk
   [(1, encL (encMsg 1) 1 l), (2, encL encI 1 refs),
   (6, V.oref 448 0 0), (8, V.int IntKind.i64 (0 : Int))]
   [(448, Blk.box [V.int IntKind.i64 (0 : Int), V.nil])])
   (AS.mk
   [(1, encL (encMsg 1) 1 l), (2, encL encI 1 refs),
   (6, V.oref 448 0 0), (8, V.int IntKind.i64 (↑x : Int))]
   [(448, Blk.box [V.int IntKind.i64 (0 : Int), V.nil])])) ∧
   ((x ≤ List.length refs) ∧
   (∀ j : Nat,
   ((j < x) →
   (isAt l (List.getD refs j default) (4 : Int))))))) ∧
   (∀ x : Nat,
   (((x ≤ List.length refs) ∧
   (∀ j : Nat,
   ((j < x) →
   (isAt l (List.getD refs j default) (4 : Int))))) →
   (((decide ((↑x : Int) < (↑(List.length refs) : Int)) = true) →
   ((((0 : Int) ≤ (↑x : Int)) ∧
   ((↑x : Int) < (↑(List.length refs) : Int))) ∧
   (((VLe (encL (encMsg 1) 1 l)
   (encL (encMsg 1) 1 (decL decMsg (encL (encMsg 1) 1 l)))) ∧
   (pr54 (decL decMsg (encL (encMsg 1) 1 l)) (List.getD refs (Int.toNat (↑x : Int)) default) (4 : Int))) ∧
   ((((!decide
   (isAt (decL decMsg (encL (encMsg 1) 1 l)) (List.getD refs (Int.toNat (↑x : Int)) default)
   (4 : Int))) =
   true) →
   (VLe (V.agg [V.int IntKind.i64 (4 : Int), V.nil]) (encIntsResult 2 (pickOfF f l refs)))) ∧
   (((!decide
   (isAt (decL decMsg (encL (encMsg 1) 1 l)) (List.getD refs (Int.toNat (↑x : Int)) default)
   (4 : Int))) =
   false) →
   ((inK IntKind.i64 ((↑x : Int) + (1 : Int))) ∧
   (∃ y : Nat, ((SLe
   (AS.mk
   [(1, encL (encMsg 1) 1 l), (2, encL encI 1 refs),
   (6, V.oref 448 0 0), (8, V.int IntKind.i64 ((↑x : Int) + (1 : Int)))]
   [(448, Blk.box [V.int IntKind.i64 (0 : Int), V.nil])])
   (AS.mk
   [(1, encL (encMsg 1) 1 l), (2, encL encI 1 refs),
   (6, V.oref 448 0 0), (8, V.int IntKind.i64 (↑y : Int))]
   [(448, Blk.box [V.int IntKind.i64 (0 : Int), V.nil])])) ∧
   (((y ≤ List.length refs) ∧
   (∀ j : Nat,
   ((j < y) →
   (isAt l (List.getD refs j default) (4 : Int))))) ∧
   (List.length refs - y < List.length refs - x)))))))))) ∧
   ((decide ((↑x : Int) < (↑(List.length refs) : Int)) = false) →
   (((VLe (encL (encMsg 1) 1 l)
   (encL (encMsg 1) 1 (decL decMsg (encL (encMsg 1) 1 l)))) ∧
   ((VLe (encL encI 1 refs) (encL encI 1 (decL decI (encL encI 1 refs)))) ∧
   (pr55 (decL decMsg (encL (encMsg 1) 1 l)) (decL decI (encL encI 1 refs))))) ∧
   (VLe
   (V.agg
   [V.int IntKind.i64 (0 : Int),
   encL encI 2
   (pickL (decL decMsg (encL (encMsg 1) 1 l)) (decL decI (encL encI 1 refs)))])
   (encIntsResult 2 (pickOfF f l refs)))))))))))))))) := by
    obtain ⟨hl, hb⟩ := hpre
    simp only [decL_Msg, decL_ints, decPL_Msg]
    refine ⟨⟨VLe.refl _, hl⟩, fun h => ?_, fun h => ?_⟩
    · have e : pickOfF f l refs = ⟨ledgerFault f l, []⟩ := if_pos (by simpa using h)
      rw [e]
      exact vle_agg ⟨VLe.refl _, vle_nil _ _, trivial⟩
    have h0 : ledgerFault f l = 0 := by simpa using h
    have hr := right_of h0
    have hf : 1 ≤ f ∧ f ≤ 2 := by have := hr.okf; unfold okF at this; omega
    have e0 : pickOfF f l refs = if 3 * f + 1 < (refs.length : Int) then ⟨2, []⟩ else if ¬ pickOk l refs then ⟨4, []⟩ else ⟨0, pickL l refs⟩ := if_neg (not_not_intro h0)
    refine ⟨inK64 (by omega), inK64 (by omega), fun h => ?_, fun h => ?_⟩
    · have e : pickOfF f l refs = ⟨2, []⟩ := by rw [e0, if_pos (of_decide_eq_true h)]
      rw [e]
      exact vle_agg ⟨VLe.refl _, vle_nil _ _, trivial⟩
    have h1 := of_decide_eq_false h
    refine ⟨⟨0, SLe.refl _, by omega, fun j hj => absurd hj (Nat.not_lt_zero j)⟩, ?_⟩
    rintro i ⟨hi, hj⟩
    refine ⟨fun h => ?_, fun h => ?_⟩
    · have hlt : i < refs.length := by simpa using h
      simp only [Int.toNat_natCast]
      refine ⟨by omega, ⟨VLe.refl _, hr.len⟩, fun h2 => ?_, fun h2 => ⟨inK64 (by omega), i + 1, SLe.refl _, ⟨by omega, fun j h3 => ?_⟩, by omega⟩⟩
      · have hn : ¬ pickOk l refs := fun g => by
          have : isAt l (refs.getD i default) 4 := g _ (getD_mem hlt)
          exact ndP h2 this
        have e : pickOfF f l refs = ⟨4, []⟩ := by rw [e0, if_neg h1, if_pos hn]
        rw [e]
        exact vle_agg ⟨VLe.refl _, vle_nil _ _, trivial⟩
      · rcases Nat.lt_or_ge j i with h4 | h4
        · exact hj j h4
        · have : j = i := by omega
          subst this
          exact pdP h2
    · have hge : i = refs.length := by simp at h; omega
      have hp : pickOk l refs := fun r hr' => by
        obtain ⟨j, hj2, rfl⟩ := List.getElem_of_mem hr'
        have := hj j (by omega)
        simpa [hj2] using this
      have e : pickOfF f l refs = ⟨0, pickL l refs⟩ := by rw [e0, if_neg h1, if_neg (not_not_intro hp)]
      rw [e]
      exact ⟨⟨VLe.refl _, VLe.refl _, ⟨f, hr⟩, hl, hp, by omega⟩, VLe.refl _⟩
  exact Eq.mp (by kernel_rfl) key
theorem so22 : Sound Try.prog 22 sp22 := by
  refine sound_of_body hmix (pol := 1) Try.func22 rfl (by kernel_rfl) fun args bin ob r bout hDe hob => ?_
  unfold sp22 at hDe
  split at hDe
  · rename_i a0 a1 a2
    cases hDe
    exact ⟨rfl, rfl, Nat.le_of_ble_eq_true (by kernel_rfl), cx22 a0 ((decL decMsg) a1) ((decL decI) a2), Eq.mp (by kernel_rfl) htt, Eq.mp (by kernel_rfl) da22, Eq.mp (by kernel_rfl) (noM_sound (P := Try.prog)), by kernel_rfl, [.int .i64 (a0), encL (encMsg 1) 1 (((decL decMsg) a1)), encL encI 1 (((decL decI) a2))], args_of_vles (⟨VLe.refl _, hob.1, hob.2.1, trivial⟩), Eq.mp (by kernel_rfl) (bd22 a0 ((decL decMsg) a1) ((decL decI) a2) (hob.2.2))⟩
  · cases hDe

theorem okX_code {code : List Int} (h1 : code.length ≤ 1048576) (h2 : ∀ x ∈ code, (Lit.int .u8 x).wf = true) : okX code 0 := by
  refine ⟨h1, fun x hx => ?_, by omega, by omega⟩
  have := h2 x hx
  simp [Lit.wf, IntKind.min, IntKind.max, IntKind.bits, IntKind.signed] at this
  omega
noncomputable def qF (code : List Int) : Int := (pickArg code).1
noncomputable def qL (code : List Int) : List Msg := (pickArg code).2.1
noncomputable def qR (code : List Int) : List Int := (pickArg code).2.2
noncomputable def qP (code : List Int) : List Int := pickL (qL code) (qR code)
/-- Is the value of a slot found among certificates? -/
def fndP (all cs : List Cert) (s : Int) : Prop := (bestOf all s).2 = 0 ∨ ∃ c ∈ cs, c.slot = s ∧ c.view = (bestOf all s).1 ∧ c.value = (bestOf all s).2
noncomputable instance (all cs : List Cert) (s : Int) : Decidable (fndP all cs s) := Classical.propDecidable _
theorem fnd_snoc (all cs : List Cert) (c : Cert) (s : Int) : fndP all (cs ++ [c]) s ↔ fndP all cs s ∨ (c.slot = s ∧ c.view = (bestOf all s).1 ∧ c.value = (bestOf all s).2) := by
  unfold fndP
  constructor
  · rintro (h | ⟨x, hx, h⟩)
    · exact .inl (.inl h)
    · rcases List.mem_append.1 hx with hx | hx
      · exact .inl (.inr ⟨x, hx, h⟩)
      · have : x = c := by simpa using hx
        subst this
        exact .inr h
  · rintro ((h | ⟨x, hx, h⟩) | h)
    · exact .inl h
    · exact .inr ⟨x, List.mem_append.2 (.inl hx), h⟩
    · exact .inr ⟨c, by simp, h⟩
theorem bestOf_from (s : Int) : ∀ (cs : List Cert) (b : Int × Int), cs.foldl (newerC s) b = b ∨ ∃ c ∈ cs, c.slot = s ∧ cs.foldl (newerC s) b = (c.view, c.value)
  | [], b => .inl rfl
  | c :: r, b => by
    rw [List.foldl_cons]
    rcases bestOf_from s r (newerC s b c) with h | ⟨x, hx, h1, h2⟩
    · rw [h]
      unfold newerC
      split
      · rename_i g
        exact .inr ⟨c, List.mem_cons_self .., g.1, rfl⟩
      · exact .inl rfl
    · exact .inr ⟨x, List.mem_cons_of_mem _ hx, h1, h2⟩
theorem fnd_all (cs : List Cert) (s : Int) : fndP cs cs s := by
  rcases bestOf_from s cs (-1, 0) with h | ⟨c, hc, h1, h2⟩
  · left
    unfold bestOf
    rw [h]
  · right
    refine ⟨c, hc, h1, ?_, ?_⟩
    · show _ = (bestOf cs s).1
      unfold bestOf
      rw [h2]
    · show _ = (bestOf cs s).2
      unfold bestOf
      rw [h2]
theorem pickL_get {l : List Msg} {refs : List Int} {s : Nat} (h : s < (pickL l refs).length) : (pickL l refs).getD s default = (bestOf (certsAll l refs) (s + 1)).2 := by
  unfold pickL at h ⊢
  simp only [List.length_map, List.length_range] at h
  simp [h]
theorem pickL_length (l : List Msg) (refs : List Int) : (pickL l refs).length = (topOf (certsAll l refs)).toNat := by simp [pickL]
theorem pickArg_bd {code : List Int} (h0 : okX code 0) : bdL (qL code) ∧ (qR code).length ≤ 9 := by
  have w := wrong10_bd h0 (by omega)
  have eL : qL code = (wrong10 code 0).1 := rfl
  refine ⟨by rw [eL]; exact bdL_short w.1 (by omega) (by omega), ?_⟩
  unfold qR pickArg
  simp only
  split
  · simp
  · have n := nextF_bd (h0.to (b := (wrong10 code 0).2) (by omega) (by omega)) 5
    have := refsD10_bd code (wrong10 code 0).1 (nextF code (wrong10 code 0).2 5).toNat ((wrong10 code 0).2 + 1) []
    unfold refsX
    simp only [List.length_nil] at this
    omega

/-! ### laws.FnPicks -/
def pr5 (code : List Int) : Prop := code.length ≤ maxLen ∧ ∀ x ∈ code, (Lit.int .u8 x).wf = true
noncomputable def rs5 (code : List Int) : V := .bool (true)
def Q5 (vs : List V) : Prop := ∃ (code : List Int), ArgsLe vs [encL encY 1 (code)] ∧ pr5 code
noncomputable def in5_8 (code : List Int) : LoopInv :=
  ⟨Nat, fun i => ⟨[(3, .int .i64 (qF code)), (4, encL (encMsg 1) 223 (qL code)), (5, .osl (canonT 5) (qR code).length), (6, .oref 448 0 0), (7, .int .i64 i)], [(canonT 5, .arr 1 (qR code).length (gL encI (qR code)) tagS), (448, .box [.int .i64 0, .osl (canonB 448 1) (qP code).length]), (canonB 448 1, .arr 1 (qP code).length (gL encI (qP code)) tagS)]⟩,
    fun i => i ≤ (qR code).length, fun i => (qR code).length - i⟩
noncomputable def in5_12 (code : List Int) : LoopInv :=
  ⟨Nat × Nat, fun p => ⟨[(3, .int .i64 (qF code)), (4, encL (encMsg 1) 223 (qL code)), (5, .osl (canonT 5) (qR code).length), (6, .oref 448 0 0), (7, .int .i64 p.1), (8, encL (encCert 1) 223 (atM (qL code) ((qR code).getD p.1 default)).certs), (9, .int .i64 p.2)], [(canonT 5, .arr 1 (qR code).length (gL encI (qR code)) tagS), (448, .box [.int .i64 0, .osl (canonB 448 1) (qP code).length]), (canonB 448 1, .arr 1 (qP code).length (gL encI (qP code)) tagS)]⟩,
    fun p => p.1 < (qR code).length ∧ p.2 ≤ (atM (qL code) ((qR code).getD p.1 default)).certs.length, fun p => (atM (qL code) ((qR code).getD p.1 default)).certs.length - p.2⟩
noncomputable def in5_17 (code : List Int) : LoopInv :=
  ⟨Nat, fun i => ⟨[(3, .int .i64 (qF code)), (4, encL (encMsg 1) 223 (qL code)), (5, .osl (canonT 5) (qR code).length), (6, .oref 448 0 0), (10, .int .i64 (i + 1))], [(canonT 5, .arr 1 (qR code).length (gL encI (qR code)) tagS), (448, .box [.int .i64 0, .osl (canonB 448 1) (qP code).length]), (canonB 448 1, .arr 1 (qP code).length (gL encI (qP code)) tagS)]⟩,
    fun i => i ≤ (qP code).length, fun i => (qP code).length - i⟩
noncomputable def in5_22 (code : List Int) : LoopInv :=
  ⟨Nat × Nat, fun p => ⟨[(3, .int .i64 (qF code)), (4, encL (encMsg 1) 223 (qL code)), (5, .osl (canonT 5) (qR code).length), (6, .oref 448 0 0), (10, .int .i64 (p.1 + 1)), (11, .int .i64 (bestOf (certsUpTo (qL code) (qR code) p.2) (p.1 + 1)).1), (12, .bool ((qP code).getD p.1 default == 0)), (13, .int .i64 p.2)], [(canonT 5, .arr 1 (qR code).length (gL encI (qR code)) tagS), (448, .box [.int .i64 0, .osl (canonB 448 1) (qP code).length]), (canonB 448 1, .arr 1 (qP code).length (gL encI (qP code)) tagS)]⟩,
    fun p => p.1 < (qP code).length ∧ p.2 ≤ (qR code).length, fun p => (qR code).length - p.2⟩
noncomputable def in5_26 (code : List Int) : LoopInv :=
  ⟨Nat × Nat × Nat, fun p => ⟨[(3, .int .i64 (qF code)), (4, encL (encMsg 1) 223 (qL code)), (5, .osl (canonT 5) (qR code).length), (6, .oref 448 0 0), (10, .int .i64 (p.1 + 1)), (11, .int .i64 (bestOf (certsSeen (qL code) (qR code) p.2.1 p.2.2) (p.1 + 1)).1), (12, .bool ((qP code).getD p.1 default == 0)), (13, .int .i64 p.2.1), (14, encL (encCert 1) 223 (atM (qL code) ((qR code).getD p.2.1 default)).certs), (15, .int .i64 p.2.2)], [(canonT 5, .arr 1 (qR code).length (gL encI (qR code)) tagS), (448, .box [.int .i64 0, .osl (canonB 448 1) (qP code).length]), (canonB 448 1, .arr 1 (qP code).length (gL encI (qP code)) tagS)]⟩,
    fun p => p.1 < (qP code).length ∧ p.2.1 < (qR code).length ∧ p.2.2 ≤ (atM (qL code) ((qR code).getD p.2.1 default)).certs.length, fun p => (atM (qL code) ((qR code).getD p.2.1 default)).certs.length - p.2.2⟩
noncomputable def in5_31 (code : List Int) : LoopInv :=
  ⟨Nat × Nat, fun p => ⟨[(3, .int .i64 (qF code)), (4, encL (encMsg 1) 223 (qL code)), (5, .osl (canonT 5) (qR code).length), (6, .oref 448 0 0), (10, .int .i64 (p.1 + 1)), (11, .int .i64 (bestOf (certsAll (qL code) (qR code)) (p.1 + 1)).1), (12, .bool (decide (fndP (certsAll (qL code) (qR code)) (certsUpTo (qL code) (qR code) p.2) (p.1 + 1)))), (16, .int .i64 p.2)], [(canonT 5, .arr 1 (qR code).length (gL encI (qR code)) tagS), (448, .box [.int .i64 0, .osl (canonB 448 1) (qP code).length]), (canonB 448 1, .arr 1 (qP code).length (gL encI (qP code)) tagS)]⟩,
    fun p => p.1 < (qP code).length ∧ p.2 ≤ (qR code).length, fun p => (qR code).length - p.2⟩
noncomputable def in5_35 (code : List Int) : LoopInv :=
  ⟨Nat × Nat × Nat, fun p => ⟨[(3, .int .i64 (qF code)), (4, encL (encMsg 1) 223 (qL code)), (5, .osl (canonT 5) (qR code).length), (6, .oref 448 0 0), (10, .int .i64 (p.1 + 1)), (11, .int .i64 (bestOf (certsAll (qL code) (qR code)) (p.1 + 1)).1), (12, .bool (decide (fndP (certsAll (qL code) (qR code)) (certsSeen (qL code) (qR code) p.2.1 p.2.2) (p.1 + 1)))), (16, .int .i64 p.2.1), (17, encL (encCert 1) 223 (atM (qL code) ((qR code).getD p.2.1 default)).certs), (18, .int .i64 p.2.2)], [(canonT 5, .arr 1 (qR code).length (gL encI (qR code)) tagS), (448, .box [.int .i64 0, .osl (canonB 448 1) (qP code).length]), (canonB 448 1, .arr 1 (qP code).length (gL encI (qP code)) tagS)]⟩,
    fun p => p.1 < (qP code).length ∧ p.2.1 < (qR code).length ∧ p.2.2 ≤ (atM (qL code) ((qR code).getD p.2.1 default)).certs.length, fun p => (atM (qL code) ((qR code).getD p.2.1 default)).certs.length - p.2.2⟩
noncomputable def iv5 (code : List Int) : Nat → Option LoopInv := fun rg_ => match rg_ with
  | 8 => some (in5_8 code)
  | 12 => some (in5_12 code)
  | 17 => some (in5_17 code)
  | 22 => some (in5_22 code)
  | 26 => some (in5_26 code)
  | 31 => some (in5_31 code)
  | 35 => some (in5_35 code)
  | _ => none
noncomputable def D5 : Nat → Option (Bool × FSpec) := lk [(6, (false, sp6)), (20, (false, sp20)), (21, (false, sp21o)), (22, (false, sp22))]
theorem da5 : SoundAll Try.prog D5 := soundAll_cons so6 (soundAll_cons so20 (soundAll_cons so21o (soundAll_cons so22 (soundAll_nil))))
noncomputable def cx5 (code : List Int) : Cx := ⟨tt, D5, Try.f5.ntmps, [0, 2, 3, 4, 5, 6, 7, 8, 9, 10, 11, 12, 13, 14, 15, 16, 17, 18, 20, 33, 45, 59, 70, 75, 88, 102, 120, 129, 143, 205], [(8, ⟨[(3, none), (4, none), (5, some 1), (6, none), (7, none)], [(448, [(1, 1)])]⟩), (12, ⟨[(3, none), (4, none), (5, some 1), (6, none), (7, none), (8, none), (9, none)], [(448, [(1, 1)])]⟩), (17, ⟨[(3, none), (4, none), (5, some 1), (6, none), (10, none)], [(448, [(1, 1)])]⟩), (22, ⟨[(3, none), (4, none), (5, some 1), (6, none), (10, none), (11, none), (12, none), (13, none)], [(448, [(1, 1)])]⟩), (26, ⟨[(3, none), (4, none), (5, some 1), (6, none), (10, none), (11, none), (12, none), (13, none), (14, none), (15, none)], [(448, [(1, 1)])]⟩), (31, ⟨[(3, none), (4, none), (5, some 1), (6, none), (10, none), (11, none), (12, none), (16, none)], [(448, [(1, 1)])]⟩), (35, ⟨[(3, none), (4, none), (5, some 1), (6, none), (10, none), (11, none), (12, none), (16, none), (17, none), (18, none)], [(448, [(1, 1)])]⟩)], [], iv5 code, [], noM, [12, 22, 26, 31, 35]⟩
theorem bd5 (code : List Int) (hpre : pr5 code) : bodyP (cx5 code) Try.f5 0 [encL encY 1 (code)] (fun rr => VLe rr (rs5 code)) := by
  have key :
      (((VLe (encL encY 1 code) (encL encY 1 (decL decY (encL encY 1 code)))) ∧
   (pr6 (decL decY (encL encY 1 code)))) ∧
   (((decide (1048576 < List.length (decL decY (encL encY 1 code))) = true) →
   (VLe (V.bool true) (V.bool true))) ∧
   ((decide (1048576 < List.length (decL decY (encL encY 1 code))) = false) →
   (((VLe (encL encY 1 code) (encL encY 1 (decL decY (encL encY 1 code)))) ∧
   (pr20 (decL decY (encL encY 1 code)))) ∧
   (((VLe
   (encL (encMsg 1) 1
   (Prod.fst
   (Prod.fst (wrong10 (decL decY (encL encY 1 code)) (0 : Int)),
   if
   nextF (decL decY (encL encY 1 code)) (Prod.snd (refsX (decL decY (encL encY 1 code))))
   (20 : Int) =
   (0 : Int) then
   [(0 : Int), (0 : Int), (0 : Int), (0 : Int), (0 : Int), (0 : Int), (0 : Int), (0 : Int), (0 : Int)]
   else Prod.fst (refsX (decL decY (encL encY 1 code))))))
   (encL (encMsg 1) 1
   (decL decMsg
   (encL (encMsg 1) 1
   (Prod.fst
   (Prod.fst (wrong10 (decL decY (encL encY 1 code)) (0 : Int)),
   if
   nextF (decL decY (encL encY 1 code)) (Prod.snd (refsX (decL decY (encL encY 1 code))))
   (20 : Int) =
   (0 : Int) then
   [(0 : Int), (0 : Int), (0 : Int), (0 : Int), (0 : Int), (0 : Int), (0 : Int), (0 : Int), (0 : Int)]
   else Prod.fst (refsX (decL decY (encL encY 1 code))))))))) ∧
   ((VLe
   (encL encI 1
   (Prod.snd
   (Prod.fst (wrong10 (decL decY (encL encY 1 code)) (0 : Int)),
   if
   nextF (decL decY (encL encY 1 code)) (Prod.snd (refsX (decL decY (encL encY 1 code))))
   (20 : Int) =
   (0 : Int) then
   [(0 : Int), (0 : Int), (0 : Int), (0 : Int), (0 : Int), (0 : Int), (0 : Int), (0 : Int), (0 : Int)]
   else Prod.fst (refsX (decL decY (encL encY 1 code))))))
   (encL encI 1
   (decL decI
   (encL encI 1
   (Prod.snd
   (Prod.fst (wrong10 (decL decY (encL encY 1 code)) (0 : Int)),
   if
   nextF (decL decY (encL encY 1 code)) (Prod.snd (refsX (decL decY (encL encY 1 code))))
   (20 : Int) =
   (0 : Int) then
   [(0 : Int), (0 : Int), (0 : Int), (0 : Int), (0 : Int), (0 : Int), (0 : Int), (0 : Int), (0 : Int)]
   else Prod.fst (refsX (decL decY (encL encY 1 code))))))))) ∧
   (pr21o
   (Prod.fst
   (drawF (decL decY (encL encY 1 code)) (Prod.snd (refsX (decL decY (encL encY 1 code))) + (1 : Int)),
   Prod.fst (wrong10 (decL decY (encL encY 1 code)) (0 : Int)),
   if
   nextF (decL decY (encL encY 1 code)) (Prod.snd (refsX (decL decY (encL encY 1 code))))
   (20 : Int) =
   (0 : Int) then
   [(0 : Int), (0 : Int), (0 : Int), (0 : Int), (0 : Int), (0 : Int), (0 : Int), (0 : Int), (0 : Int)]
   else Prod.fst (refsX (decL decY (encL encY 1 code)))))
   (decL decMsg
   (encL (encMsg 1) 1
   (Prod.fst
   (Prod.fst (wrong10 (decL decY (encL encY 1 code)) (0 : Int)),
   if
   nextF (decL decY (encL encY 1 code)) (Prod.snd (refsX (decL decY (encL encY 1 code))))
   (20 : Int) =
   (0 : Int) then
   [(0 : Int), (0 : Int), (0 : Int), (0 : Int), (0 : Int), (0 : Int), (0 : Int), (0 : Int), (0 : Int)]
   else Prod.fst (refsX (decL decY (encL encY 1 code)))))))
   (decL decI
   (encL encI 1
   (Prod.snd
   (Prod.fst (wrong10 (decL decY (encL encY 1 code)) (0 : Int)),
   if
   nextF (decL decY (encL encY 1 code)) (Prod.snd (refsX (decL decY (encL encY 1 code))))
   (20 : Int) =
   (0 : Int) then
   [(0 : Int), (0 : Int), (0 : Int), (0 : Int), (0 : Int), (0 : Int), (0 : Int), (0 : Int), (0 : Int)]
   else Prod.fst (refsX (decL decY (encL encY 1 code)))))))))) ∧
   ((((IntsResult.code
   (ro21o
   (Prod.fst
   (drawF (decL decY (encL encY 1 code))
   (Prod.snd (refsX (decL decY (encL encY 1 code))) + (1 : Int)),
   Prod.fst (wrong10 (decL decY (encL encY 1 code)) (0 : Int)),
   if
   nextF (decL decY (encL encY 1 code)) (Prod.snd (refsX (decL decY (encL encY 1 code))))
   (20 : Int) =
   (0 : Int) then
   [(0 : Int), (0 : Int), (0 : Int), (0 : Int), (0 : Int), (0 : Int), (0 : Int), (0 : Int), (0 : Int)]
   else Prod.fst (refsX (decL decY (encL encY 1 code)))))
   (decL decMsg
   (encL (encMsg 1) 1
   (Prod.fst
   (Prod.fst (wrong10 (decL decY (encL encY 1 code)) (0 : Int)),
   if
   nextF (decL decY (encL encY 1 code))
   (Prod.snd (refsX (decL decY (encL encY 1 code)))) (20 : Int) =
   (0 : Int) then
   [(0 : Int), (0 : Int), (0 : Int), (0 : Int), (0 : Int), (0 : Int), (0 : Int), (0 : Int), (0 : Int)]
   else Prod.fst (refsX (decL decY (encL encY 1 code)))))))
   (decL decI
   (encL encI 1
   (Prod.snd
   (Prod.fst (wrong10 (decL decY (encL encY 1 code)) (0 : Int)),
   if
   nextF (decL decY (encL encY 1 code))
   (Prod.snd (refsX (decL decY (encL encY 1 code)))) (20 : Int) =
   (0 : Int) then
   [(0 : Int), (0 : Int), (0 : Int), (0 : Int), (0 : Int), (0 : Int), (0 : Int), (0 : Int), (0 : Int)]
   else Prod.fst (refsX (decL decY (encL encY 1 code)))))))) !=
   (0 : Int)) =
   true) →
   (((VLe
   (encL (encMsg 1) 1
   (Prod.fst
   (Prod.fst (wrong10 (decL decY (encL encY 1 code)) (0 : Int)),
   if
   nextF (decL decY (encL encY 1 code)) (Prod.snd (refsX (decL decY (encL encY 1 code))))
   (20 : Int) =
   (0 : Int) then
   [(0 : Int), (0 : Int), (0 : Int), (0 : Int), (0 : Int), (0 : Int), (0 : Int), (0 : Int), (0 : Int)]
   else Prod.fst (refsX (decL decY (encL encY 1 code))))))
   (encL (encMsg 1) 1
   (decL decMsg
   (encL (encMsg 1) 1
   (Prod.fst
   (Prod.fst (wrong10 (decL decY (encL encY 1 code)) (0 : Int)),
   if
   nextF (decL decY (encL encY 1 code)) (Prod.snd (refsX (decL decY (encL encY 1 code))))
   (20 : Int) =
   (0 : Int) then
   [(0 : Int), (0 : Int), (0 : Int), (0 : Int), (0 : Int), (0 : Int), (0 : Int), (0 : Int), (0 : Int)]
   else Prod.fst (refsX (decL decY (encL encY 1 code))))))))) ∧
   ((VLe
   (encL encI 1
   (Prod.snd
   (Prod.fst (wrong10 (decL decY (encL encY 1 code)) (0 : Int)),
   if
   nextF (decL decY (encL encY 1 code)) (Prod.snd (refsX (decL decY (encL encY 1 code))))
   (20 : Int) =
   (0 : Int) then
   [(0 : Int), (0 : Int), (0 : Int), (0 : Int), (0 : Int), (0 : Int), (0 : Int), (0 : Int), (0 : Int)]
   else Prod.fst (refsX (decL decY (encL encY 1 code))))))
   (encL encI 1
   (decL decI
   (encL encI 1
   (Prod.snd
   (Prod.fst (wrong10 (decL decY (encL encY 1 code)) (0 : Int)),
   if
   nextF (decL decY (encL encY 1 code)) (Prod.snd (refsX (decL decY (encL encY 1 code))))
   (20 : Int) =
   (0 : Int) then
   [(0 : Int), (0 : Int), (0 : Int), (0 : Int), (0 : Int), (0 : Int), (0 : Int), (0 : Int), (0 : Int)]
   else Prod.fst (refsX (decL decY (encL encY 1 code))))))))) ∧
   (pr22
   (Prod.fst
   (drawF (decL decY (encL encY 1 code)) (Prod.snd (refsX (decL decY (encL encY 1 code))) + (1 : Int)),
   Prod.fst (wrong10 (decL decY (encL encY 1 code)) (0 : Int)),
   if
   nextF (decL decY (encL encY 1 code)) (Prod.snd (refsX (decL decY (encL encY 1 code))))
   (20 : Int) =
   (0 : Int) then
   [(0 : Int), (0 : Int), (0 : Int), (0 : Int), (0 : Int), (0 : Int), (0 : Int), (0 : Int), (0 : Int)]
   else Prod.fst (refsX (decL decY (encL encY 1 code)))))
   (decL decMsg
   (encL (encMsg 1) 1
   (Prod.fst
   (Prod.fst (wrong10 (decL decY (encL encY 1 code)) (0 : Int)),
   if
   nextF (decL decY (encL encY 1 code)) (Prod.snd (refsX (decL decY (encL encY 1 code))))
   (20 : Int) =
   (0 : Int) then
   [(0 : Int), (0 : Int), (0 : Int), (0 : Int), (0 : Int), (0 : Int), (0 : Int), (0 : Int), (0 : Int)]
   else Prod.fst (refsX (decL decY (encL encY 1 code)))))))
   (decL decI
   (encL encI 1
   (Prod.snd
   (Prod.fst (wrong10 (decL decY (encL encY 1 code)) (0 : Int)),
   if
   nextF (decL decY (encL encY 1 code)) (Prod.snd (refsX (decL decY (encL encY 1 code))))
   (20 : Int) =
   (0 : Int) then
   [(0 : Int), (0 : Int), (0 : Int), (0 : Int), (0 : Int), (0 : Int), (0 : Int), (0 : Int), (0 : Int)]
   else Prod.fst (refsX (decL decY (encL encY 1 code)))))))))) ∧
   (VLe
   (V.bool
   (IntsResult.code
   (pickOfF
   (Prod.fst
   (drawF (decL decY (encL encY 1 code))
   (Prod.snd (refsX (decL decY (encL encY 1 code))) + (1 : Int)),
   Prod.fst (wrong10 (decL decY (encL encY 1 code)) (0 : Int)),
   if
   nextF (decL decY (encL encY 1 code)) (Prod.snd (refsX (decL decY (encL encY 1 code))))
   (20 : Int) =
   (0 : Int) then
   [(0 : Int), (0 : Int), (0 : Int), (0 : Int), (0 : Int), (0 : Int), (0 : Int), (0 : Int), (0 : Int)]
   else Prod.fst (refsX (decL decY (encL encY 1 code)))))
   (decL decMsg
   (encL (encMsg 1) 1
   (Prod.fst
   (Prod.fst (wrong10 (decL decY (encL encY 1 code)) (0 : Int)),
   if
   nextF (decL decY (encL encY 1 code))
   (Prod.snd (refsX (decL decY (encL encY 1 code)))) (20 : Int) =
   (0 : Int) then
   [(0 : Int), (0 : Int), (0 : Int), (0 : Int), (0 : Int), (0 : Int), (0 : Int), (0 : Int), (0 : Int)]
   else Prod.fst (refsX (decL decY (encL encY 1 code)))))))
   (decL decI
   (encL encI 1
   (Prod.snd
   (Prod.fst (wrong10 (decL decY (encL encY 1 code)) (0 : Int)),
   if
   nextF (decL decY (encL encY 1 code))
   (Prod.snd (refsX (decL decY (encL encY 1 code)))) (20 : Int) =
   (0 : Int) then
   [(0 : Int), (0 : Int), (0 : Int), (0 : Int), (0 : Int), (0 : Int), (0 : Int), (0 : Int), (0 : Int)]
   else Prod.fst (refsX (decL decY (encL encY 1 code)))))))) ==
   IntsResult.code
   (ro21o
   (Prod.fst
   (drawF (decL decY (encL encY 1 code))
   (Prod.snd (refsX (decL decY (encL encY 1 code))) + (1 : Int)),
   Prod.fst (wrong10 (decL decY (encL encY 1 code)) (0 : Int)),
   if
   nextF (decL decY (encL encY 1 code)) (Prod.snd (refsX (decL decY (encL encY 1 code))))
   (20 : Int) =
   (0 : Int) then
   [(0 : Int), (0 : Int), (0 : Int), (0 : Int), (0 : Int), (0 : Int), (0 : Int), (0 : Int), (0 : Int)]
   else Prod.fst (refsX (decL decY (encL encY 1 code)))))
   (decL decMsg
   (encL (encMsg 1) 1
   (Prod.fst
   (Prod.fst (wrong10 (decL decY (encL encY 1 code)) (0 : Int)),
   if
   nextF (decL decY (encL encY 1 code))
   (Prod.snd (refsX (decL decY (encL encY 1 code)))) (20 : Int) =
   (0 : Int) then
   [(0 : Int), (0 : Int), (0 : Int), (0 : Int), (0 : Int), (0 : Int), (0 : Int), (0 : Int), (0 : Int)]
   else Prod.fst (refsX (decL decY (encL encY 1 code)))))))
   (decL decI
   (encL encI 1
   (Prod.snd
   (Prod.fst (wrong10 (decL decY (encL encY 1 code)) (0 : Int)),
   if
   nextF (decL decY (encL encY 1 code))
   (Prod.snd (refsX (decL decY (encL encY 1 code)))) (20 : Int) =
   (0 : Int) then
   [(0 : Int), (0 : Int), (0 : Int), (0 : Int), (0 : Int), (0 : Int), (0 : Int), (0 : Int), (0 : Int)]
   else Prod.fst (refsX (decL decY (encL encY 1 code))))))))))
   (V.bool true)))) ∧
   (((IntsResult.code
   (ro21o
   (Prod.fst
   (drawF (decL decY (encL encY 1 code))
   (Prod.snd (refsX (decL decY (encL encY 1 code))) + (1 : Int)),
   Prod.fst (wrong10 (decL decY (encL encY 1 code)) (0 : Int)),
   if
   nextF (decL decY (encL encY 1 code)) (Prod.snd (refsX (decL decY (encL encY 1 code))))
   (20 : Int) =
   (0 : Int) then
   [(0 : Int), (0 : Int), (0 : Int), (0 : Int), (0 : Int), (0 : Int), (0 : Int), (0 : Int), (0 : Int)]
   else Prod.fst (refsX (decL decY (encL encY 1 code)))))
   (decL decMsg
   (encL (encMsg 1) 1
   (Prod.fst
   (Prod.fst (wrong10 (decL decY (encL encY 1 code)) (0 : Int)),
   if
   nextF (decL decY (encL encY 1 code))
   (Prod.snd (refsX (decL decY (encL encY 1 code)))) (20 : Int) =
   (0 : Int) then
   [(0 : Int), (0 : Int), (0 : Int), (0 : Int), (0 : Int), (0 : Int), (0 : Int), (0 : Int), (0 : Int)]
   else Prod.fst (refsX (decL decY (encL encY 1 code)))))))
   (decL decI
   (encL encI 1
   (Prod.snd
   (Prod.fst (wrong10 (decL decY (encL encY 1 code)) (0 : Int)),
   if
   nextF (decL decY (encL encY 1 code))
   (Prod.snd (refsX (decL decY (encL encY 1 code)))) (20 : Int) =
   (0 : Int) then
   [(0 : Int), (0 : Int), (0 : Int), (0 : Int), (0 : Int), (0 : Int), (0 : Int), (0 : Int), (0 : Int)]
   else Prod.fst (refsX (decL decY (encL encY 1 code)))))))) !=
   (0 : Int)) =
   false) →
   ((∃ x : Nat, ((SLe
   (AS.mk
   [(3,
   V.int IntKind.i64
   (Prod.fst
   (drawF (decL decY (encL encY 1 code))
   (Prod.snd (refsX (decL decY (encL encY 1 code))) + (1 : Int)),
   Prod.fst (wrong10 (decL decY (encL encY 1 code)) (0 : Int)),
   if
   nextF (decL decY (encL encY 1 code)) (Prod.snd (refsX (decL decY (encL encY 1 code))))
   (20 : Int) =
   (0 : Int) then
   [(0 : Int), (0 : Int), (0 : Int), (0 : Int), (0 : Int), (0 : Int), (0 : Int), (0 : Int), (0 : Int)]
   else Prod.fst (refsX (decL decY (encL encY 1 code)))))),
   (4,
   encL (encMsg 1) 223
   (Prod.fst
   (Prod.fst (wrong10 (decL decY (encL encY 1 code)) (0 : Int)),
   if
   nextF (decL decY (encL encY 1 code)) (Prod.snd (refsX (decL decY (encL encY 1 code))))
   (20 : Int) =
   (0 : Int) then
   [(0 : Int), (0 : Int), (0 : Int), (0 : Int), (0 : Int), (0 : Int), (0 : Int), (0 : Int), (0 : Int)]
   else Prod.fst (refsX (decL decY (encL encY 1 code)))))),
   (5,
   V.osl 32000384
   (List.length
   (Prod.snd
   (Prod.fst (wrong10 (decL decY (encL encY 1 code)) (0 : Int)),
   if
   nextF (decL decY (encL encY 1 code))
   (Prod.snd (refsX (decL decY (encL encY 1 code)))) (20 : Int) =
   (0 : Int) then
   [(0 : Int), (0 : Int), (0 : Int), (0 : Int), (0 : Int), (0 : Int), (0 : Int), (0 : Int), (0 : Int)]
   else Prod.fst (refsX (decL decY (encL encY 1 code))))))),
   (6, V.oref 448 0 0), (7, V.int IntKind.i64 (0 : Int))]
   [(32000384,
   Blk.arr 1
   (List.length
   (Prod.snd
   (Prod.fst (wrong10 (decL decY (encL encY 1 code)) (0 : Int)),
   if
   nextF (decL decY (encL encY 1 code))
   (Prod.snd (refsX (decL decY (encL encY 1 code)))) (20 : Int) =
   (0 : Int) then
   [(0 : Int), (0 : Int), (0 : Int), (0 : Int), (0 : Int), (0 : Int), (0 : Int), (0 : Int), (0 : Int)]
   else Prod.fst (refsX (decL decY (encL encY 1 code))))))
   (gL encI
   (Prod.snd
   (Prod.fst (wrong10 (decL decY (encL encY 1 code)) (0 : Int)),
   if
   nextF (decL decY (encL encY 1 code))
   (Prod.snd (refsX (decL decY (encL encY 1 code)))) (20 : Int) =
   (0 : Int) then
   [(0 : Int), (0 : Int), (0 : Int), (0 : Int), (0 : Int), (0 : Int), (0 : Int), (0 : Int), (0 : Int)]
   else Prod.fst (refsX (decL decY (encL encY 1 code))))))
   100),
   (448,
   Blk.box
   [V.int IntKind.i64
   (IntsResult.code
   (ro21o
   (Prod.fst
   (drawF (decL decY (encL encY 1 code))
   (Prod.snd (refsX (decL decY (encL encY 1 code))) + (1 : Int)),
   Prod.fst (wrong10 (decL decY (encL encY 1 code)) (0 : Int)),
   if
   nextF (decL decY (encL encY 1 code))
   (Prod.snd (refsX (decL decY (encL encY 1 code)))) (20 : Int) =
   (0 : Int) then
   [(0 : Int), (0 : Int), (0 : Int), (0 : Int), (0 : Int), (0 : Int), (0 : Int), (0 : Int),
   (0 : Int)]
   else Prod.fst (refsX (decL decY (encL encY 1 code)))))
   (decL decMsg
   (encL (encMsg 1) 1
   (Prod.fst
   (Prod.fst (wrong10 (decL decY (encL encY 1 code)) (0 : Int)),
   if
   nextF (decL decY (encL encY 1 code))
   (Prod.snd (refsX (decL decY (encL encY 1 code)))) (20 : Int) =
   (0 : Int) then
   [(0 : Int), (0 : Int), (0 : Int), (0 : Int), (0 : Int), (0 : Int), (0 : Int), (0 : Int),
   (0 : Int)]
   else Prod.fst (refsX (decL decY (encL encY 1 code)))))))
   (decL decI
   (encL encI 1
   (Prod.snd
   (Prod.fst (wrong10 (decL decY (encL encY 1 code)) (0 : Int)),
   if
   nextF (decL decY (encL encY 1 code))
   (Prod.snd (refsX (decL decY (encL encY 1 code)))) (20 : Int) =
   (0 : Int) then
   [(0 : Int), (0 : Int), (0 : Int), (0 : Int), (0 : Int), (0 : Int), (0 : Int), (0 : Int),
   (0 : Int)]
   else Prod.fst (refsX (decL decY (encL encY 1 code))))))))),
   V.osl 65835072
   (List.length
   (IntsResult.list
   (ro21o
   (Prod.fst
   (drawF (decL decY (encL encY 1 code))
   (Prod.snd (refsX (decL decY (encL encY 1 code))) + (1 : Int)),
   Prod.fst (wrong10 (decL decY (encL encY 1 code)) (0 : Int)),
   if
   nextF (decL decY (encL encY 1 code))
   (Prod.snd (refsX (decL decY (encL encY 1 code)))) (20 : Int) =
   (0 : Int) then
   [(0 : Int), (0 : Int), (0 : Int), (0 : Int), (0 : Int), (0 : Int), (0 : Int), (0 : Int),
   (0 : Int)]
   else Prod.fst (refsX (decL decY (encL encY 1 code)))))
   (decL decMsg
   (encL (encMsg 1) 1
   (Prod.fst
   (Prod.fst (wrong10 (decL decY (encL encY 1 code)) (0 : Int)),
   if
   nextF (decL decY (encL encY 1 code))
   (Prod.snd (refsX (decL decY (encL encY 1 code)))) (20 : Int) =
   (0 : Int) then
   [(0 : Int), (0 : Int), (0 : Int), (0 : Int), (0 : Int), (0 : Int), (0 : Int), (0 : Int),
   (0 : Int)]
   else Prod.fst (refsX (decL decY (encL encY 1 code)))))))
   (decL decI
   (encL encI 1
   (Prod.snd
   (Prod.fst (wrong10 (decL decY (encL encY 1 code)) (0 : Int)),
   if
   nextF (decL decY (encL encY 1 code))
   (Prod.snd (refsX (decL decY (encL encY 1 code)))) (20 : Int) =
   (0 : Int) then
   [(0 : Int), (0 : Int), (0 : Int), (0 : Int), (0 : Int), (0 : Int), (0 : Int), (0 : Int),
   (0 : Int)]
   else Prod.fst (refsX (decL decY (encL encY 1 code))))))))))]),
   (65835072,
   Blk.arr 1
   (List.length
   (IntsResult.list
   (ro21o
   (Prod.fst
   (drawF (decL decY (encL encY 1 code))
   (Prod.snd (refsX (decL decY (encL encY 1 code))) + (1 : Int)),
   Prod.fst (wrong10 (decL decY (encL encY 1 code)) (0 : Int)),
   if
   nextF (decL decY (encL encY 1 code))
   (Prod.snd (refsX (decL decY (encL encY 1 code)))) (20 : Int) =
   (0 : Int) then
   [(0 : Int), (0 : Int), (0 : Int), (0 : Int), (0 : Int), (0 : Int), (0 : Int), (0 : Int),
   (0 : Int)]
   else Prod.fst (refsX (decL decY (encL encY 1 code)))))
   (decL decMsg
   (encL (encMsg 1) 1
   (Prod.fst
   (Prod.fst (wrong10 (decL decY (encL encY 1 code)) (0 : Int)),
   if
   nextF (decL decY (encL encY 1 code))
   (Prod.snd (refsX (decL decY (encL encY 1 code)))) (20 : Int) =
   (0 : Int) then
   [(0 : Int), (0 : Int), (0 : Int), (0 : Int), (0 : Int), (0 : Int), (0 : Int), (0 : Int),
   (0 : Int)]
   else Prod.fst (refsX (decL decY (encL encY 1 code)))))))
   (decL decI
   (encL encI 1
   (Prod.snd
   (Prod.fst (wrong10 (decL decY (encL encY 1 code)) (0 : Int)),
   if
   nextF (decL decY (encL encY 1 code))
   (Prod.snd (refsX (decL decY (encL encY 1 code)))) (20 : Int) =
   (0 : Int) then
   [(0 : Int), (0 : Int), (0 : Int), (0 : Int), (0 : Int), (0 : Int), (0 : Int), (0 : Int),
   (0 : Int)]
   else Prod.fst (refsX (decL decY (encL encY 1 code))))))))))
   (gL encI
   (IntsResult.list
   (ro21o
   (Prod.fst
   (drawF (decL decY (encL encY 1 code))
   (Prod.snd (refsX (decL decY (encL encY 1 code))) + (1 : Int)),
   Prod.fst (wrong10 (decL decY (encL encY 1 code)) (0 : Int)),
   if
   nextF (decL decY (encL encY 1 code))
   (Prod.snd (refsX (decL decY (encL encY 1 code)))) (20 : Int) =
   (0 : Int) then
   [(0 : Int), (0 : Int), (0 : Int), (0 : Int), (0 : Int), (0 : Int), (0 : Int), (0 : Int),
   (0 : Int)]
   else Prod.fst (refsX (decL decY (encL encY 1 code)))))
   (decL decMsg
   (encL (encMsg 1) 1
   (Prod.fst
   (Prod.fst (wrong10 (decL decY (encL encY 1 code)) (0 : Int)),
   if
   nextF (decL decY (encL encY 1 code))
   (Prod.snd (refsX (decL decY (encL encY 1 code)))) (20 : Int) =
   (0 : Int) then
   [(0 : Int), (0 : Int), (0 : Int), (0 : Int), (0 : Int), (0 : Int), (0 : Int), (0 : Int),
   (0 : Int)]
   else Prod.fst (refsX (decL decY (encL encY 1 code)))))))
   (decL decI
   (encL encI 1
   (Prod.snd
   (Prod.fst (wrong10 (decL decY (encL encY 1 code)) (0 : Int)),
   if
   nextF (decL decY (encL encY 1 code))
   (Prod.snd (refsX (decL decY (encL encY 1 code)))) (20 : Int) =
   (0 : Int) then
   [(0 : Int), (0 : Int), (0 : Int), (0 : Int), (0 : Int), (0 : Int), (0 : Int), (0 : Int),
   (0 : Int)]
   else Prod.fst (refsX (decL decY (encL encY 1 code))))))))))
   100)])
   (AS.mk
   [(3, V.int IntKind.i64 (qF code)), (4, encL (encMsg 1) 223 (qL code)),
   (5, V.osl 32000384 (List.length (qR code))), (6, V.oref 448 0 0),
   (7, V.int IntKind.i64 (↑x : Int))]
   [(32000384, Blk.arr 1 (List.length (qR code)) (gL encI (qR code)) 100),
   (448, Blk.box [V.int IntKind.i64 (0 : Int), V.osl 65835072 (List.length (qP code))]),
   (65835072, Blk.arr 1 (List.length (qP code)) (gL encI (qP code)) 100)])) ∧
   (x ≤ List.length (qR code)))) ∧
   (∀ x : Nat,
   ((x ≤ List.length (qR code)) →
   (((decide ((↑x : Int) < (↑(List.length (qR code)) : Int)) = true) →
   ((((0 : Int) ≤ (↑x : Int)) ∧
   ((↑x : Int) < (↑(List.length (qR code)) : Int))) ∧
   ((Int.toNat (↑x : Int) < List.length (qR code)) ∧
   ((((0 : Int) ≤ List.getD (qR code) (Int.toNat (↑x : Int)) default) ∧
   (List.getD (qR code) (Int.toNat (↑x : Int)) default < (↑(List.length (qL code)) : Int))) ∧
   (∃ R : Nat × Nat → Prop, ((∃ x_1 : Nat × Nat, ((SLe
   (AS.mk
   [(3, V.int IntKind.i64 (qF code)), (4, encL (encMsg 1) 223 (qL code)),
   (5, V.osl 32000384 (List.length (qR code))), (6, V.oref 448 0 0),
   (7, V.int IntKind.i64 (↑x : Int)),
   (8,
   encL (encCert 1) 223
   (Msg.certs (List.getD (qL code) (Int.toNat (List.getD (qR code) (Int.toNat (↑x : Int)) default)) default))),
   (9, V.int IntKind.i64 (0 : Int))]
   [(32000384, Blk.arr 1 (List.length (qR code)) (gL encI (qR code)) 100),
   (448, Blk.box [V.int IntKind.i64 (0 : Int), V.osl 65835072 (List.length (qP code))]),
   (65835072, Blk.arr 1 (List.length (qP code)) (gL encI (qP code)) 100)])
   (AS.mk
   [(3, V.int IntKind.i64 (qF code)), (4, encL (encMsg 1) 223 (qL code)),
   (5, V.osl 32000384 (List.length (qR code))), (6, V.oref 448 0 0),
   (7, V.int IntKind.i64 (↑(Prod.fst x_1) : Int)),
   (8,
   encL (encCert 1) 223 (Msg.certs (atM (qL code) (List.getD (qR code) (Prod.fst x_1) default)))),
   (9, V.int IntKind.i64 (↑(Prod.snd x_1) : Int))]
   [(32000384, Blk.arr 1 (List.length (qR code)) (gL encI (qR code)) 100),
   (448, Blk.box [V.int IntKind.i64 (0 : Int), V.osl 65835072 (List.length (qP code))]),
   (65835072, Blk.arr 1 (List.length (qP code)) (gL encI (qP code)) 100)])) ∧
   (((Prod.fst x_1 < List.length (qR code)) ∧
   (Prod.snd x_1 ≤ List.length (Msg.certs (atM (qL code) (List.getD (qR code) (Prod.fst x_1) default))))) ∧
   (R x_1)))) ∧
   (∀ x_1 : Nat × Nat,
   (((Prod.fst x_1 < List.length (qR code)) ∧
   (Prod.snd x_1 ≤ List.length (Msg.certs (atM (qL code) (List.getD (qR code) (Prod.fst x_1) default))))) →
   ((R x_1) →
   (((decide
   ((↑(Prod.snd x_1) : Int) <
   (↑(List.length (Msg.certs (atM (qL code) (List.getD (qR code) (Prod.fst x_1) default)))) : Int)) =
   true) →
   ((((0 : Int) ≤ (↑(Prod.snd x_1) : Int)) ∧
   ((↑(Prod.snd x_1) : Int) <
   (↑(List.length (Msg.certs (atM (qL code) (List.getD (qR code) (Prod.fst x_1) default)))) : Int))) ∧
   (((decide
   (Cert.slot
   (List.getD (Msg.certs (atM (qL code) (List.getD (qR code) (Prod.fst x_1) default)))
   (Int.toNat (↑(Prod.snd x_1) : Int)) default) >
   (↑(List.length (qP code)) : Int)) =
   true) →
   (VLe (V.bool false) (V.bool true))) ∧
   ((decide
   (Cert.slot
   (List.getD (Msg.certs (atM (qL code) (List.getD (qR code) (Prod.fst x_1) default)))
   (Int.toNat (↑(Prod.snd x_1) : Int)) default) >
   (↑(List.length (qP code)) : Int)) =
   false) →
   ((inK IntKind.i64 ((↑(Prod.snd x_1) : Int) + (1 : Int))) ∧
   (∃ y : Nat × Nat, ((SLe
   (AS.mk
   [(3, V.int IntKind.i64 (qF code)), (4, encL (encMsg 1) 223 (qL code)),
   (5, V.osl 32000384 (List.length (qR code))), (6, V.oref 448 0 0),
   (7, V.int IntKind.i64 (↑(Prod.fst x_1) : Int)),
   (8,
   encL (encCert 1) 223 (Msg.certs (atM (qL code) (List.getD (qR code) (Prod.fst x_1) default)))),
   (9, V.int IntKind.i64 ((↑(Prod.snd x_1) : Int) + (1 : Int)))]
   [(32000384, Blk.arr 1 (List.length (qR code)) (gL encI (qR code)) 100),
   (448, Blk.box [V.int IntKind.i64 (0 : Int), V.osl 65835072 (List.length (qP code))]),
   (65835072, Blk.arr 1 (List.length (qP code)) (gL encI (qP code)) 100)])
   (AS.mk
   [(3, V.int IntKind.i64 (qF code)), (4, encL (encMsg 1) 223 (qL code)),
   (5, V.osl 32000384 (List.length (qR code))), (6, V.oref 448 0 0),
   (7, V.int IntKind.i64 (↑(Prod.fst y) : Int)),
   (8,
   encL (encCert 1) 223 (Msg.certs (atM (qL code) (List.getD (qR code) (Prod.fst y) default)))),
   (9, V.int IntKind.i64 (↑(Prod.snd y) : Int))]
   [(32000384, Blk.arr 1 (List.length (qR code)) (gL encI (qR code)) 100),
   (448, Blk.box [V.int IntKind.i64 (0 : Int), V.osl 65835072 (List.length (qP code))]),
   (65835072, Blk.arr 1 (List.length (qP code)) (gL encI (qP code)) 100)])) ∧
   (((Prod.fst y < List.length (qR code)) ∧
   (Prod.snd y ≤ List.length (Msg.certs (atM (qL code) (List.getD (qR code) (Prod.fst y) default))))) ∧
   ((R y) ∧
   (List.length (Msg.certs (atM (qL code) (List.getD (qR code) (Prod.fst y) default))) - Prod.snd y <
   List.length (Msg.certs (atM (qL code) (List.getD (qR code) (Prod.fst x_1) default))) - Prod.snd x_1)))))))))) ∧
   ((decide
   ((↑(Prod.snd x_1) : Int) <
   (↑(List.length (Msg.certs (atM (qL code) (List.getD (qR code) (Prod.fst x_1) default)))) : Int)) =
   false) →
   ((inK IntKind.i64 ((↑(Prod.fst x_1) : Int) + (1 : Int))) ∧
   (∃ y : Nat, ((SLe
   (AS.mk
   [(3, V.int IntKind.i64 (qF code)), (4, encL (encMsg 1) 223 (qL code)),
   (5, V.osl 32000384 (List.length (qR code))), (6, V.oref 448 0 0),
   (7, V.int IntKind.i64 ((↑(Prod.fst x_1) : Int) + (1 : Int)))]
   [(32000384, Blk.arr 1 (List.length (qR code)) (gL encI (qR code)) 100),
   (448, Blk.box [V.int IntKind.i64 (0 : Int), V.osl 65835072 (List.length (qP code))]),
   (65835072, Blk.arr 1 (List.length (qP code)) (gL encI (qP code)) 100)])
   (AS.mk
   [(3, V.int IntKind.i64 (qF code)), (4, encL (encMsg 1) 223 (qL code)),
   (5, V.osl 32000384 (List.length (qR code))), (6, V.oref 448 0 0),
   (7, V.int IntKind.i64 (↑y : Int))]
   [(32000384, Blk.arr 1 (List.length (qR code)) (gL encI (qR code)) 100),
   (448, Blk.box [V.int IntKind.i64 (0 : Int), V.osl 65835072 (List.length (qP code))]),
   (65835072, Blk.arr 1 (List.length (qP code)) (gL encI (qP code)) 100)])) ∧
   ((y ≤ List.length (qR code)) ∧
   (List.length (qR code) - y < List.length (qR code) - x)))))))))))))))) ∧
   ((decide ((↑x : Int) < (↑(List.length (qR code)) : Int)) = false) →
   ((∃ x_1 : Nat, ((SLe
   (AS.mk
   [(3, V.int IntKind.i64 (qF code)), (4, encL (encMsg 1) 223 (qL code)),
   (5, V.osl 32000384 (List.length (qR code))), (6, V.oref 448 0 0),
   (10, V.int IntKind.i64 (1 : Int))]
   [(32000384, Blk.arr 1 (List.length (qR code)) (gL encI (qR code)) 100),
   (448, Blk.box [V.int IntKind.i64 (0 : Int), V.osl 65835072 (List.length (qP code))]),
   (65835072, Blk.arr 1 (List.length (qP code)) (gL encI (qP code)) 100)])
   (AS.mk
   [(3, V.int IntKind.i64 (qF code)), (4, encL (encMsg 1) 223 (qL code)),
   (5, V.osl 32000384 (List.length (qR code))), (6, V.oref 448 0 0),
   (10, V.int IntKind.i64 ((↑x_1 : Int) + (1 : Int)))]
   [(32000384, Blk.arr 1 (List.length (qR code)) (gL encI (qR code)) 100),
   (448, Blk.box [V.int IntKind.i64 (0 : Int), V.osl 65835072 (List.length (qP code))]),
   (65835072, Blk.arr 1 (List.length (qP code)) (gL encI (qP code)) 100)])) ∧
   (x_1 ≤ List.length (qP code)))) ∧
   (∀ x_1 : Nat,
   ((x_1 ≤ List.length (qP code)) →
   (((decide ((↑x_1 : Int) + (1 : Int) ≤ (↑(List.length (qP code)) : Int)) = true) →
   ((inK IntKind.i64 ((↑x_1 : Int) + (1 : Int) - (1 : Int))) ∧
   ((((0 : Int) ≤ (↑x_1 : Int) + (1 : Int) - (1 : Int)) ∧
   ((↑x_1 : Int) + (1 : Int) - (1 : Int) < (↑(List.length (qP code)) : Int))) ∧
   ((Int.toNat ((↑x_1 : Int) + (1 : Int) - (1 : Int)) < List.length (qP code)) ∧
   (∃ R : Nat × Nat → Prop, ((∃ x_2 : Nat × Nat, ((SLe
   (AS.mk
   [(3, V.int IntKind.i64 (qF code)), (4, encL (encMsg 1) 223 (qL code)),
   (5, V.osl 32000384 (List.length (qR code))), (6, V.oref 448 0 0),
   (10, V.int IntKind.i64 ((↑x_1 : Int) + (1 : Int))), (11, V.int IntKind.i64 (-1 : Int)),
   (12,
   V.bool (List.getD (qP code) (Int.toNat ((↑x_1 : Int) + (1 : Int) - (1 : Int))) default == (0 : Int))),
   (13, V.int IntKind.i64 (0 : Int))]
   [(32000384, Blk.arr 1 (List.length (qR code)) (gL encI (qR code)) 100),
   (448, Blk.box [V.int IntKind.i64 (0 : Int), V.osl 65835072 (List.length (qP code))]),
   (65835072, Blk.arr 1 (List.length (qP code)) (gL encI (qP code)) 100)])
   (AS.mk
   [(3, V.int IntKind.i64 (qF code)), (4, encL (encMsg 1) 223 (qL code)),
   (5, V.osl 32000384 (List.length (qR code))), (6, V.oref 448 0 0),
   (10, V.int IntKind.i64 ((↑(Prod.fst x_2) : Int) + (1 : Int))),
   (11,
   V.int IntKind.i64
   (Prod.fst (bestOf (certsUpTo (qL code) (qR code) (Prod.snd x_2)) ((↑(Prod.fst x_2) : Int) + (1 : Int))))),
   (12, V.bool (List.getD (qP code) (Prod.fst x_2) default == (0 : Int))),
   (13, V.int IntKind.i64 (↑(Prod.snd x_2) : Int))]
   [(32000384, Blk.arr 1 (List.length (qR code)) (gL encI (qR code)) 100),
   (448, Blk.box [V.int IntKind.i64 (0 : Int), V.osl 65835072 (List.length (qP code))]),
   (65835072, Blk.arr 1 (List.length (qP code)) (gL encI (qP code)) 100)])) ∧
   (((Prod.fst x_2 < List.length (qP code)) ∧
   (Prod.snd x_2 ≤ List.length (qR code))) ∧
   (R x_2)))) ∧
   (∀ x_2 : Nat × Nat,
   (((Prod.fst x_2 < List.length (qP code)) ∧
   (Prod.snd x_2 ≤ List.length (qR code))) →
   ((R x_2) →
   (((decide ((↑(Prod.snd x_2) : Int) < (↑(List.length (qR code)) : Int)) = true) →
   ((((0 : Int) ≤ (↑(Prod.snd x_2) : Int)) ∧
   ((↑(Prod.snd x_2) : Int) < (↑(List.length (qR code)) : Int))) ∧
   ((Int.toNat (↑(Prod.snd x_2) : Int) < List.length (qR code)) ∧
   ((((0 : Int) ≤ List.getD (qR code) (Int.toNat (↑(Prod.snd x_2) : Int)) default) ∧
   (List.getD (qR code) (Int.toNat (↑(Prod.snd x_2) : Int)) default < (↑(List.length (qL code)) : Int))) ∧
   (∃ R_1 : Nat × Nat × Nat → Prop, ((∃ x_3 : Nat × Nat × Nat, ((SLe
   (AS.mk
   [(3, V.int IntKind.i64 (qF code)), (4, encL (encMsg 1) 223 (qL code)),
   (5, V.osl 32000384 (List.length (qR code))), (6, V.oref 448 0 0),
   (10, V.int IntKind.i64 ((↑(Prod.fst x_2) : Int) + (1 : Int))),
   (11,
   V.int IntKind.i64
   (Prod.fst (bestOf (certsUpTo (qL code) (qR code) (Prod.snd x_2)) ((↑(Prod.fst x_2) : Int) + (1 : Int))))),
   (12, V.bool (List.getD (qP code) (Prod.fst x_2) default == (0 : Int))),
   (13, V.int IntKind.i64 (↑(Prod.snd x_2) : Int)),
   (14,
   encL (encCert 1) 223
   (Msg.certs
   (List.getD (qL code) (Int.toNat (List.getD (qR code) (Int.toNat (↑(Prod.snd x_2) : Int)) default))
   default))),
   (15, V.int IntKind.i64 (0 : Int))]
   [(32000384, Blk.arr 1 (List.length (qR code)) (gL encI (qR code)) 100),
   (448, Blk.box [V.int IntKind.i64 (0 : Int), V.osl 65835072 (List.length (qP code))]),
   (65835072, Blk.arr 1 (List.length (qP code)) (gL encI (qP code)) 100)])
   (AS.mk
   [(3, V.int IntKind.i64 (qF code)), (4, encL (encMsg 1) 223 (qL code)),
   (5, V.osl 32000384 (List.length (qR code))), (6, V.oref 448 0 0),
   (10, V.int IntKind.i64 ((↑(Prod.fst x_3) : Int) + (1 : Int))),
   (11,
   V.int IntKind.i64
   (Prod.fst
   (bestOf (certsSeen (qL code) (qR code) (Prod.fst (Prod.snd x_3)) (Prod.snd (Prod.snd x_3)))
   ((↑(Prod.fst x_3) : Int) + (1 : Int))))),
   (12, V.bool (List.getD (qP code) (Prod.fst x_3) default == (0 : Int))),
   (13, V.int IntKind.i64 (↑(Prod.fst (Prod.snd x_3)) : Int)),
   (14,
   encL (encCert 1) 223
   (Msg.certs (atM (qL code) (List.getD (qR code) (Prod.fst (Prod.snd x_3)) default)))),
   (15, V.int IntKind.i64 (↑(Prod.snd (Prod.snd x_3)) : Int))]
   [(32000384, Blk.arr 1 (List.length (qR code)) (gL encI (qR code)) 100),
   (448, Blk.box [V.int IntKind.i64 (0 : Int), V.osl 65835072 (List.length (qP code))]),
   (65835072, Blk.arr 1 (List.length (qP code)) (gL encI (qP code)) 100)])) ∧
   (((Prod.fst x_3 < List.length (qP code)) ∧
   ((Prod.fst (Prod.snd x_3) < List.length (qR code)) ∧
   (Prod.snd (Prod.snd x_3) ≤
   List.length (Msg.certs (atM (qL code) (List.getD (qR code) (Prod.fst (Prod.snd x_3)) default)))))) ∧
   (R_1 x_3)))) ∧
   (∀ x_3 : Nat × Nat × Nat,
   (((Prod.fst x_3 < List.length (qP code)) ∧
   ((Prod.fst (Prod.snd x_3) < List.length (qR code)) ∧
   (Prod.snd (Prod.snd x_3) ≤
   List.length (Msg.certs (atM (qL code) (List.getD (qR code) (Prod.fst (Prod.snd x_3)) default)))))) →
   ((R_1 x_3) →
   (((decide
   ((↑(Prod.snd (Prod.snd x_3)) : Int) <
   (↑(List.length (Msg.certs (atM (qL code) (List.getD (qR code) (Prod.fst (Prod.snd x_3)) default)))) : Int)) =
   true) →
   ((((0 : Int) ≤ (↑(Prod.snd (Prod.snd x_3)) : Int)) ∧
   ((↑(Prod.snd (Prod.snd x_3)) : Int) <
   (↑(List.length (Msg.certs (atM (qL code) (List.getD (qR code) (Prod.fst (Prod.snd x_3)) default)))) : Int))) ∧
   ((tq (Cert.slot
   (List.getD (Msg.certs (atM (qL code) (List.getD (qR code) (Prod.fst (Prod.snd x_3)) default)))
   (Int.toNat (↑(Prod.snd (Prod.snd x_3)) : Int)) default) ==
   (↑(Prod.fst x_3) : Int) + (1 : Int))) ∧
   ((tq (Cert.slot
   (List.getD (Msg.certs (atM (qL code) (List.getD (qR code) (Prod.fst (Prod.snd x_3)) default)))
   (Int.toNat (↑(Prod.snd (Prod.snd x_3)) : Int)) default) ==
   (↑(Prod.fst x_3) : Int) + (1 : Int))) ∧
   ((((Cert.slot
   (List.getD (Msg.certs (atM (qL code) (List.getD (qR code) (Prod.fst (Prod.snd x_3)) default)))
   (Int.toNat (↑(Prod.snd (Prod.snd x_3)) : Int)) default) ==
   (↑(Prod.fst x_3) : Int) + (1 : Int)) =
   true) →
   (((0 : Int) ≤ (↑(Prod.snd (Prod.snd x_3)) : Int)) ∧
   ((↑(Prod.snd (Prod.snd x_3)) : Int) <
   (↑(List.length (Msg.certs (atM (qL code) (List.getD (qR code) (Prod.fst (Prod.snd x_3)) default)))) : Int)))) ∧
   ((tq (Cert.slot
   (List.getD (Msg.certs (atM (qL code) (List.getD (qR code) (Prod.fst (Prod.snd x_3)) default)))
   (Int.toNat (↑(Prod.snd (Prod.snd x_3)) : Int)) default) ==
   (↑(Prod.fst x_3) : Int) + (1 : Int))) ∧
   ((tq (Cert.slot
   (List.getD (Msg.certs (atM (qL code) (List.getD (qR code) (Prod.fst (Prod.snd x_3)) default)))
   (Int.toNat (↑(Prod.snd (Prod.snd x_3)) : Int)) default) ==
   (↑(Prod.fst x_3) : Int) + (1 : Int))) ∧
   ((tq (Cert.slot
   (List.getD (Msg.certs (atM (qL code) (List.getD (qR code) (Prod.fst (Prod.snd x_3)) default)))
   (Int.toNat (↑(Prod.snd (Prod.snd x_3)) : Int)) default) ==
   (↑(Prod.fst x_3) : Int) + (1 : Int))) ∧
   ((tq (Cert.slot
   (List.getD (Msg.certs (atM (qL code) (List.getD (qR code) (Prod.fst (Prod.snd x_3)) default)))
   (Int.toNat (↑(Prod.snd (Prod.snd x_3)) : Int)) default) ==
   (↑(Prod.fst x_3) : Int) + (1 : Int))) ∧
   (((true = true) →
   (((Cert.slot
   (List.getD (Msg.certs (atM (qL code) (List.getD (qR code) (Prod.fst (Prod.snd x_3)) default)))
   (Int.toNat (↑(Prod.snd (Prod.snd x_3)) : Int)) default) ==
   (↑(Prod.fst x_3) : Int) + (1 : Int)) =
   true) →
   ((Cert.slot
   (List.getD (Msg.certs (atM (qL code) (List.getD (qR code) (Prod.fst (Prod.snd x_3)) default)))
   (Int.toNat (↑(Prod.snd (Prod.snd x_3)) : Int)) default) ==
   (↑(Prod.fst x_3) : Int) + (1 : Int)) =
   true))) ∧
   (∀ b : Bool,
   ((b =
   bif
   Cert.slot
   (List.getD (Msg.certs (atM (qL code) (List.getD (qR code) (Prod.fst (Prod.snd x_3)) default)))
   (Int.toNat (↑(Prod.snd (Prod.snd x_3)) : Int)) default) ==
   (↑(Prod.fst x_3) : Int) + (1 : Int) then
   decide
   (Cert.view
   (List.getD (Msg.certs (atM (qL code) (List.getD (qR code) (Prod.fst (Prod.snd x_3)) default)))
   (Int.toNat (↑(Prod.snd (Prod.snd x_3)) : Int)) default) >
   Prod.fst
   (bestOf (certsSeen (qL code) (qR code) (Prod.fst (Prod.snd x_3)) (Prod.snd (Prod.snd x_3)))
   ((↑(Prod.fst x_3) : Int) + (1 : Int))))
   else false) →
   (((b = true) →
   ((((0 : Int) ≤ (↑(Prod.snd (Prod.snd x_3)) : Int)) ∧
   ((↑(Prod.snd (Prod.snd x_3)) : Int) <
   (↑(List.length (Msg.certs (atM (qL code) (List.getD (qR code) (Prod.fst (Prod.snd x_3)) default)))) : Int))) ∧
   ((inK IntKind.i64 ((↑(Prod.snd (Prod.snd x_3)) : Int) + (1 : Int))) ∧
   (∃ y : Nat × Nat × Nat, ((SLe
   (AS.mk
   [(3, V.int IntKind.i64 (qF code)), (4, encL (encMsg 1) 223 (qL code)),
   (5, V.osl 32000384 (List.length (qR code))), (6, V.oref 448 0 0),
   (10, V.int IntKind.i64 ((↑(Prod.fst x_3) : Int) + (1 : Int))),
   (11,
   V.int IntKind.i64
   (Cert.view
   (List.getD (Msg.certs (atM (qL code) (List.getD (qR code) (Prod.fst (Prod.snd x_3)) default)))
   (Int.toNat (↑(Prod.snd (Prod.snd x_3)) : Int)) default))),
   (12, V.bool (List.getD (qP code) (Prod.fst x_3) default == (0 : Int))),
   (13, V.int IntKind.i64 (↑(Prod.fst (Prod.snd x_3)) : Int)),
   (14,
   encL (encCert 1) 223
   (Msg.certs (atM (qL code) (List.getD (qR code) (Prod.fst (Prod.snd x_3)) default)))),
   (15, V.int IntKind.i64 ((↑(Prod.snd (Prod.snd x_3)) : Int) + (1 : Int)))]
   [(32000384, Blk.arr 1 (List.length (qR code)) (gL encI (qR code)) 100),
   (448, Blk.box [V.int IntKind.i64 (0 : Int), V.osl 65835072 (List.length (qP code))]),
   (65835072, Blk.arr 1 (List.length (qP code)) (gL encI (qP code)) 100)])
   (AS.mk
   [(3, V.int IntKind.i64 (qF code)), (4, encL (encMsg 1) 223 (qL code)),
   (5, V.osl 32000384 (List.length (qR code))), (6, V.oref 448 0 0),
   (10, V.int IntKind.i64 ((↑(Prod.fst y) : Int) + (1 : Int))),
   (11,
   V.int IntKind.i64
   (Prod.fst
   (bestOf (certsSeen (qL code) (qR code) (Prod.fst (Prod.snd y)) (Prod.snd (Prod.snd y)))
   ((↑(Prod.fst y) : Int) + (1 : Int))))),
   (12, V.bool (List.getD (qP code) (Prod.fst y) default == (0 : Int))),
   (13, V.int IntKind.i64 (↑(Prod.fst (Prod.snd y)) : Int)),
   (14,
   encL (encCert 1) 223
   (Msg.certs (atM (qL code) (List.getD (qR code) (Prod.fst (Prod.snd y)) default)))),
   (15, V.int IntKind.i64 (↑(Prod.snd (Prod.snd y)) : Int))]
   [(32000384, Blk.arr 1 (List.length (qR code)) (gL encI (qR code)) 100),
   (448, Blk.box [V.int IntKind.i64 (0 : Int), V.osl 65835072 (List.length (qP code))]),
   (65835072, Blk.arr 1 (List.length (qP code)) (gL encI (qP code)) 100)])) ∧
   (((Prod.fst y < List.length (qP code)) ∧
   ((Prod.fst (Prod.snd y) < List.length (qR code)) ∧
   (Prod.snd (Prod.snd y) ≤ List.length (Msg.certs (atM (qL code) (List.getD (qR code) (Prod.fst (Prod.snd y)) default)))))) ∧
   ((R_1 y) ∧
   (List.length (Msg.certs (atM (qL code) (List.getD (qR code) (Prod.fst (Prod.snd y)) default))) - Prod.snd (Prod.snd y) <
   List.length (Msg.certs (atM (qL code) (List.getD (qR code) (Prod.fst (Prod.snd x_3)) default))) -
   Prod.snd (Prod.snd x_3))))))))) ∧
   ((b = false) →
   ((inK IntKind.i64 ((↑(Prod.snd (Prod.snd x_3)) : Int) + (1 : Int))) ∧
   (∃ y : Nat × Nat × Nat, ((SLe
   (AS.mk
   [(3, V.int IntKind.i64 (qF code)), (4, encL (encMsg 1) 223 (qL code)),
   (5, V.osl 32000384 (List.length (qR code))), (6, V.oref 448 0 0),
   (10, V.int IntKind.i64 ((↑(Prod.fst x_3) : Int) + (1 : Int))),
   (11,
   V.int IntKind.i64
   (Prod.fst
   (bestOf (certsSeen (qL code) (qR code) (Prod.fst (Prod.snd x_3)) (Prod.snd (Prod.snd x_3)))
   ((↑(Prod.fst x_3) : Int) + (1 : Int))))),
   (12, V.bool (List.getD (qP code) (Prod.fst x_3) default == (0 : Int))),
   (13, V.int IntKind.i64 (↑(Prod.fst (Prod.snd x_3)) : Int)),
   (14,
   encL (encCert 1) 223
   (Msg.certs (atM (qL code) (List.getD (qR code) (Prod.fst (Prod.snd x_3)) default)))),
   (15, V.int IntKind.i64 ((↑(Prod.snd (Prod.snd x_3)) : Int) + (1 : Int)))]
   [(32000384, Blk.arr 1 (List.length (qR code)) (gL encI (qR code)) 100),
   (448, Blk.box [V.int IntKind.i64 (0 : Int), V.osl 65835072 (List.length (qP code))]),
   (65835072, Blk.arr 1 (List.length (qP code)) (gL encI (qP code)) 100)])
   (AS.mk
   [(3, V.int IntKind.i64 (qF code)), (4, encL (encMsg 1) 223 (qL code)),
   (5, V.osl 32000384 (List.length (qR code))), (6, V.oref 448 0 0),
   (10, V.int IntKind.i64 ((↑(Prod.fst y) : Int) + (1 : Int))),
   (11,
   V.int IntKind.i64
   (Prod.fst
   (bestOf (certsSeen (qL code) (qR code) (Prod.fst (Prod.snd y)) (Prod.snd (Prod.snd y)))
   ((↑(Prod.fst y) : Int) + (1 : Int))))),
   (12, V.bool (List.getD (qP code) (Prod.fst y) default == (0 : Int))),
   (13, V.int IntKind.i64 (↑(Prod.fst (Prod.snd y)) : Int)),
   (14,
   encL (encCert 1) 223
   (Msg.certs (atM (qL code) (List.getD (qR code) (Prod.fst (Prod.snd y)) default)))),
   (15, V.int IntKind.i64 (↑(Prod.snd (Prod.snd y)) : Int))]
   [(32000384, Blk.arr 1 (List.length (qR code)) (gL encI (qR code)) 100),
   (448, Blk.box [V.int IntKind.i64 (0 : Int), V.osl 65835072 (List.length (qP code))]),
   (65835072, Blk.arr 1 (List.length (qP code)) (gL encI (qP code)) 100)])) ∧
   (((Prod.fst y < List.length (qP code)) ∧
   ((Prod.fst (Prod.snd y) < List.length (qR code)) ∧
   (Prod.snd (Prod.snd y) ≤ List.length (Msg.certs (atM (qL code) (List.getD (qR code) (Prod.fst (Prod.snd y)) default)))))) ∧
   ((R_1 y) ∧
   (List.length (Msg.certs (atM (qL code) (List.getD (qR code) (Prod.fst (Prod.snd y)) default))) - Prod.snd (Prod.snd y) <
   List.length (Msg.certs (atM (qL code) (List.getD (qR code) (Prod.fst (Prod.snd x_3)) default))) -
   Prod.snd (Prod.snd x_3))))))))))))))))))))) ∧
   ((decide
   ((↑(Prod.snd (Prod.snd x_3)) : Int) <
   (↑(List.length (Msg.certs (atM (qL code) (List.getD (qR code) (Prod.fst (Prod.snd x_3)) default)))) : Int)) =
   false) →
   ((inK IntKind.i64 ((↑(Prod.fst (Prod.snd x_3)) : Int) + (1 : Int))) ∧
   (∃ y : Nat × Nat, ((SLe
   (AS.mk
   [(3, V.int IntKind.i64 (qF code)), (4, encL (encMsg 1) 223 (qL code)),
   (5, V.osl 32000384 (List.length (qR code))), (6, V.oref 448 0 0),
   (10, V.int IntKind.i64 ((↑(Prod.fst x_3) : Int) + (1 : Int))),
   (11,
   V.int IntKind.i64
   (Prod.fst
   (bestOf (certsSeen (qL code) (qR code) (Prod.fst (Prod.snd x_3)) (Prod.snd (Prod.snd x_3)))
   ((↑(Prod.fst x_3) : Int) + (1 : Int))))),
   (12, V.bool (List.getD (qP code) (Prod.fst x_3) default == (0 : Int))),
   (13, V.int IntKind.i64 ((↑(Prod.fst (Prod.snd x_3)) : Int) + (1 : Int)))]
   [(32000384, Blk.arr 1 (List.length (qR code)) (gL encI (qR code)) 100),
   (448, Blk.box [V.int IntKind.i64 (0 : Int), V.osl 65835072 (List.length (qP code))]),
   (65835072, Blk.arr 1 (List.length (qP code)) (gL encI (qP code)) 100)])
   (AS.mk
   [(3, V.int IntKind.i64 (qF code)), (4, encL (encMsg 1) 223 (qL code)),
   (5, V.osl 32000384 (List.length (qR code))), (6, V.oref 448 0 0),
   (10, V.int IntKind.i64 ((↑(Prod.fst y) : Int) + (1 : Int))),
   (11,
   V.int IntKind.i64
   (Prod.fst (bestOf (certsUpTo (qL code) (qR code) (Prod.snd y)) ((↑(Prod.fst y) : Int) + (1 : Int))))),
   (12, V.bool (List.getD (qP code) (Prod.fst y) default == (0 : Int))),
   (13, V.int IntKind.i64 (↑(Prod.snd y) : Int))]
   [(32000384, Blk.arr 1 (List.length (qR code)) (gL encI (qR code)) 100),
   (448, Blk.box [V.int IntKind.i64 (0 : Int), V.osl 65835072 (List.length (qP code))]),
   (65835072, Blk.arr 1 (List.length (qP code)) (gL encI (qP code)) 100)])) ∧
   (((Prod.fst y < List.length (qP code)) ∧
   (Prod.snd y ≤ List.length (qR code))) ∧
   ((R y) ∧
   (List.length (qR code) - Prod.snd y < List.length (qR code) - Prod.snd x_2))))))))))))))))) ∧
   ((decide ((↑(Prod.snd x_2) : Int) < (↑(List.length (qR code)) : Int)) = false) →
   (∃ R_1 : Nat × Nat → Prop, ((∃ x_3 : Nat × Nat, ((SLe
   (AS.mk
   [(3, V.int IntKind.i64 (qF code)), (4, encL (encMsg 1) 223 (qL code)),
   (5, V.osl 32000384 (List.length (qR code))), (6, V.oref 448 0 0),
   (10, V.int IntKind.i64 ((↑(Prod.fst x_2) : Int) + (1 : Int))),
   (11,
   V.int IntKind.i64
   (Prod.fst (bestOf (certsUpTo (qL code) (qR code) (Prod.snd x_2)) ((↑(Prod.fst x_2) : Int) + (1 : Int))))),
   (12, V.bool (List.getD (qP code) (Prod.fst x_2) default == (0 : Int))),
   (16, V.int IntKind.i64 (0 : Int))]
   [(32000384, Blk.arr 1 (List.length (qR code)) (gL encI (qR code)) 100),
   (448, Blk.box [V.int IntKind.i64 (0 : Int), V.osl 65835072 (List.length (qP code))]),
   (65835072, Blk.arr 1 (List.length (qP code)) (gL encI (qP code)) 100)])
   (AS.mk
   [(3, V.int IntKind.i64 (qF code)), (4, encL (encMsg 1) 223 (qL code)),
   (5, V.osl 32000384 (List.length (qR code))), (6, V.oref 448 0 0),
   (10, V.int IntKind.i64 ((↑(Prod.fst x_3) : Int) + (1 : Int))),
   (11,
   V.int IntKind.i64 (Prod.fst (bestOf (certsAll (qL code) (qR code)) ((↑(Prod.fst x_3) : Int) + (1 : Int))))),
   (12,
   V.bool
   (decide
   (fndP (certsAll (qL code) (qR code)) (certsUpTo (qL code) (qR code) (Prod.snd x_3))
   ((↑(Prod.fst x_3) : Int) + (1 : Int))))),
   (16, V.int IntKind.i64 (↑(Prod.snd x_3) : Int))]
   [(32000384, Blk.arr 1 (List.length (qR code)) (gL encI (qR code)) 100),
   (448, Blk.box [V.int IntKind.i64 (0 : Int), V.osl 65835072 (List.length (qP code))]),
   (65835072, Blk.arr 1 (List.length (qP code)) (gL encI (qP code)) 100)])) ∧
   (((Prod.fst x_3 < List.length (qP code)) ∧
   (Prod.snd x_3 ≤ List.length (qR code))) ∧
   (R_1 x_3)))) ∧
   (∀ x_3 : Nat × Nat,
   (((Prod.fst x_3 < List.length (qP code)) ∧
   (Prod.snd x_3 ≤ List.length (qR code))) →
   ((R_1 x_3) →
   (((decide ((↑(Prod.snd x_3) : Int) < (↑(List.length (qR code)) : Int)) = true) →
   ((((0 : Int) ≤ (↑(Prod.snd x_3) : Int)) ∧
   ((↑(Prod.snd x_3) : Int) < (↑(List.length (qR code)) : Int))) ∧
   ((Int.toNat (↑(Prod.snd x_3) : Int) < List.length (qR code)) ∧
   ((((0 : Int) ≤ List.getD (qR code) (Int.toNat (↑(Prod.snd x_3) : Int)) default) ∧
   (List.getD (qR code) (Int.toNat (↑(Prod.snd x_3) : Int)) default < (↑(List.length (qL code)) : Int))) ∧
   (∃ R_2 : Nat × Nat × Nat → Prop, ((∃ x_4 : Nat × Nat × Nat, ((SLe
   (AS.mk
   [(3, V.int IntKind.i64 (qF code)), (4, encL (encMsg 1) 223 (qL code)),
   (5, V.osl 32000384 (List.length (qR code))), (6, V.oref 448 0 0),
   (10, V.int IntKind.i64 ((↑(Prod.fst x_3) : Int) + (1 : Int))),
   (11,
   V.int IntKind.i64 (Prod.fst (bestOf (certsAll (qL code) (qR code)) ((↑(Prod.fst x_3) : Int) + (1 : Int))))),
   (12,
   V.bool
   (decide
   (fndP (certsAll (qL code) (qR code)) (certsUpTo (qL code) (qR code) (Prod.snd x_3))
   ((↑(Prod.fst x_3) : Int) + (1 : Int))))),
   (16, V.int IntKind.i64 (↑(Prod.snd x_3) : Int)),
   (17,
   encL (encCert 1) 223
   (Msg.certs
   (List.getD (qL code) (Int.toNat (List.getD (qR code) (Int.toNat (↑(Prod.snd x_3) : Int)) default))
   default))),
   (18, V.int IntKind.i64 (0 : Int))]
   [(32000384, Blk.arr 1 (List.length (qR code)) (gL encI (qR code)) 100),
   (448, Blk.box [V.int IntKind.i64 (0 : Int), V.osl 65835072 (List.length (qP code))]),
   (65835072, Blk.arr 1 (List.length (qP code)) (gL encI (qP code)) 100)])
   (AS.mk
   [(3, V.int IntKind.i64 (qF code)), (4, encL (encMsg 1) 223 (qL code)),
   (5, V.osl 32000384 (List.length (qR code))), (6, V.oref 448 0 0),
   (10, V.int IntKind.i64 ((↑(Prod.fst x_4) : Int) + (1 : Int))),
   (11,
   V.int IntKind.i64 (Prod.fst (bestOf (certsAll (qL code) (qR code)) ((↑(Prod.fst x_4) : Int) + (1 : Int))))),
   (12,
   V.bool
   (decide
   (fndP (certsAll (qL code) (qR code))
   (certsSeen (qL code) (qR code) (Prod.fst (Prod.snd x_4)) (Prod.snd (Prod.snd x_4)))
   ((↑(Prod.fst x_4) : Int) + (1 : Int))))),
   (16, V.int IntKind.i64 (↑(Prod.fst (Prod.snd x_4)) : Int)),
   (17,
   encL (encCert 1) 223
   (Msg.certs (atM (qL code) (List.getD (qR code) (Prod.fst (Prod.snd x_4)) default)))),
   (18, V.int IntKind.i64 (↑(Prod.snd (Prod.snd x_4)) : Int))]
   [(32000384, Blk.arr 1 (List.length (qR code)) (gL encI (qR code)) 100),
   (448, Blk.box [V.int IntKind.i64 (0 : Int), V.osl 65835072 (List.length (qP code))]),
   (65835072, Blk.arr 1 (List.length (qP code)) (gL encI (qP code)) 100)])) ∧
   (((Prod.fst x_4 < List.length (qP code)) ∧
   ((Prod.fst (Prod.snd x_4) < List.length (qR code)) ∧
   (Prod.snd (Prod.snd x_4) ≤
   List.length (Msg.certs (atM (qL code) (List.getD (qR code) (Prod.fst (Prod.snd x_4)) default)))))) ∧
   (R_2 x_4)))) ∧
   (∀ x_4 : Nat × Nat × Nat,
   (((Prod.fst x_4 < List.length (qP code)) ∧
   ((Prod.fst (Prod.snd x_4) < List.length (qR code)) ∧
   (Prod.snd (Prod.snd x_4) ≤
   List.length (Msg.certs (atM (qL code) (List.getD (qR code) (Prod.fst (Prod.snd x_4)) default)))))) →
   ((R_2 x_4) →
   (((decide
   ((↑(Prod.snd (Prod.snd x_4)) : Int) <
   (↑(List.length (Msg.certs (atM (qL code) (List.getD (qR code) (Prod.fst (Prod.snd x_4)) default)))) : Int)) =
   true) →
   ((tq (!decide
   (fndP (certsAll (qL code) (qR code))
   (certsSeen (qL code) (qR code) (Prod.fst (Prod.snd x_4)) (Prod.snd (Prod.snd x_4)))
   ((↑(Prod.fst x_4) : Int) + (1 : Int))))) ∧
   ((tq (!decide
   (fndP (certsAll (qL code) (qR code))
   (certsSeen (qL code) (qR code) (Prod.fst (Prod.snd x_4)) (Prod.snd (Prod.snd x_4)))
   ((↑(Prod.fst x_4) : Int) + (1 : Int))))) ∧
   ((((!decide
   (fndP (certsAll (qL code) (qR code))
   (certsSeen (qL code) (qR code) (Prod.fst (Prod.snd x_4)) (Prod.snd (Prod.snd x_4)))
   ((↑(Prod.fst x_4) : Int) + (1 : Int)))) =
   true) →
   (((0 : Int) ≤ (↑(Prod.snd (Prod.snd x_4)) : Int)) ∧
   ((↑(Prod.snd (Prod.snd x_4)) : Int) <
   (↑(List.length (Msg.certs (atM (qL code) (List.getD (qR code) (Prod.fst (Prod.snd x_4)) default)))) : Int)))) ∧
   ((tq (!decide
   (fndP (certsAll (qL code) (qR code))
   (certsSeen (qL code) (qR code) (Prod.fst (Prod.snd x_4)) (Prod.snd (Prod.snd x_4)))
   ((↑(Prod.fst x_4) : Int) + (1 : Int))))) ∧
   ((tq (!decide
   (fndP (certsAll (qL code) (qR code))
   (certsSeen (qL code) (qR code) (Prod.fst (Prod.snd x_4)) (Prod.snd (Prod.snd x_4)))
   ((↑(Prod.fst x_4) : Int) + (1 : Int))))) ∧
   ((tq (!decide
   (fndP (certsAll (qL code) (qR code))
   (certsSeen (qL code) (qR code) (Prod.fst (Prod.snd x_4)) (Prod.snd (Prod.snd x_4)))
   ((↑(Prod.fst x_4) : Int) + (1 : Int))))) ∧
   ((tq (!decide
   (fndP (certsAll (qL code) (qR code))
   (certsSeen (qL code) (qR code) (Prod.fst (Prod.snd x_4)) (Prod.snd (Prod.snd x_4)))
   ((↑(Prod.fst x_4) : Int) + (1 : Int))))) ∧
   ((tq (!decide
   (fndP (certsAll (qL code) (qR code))
   (certsSeen (qL code) (qR code) (Prod.fst (Prod.snd x_4)) (Prod.snd (Prod.snd x_4)))
   ((↑(Prod.fst x_4) : Int) + (1 : Int))))) ∧
   ((tq (!decide
   (fndP (certsAll (qL code) (qR code))
   (certsSeen (qL code) (qR code) (Prod.fst (Prod.snd x_4)) (Prod.snd (Prod.snd x_4)))
   ((↑(Prod.fst x_4) : Int) + (1 : Int))) &&
   Cert.slot
   (List.getD (Msg.certs (atM (qL code) (List.getD (qR code) (Prod.fst (Prod.snd x_4)) default)))
   (Int.toNat (↑(Prod.snd (Prod.snd x_4)) : Int)) default) ==
   (↑(Prod.fst x_4) : Int) + (1 : Int))) ∧
   ((tq (!decide
   (fndP (certsAll (qL code) (qR code))
   (certsSeen (qL code) (qR code) (Prod.fst (Prod.snd x_4)) (Prod.snd (Prod.snd x_4)))
   ((↑(Prod.fst x_4) : Int) + (1 : Int))) &&
   Cert.slot
   (List.getD (Msg.certs (atM (qL code) (List.getD (qR code) (Prod.fst (Prod.snd x_4)) default)))
   (Int.toNat (↑(Prod.snd (Prod.snd x_4)) : Int)) default) ==
   (↑(Prod.fst x_4) : Int) + (1 : Int))) ∧
   ((((!decide
   (fndP (certsAll (qL code) (qR code))
   (certsSeen (qL code) (qR code) (Prod.fst (Prod.snd x_4)) (Prod.snd (Prod.snd x_4)))
   ((↑(Prod.fst x_4) : Int) + (1 : Int))) &&
   Cert.slot
   (List.getD (Msg.certs (atM (qL code) (List.getD (qR code) (Prod.fst (Prod.snd x_4)) default)))
   (Int.toNat (↑(Prod.snd (Prod.snd x_4)) : Int)) default) ==
   (↑(Prod.fst x_4) : Int) + (1 : Int)) =
   true) →
   (((0 : Int) ≤ (↑(Prod.snd (Prod.snd x_4)) : Int)) ∧
   ((↑(Prod.snd (Prod.snd x_4)) : Int) <
   (↑(List.length (Msg.certs (atM (qL code) (List.getD (qR code) (Prod.fst (Prod.snd x_4)) default)))) : Int)))) ∧
   ((tq (!decide
   (fndP (certsAll (qL code) (qR code))
   (certsSeen (qL code) (qR code) (Prod.fst (Prod.snd x_4)) (Prod.snd (Prod.snd x_4)))
   ((↑(Prod.fst x_4) : Int) + (1 : Int))) &&
   Cert.slot
   (List.getD (Msg.certs (atM (qL code) (List.getD (qR code) (Prod.fst (Prod.snd x_4)) default)))
   (Int.toNat (↑(Prod.snd (Prod.snd x_4)) : Int)) default) ==
   (↑(Prod.fst x_4) : Int) + (1 : Int))) ∧
   ((tq (!decide
   (fndP (certsAll (qL code) (qR code))
   (certsSeen (qL code) (qR code) (Prod.fst (Prod.snd x_4)) (Prod.snd (Prod.snd x_4)))
   ((↑(Prod.fst x_4) : Int) + (1 : Int))) &&
   Cert.slot
   (List.getD (Msg.certs (atM (qL code) (List.getD (qR code) (Prod.fst (Prod.snd x_4)) default)))
   (Int.toNat (↑(Prod.snd (Prod.snd x_4)) : Int)) default) ==
   (↑(Prod.fst x_4) : Int) + (1 : Int))) ∧
   ((tq (!decide
   (fndP (certsAll (qL code) (qR code))
   (certsSeen (qL code) (qR code) (Prod.fst (Prod.snd x_4)) (Prod.snd (Prod.snd x_4)))
   ((↑(Prod.fst x_4) : Int) + (1 : Int))) &&
   Cert.slot
   (List.getD (Msg.certs (atM (qL code) (List.getD (qR code) (Prod.fst (Prod.snd x_4)) default)))
   (Int.toNat (↑(Prod.snd (Prod.snd x_4)) : Int)) default) ==
   (↑(Prod.fst x_4) : Int) + (1 : Int))) ∧
   ((tq (!decide
   (fndP (certsAll (qL code) (qR code))
   (certsSeen (qL code) (qR code) (Prod.fst (Prod.snd x_4)) (Prod.snd (Prod.snd x_4)))
   ((↑(Prod.fst x_4) : Int) + (1 : Int))) &&
   Cert.slot
   (List.getD (Msg.certs (atM (qL code) (List.getD (qR code) (Prod.fst (Prod.snd x_4)) default)))
   (Int.toNat (↑(Prod.snd (Prod.snd x_4)) : Int)) default) ==
   (↑(Prod.fst x_4) : Int) + (1 : Int))) ∧
   ((tq (!decide
   (fndP (certsAll (qL code) (qR code))
   (certsSeen (qL code) (qR code) (Prod.fst (Prod.snd x_4)) (Prod.snd (Prod.snd x_4)))
   ((↑(Prod.fst x_4) : Int) + (1 : Int))))) ∧
   ((((!decide
   (fndP (certsAll (qL code) (qR code))
   (certsSeen (qL code) (qR code) (Prod.fst (Prod.snd x_4)) (Prod.snd (Prod.snd x_4)))
   ((↑(Prod.fst x_4) : Int) + (1 : Int)))) =
   true) →
   (((!decide
   (fndP (certsAll (qL code) (qR code))
   (certsSeen (qL code) (qR code) (Prod.fst (Prod.snd x_4)) (Prod.snd (Prod.snd x_4)))
   ((↑(Prod.fst x_4) : Int) + (1 : Int)))) =
   true) →
   (((Cert.slot
   (List.getD (Msg.certs (atM (qL code) (List.getD (qR code) (Prod.fst (Prod.snd x_4)) default)))
   (Int.toNat (↑(Prod.snd (Prod.snd x_4)) : Int)) default) ==
   (↑(Prod.fst x_4) : Int) + (1 : Int)) =
   true) →
   ((!decide
   (fndP (certsAll (qL code) (qR code))
   (certsSeen (qL code) (qR code) (Prod.fst (Prod.snd x_4)) (Prod.snd (Prod.snd x_4)))
   ((↑(Prod.fst x_4) : Int) + (1 : Int))) &&
   Cert.slot
   (List.getD (Msg.certs (atM (qL code) (List.getD (qR code) (Prod.fst (Prod.snd x_4)) default)))
   (Int.toNat (↑(Prod.snd (Prod.snd x_4)) : Int)) default) ==
   (↑(Prod.fst x_4) : Int) + (1 : Int)) =
   true)))) ∧
   (∀ b : Bool,
   ((b =
   bif
   Cert.slot
   (List.getD (Msg.certs (atM (qL code) (List.getD (qR code) (Prod.fst (Prod.snd x_4)) default)))
   (Int.toNat (↑(Prod.snd (Prod.snd x_4)) : Int)) default) ==
   (↑(Prod.fst x_4) : Int) + (1 : Int) then
   Cert.view
   (List.getD (Msg.certs (atM (qL code) (List.getD (qR code) (Prod.fst (Prod.snd x_4)) default)))
   (Int.toNat (↑(Prod.snd (Prod.snd x_4)) : Int)) default) ==
   Prod.fst (bestOf (certsAll (qL code) (qR code)) ((↑(Prod.fst x_4) : Int) + (1 : Int)))
   else false) →
   ((tq (!decide
   (fndP (certsAll (qL code) (qR code))
   (certsSeen (qL code) (qR code) (Prod.fst (Prod.snd x_4)) (Prod.snd (Prod.snd x_4)))
   ((↑(Prod.fst x_4) : Int) + (1 : Int))))) ∧
   ((tq (!decide
   (fndP (certsAll (qL code) (qR code))
   (certsSeen (qL code) (qR code) (Prod.fst (Prod.snd x_4)) (Prod.snd (Prod.snd x_4)))
   ((↑(Prod.fst x_4) : Int) + (1 : Int))) &&
   b)) ∧
   ((tq (!decide
   (fndP (certsAll (qL code) (qR code))
   (certsSeen (qL code) (qR code) (Prod.fst (Prod.snd x_4)) (Prod.snd (Prod.snd x_4)))
   ((↑(Prod.fst x_4) : Int) + (1 : Int))) &&
   b)) ∧
   ((((!decide
   (fndP (certsAll (qL code) (qR code))
   (certsSeen (qL code) (qR code) (Prod.fst (Prod.snd x_4)) (Prod.snd (Prod.snd x_4)))
   ((↑(Prod.fst x_4) : Int) + (1 : Int))) &&
   b) =
   true) →
   (((0 : Int) ≤ (↑(Prod.snd (Prod.snd x_4)) : Int)) ∧
   ((↑(Prod.snd (Prod.snd x_4)) : Int) <
   (↑(List.length (Msg.certs (atM (qL code) (List.getD (qR code) (Prod.fst (Prod.snd x_4)) default)))) : Int)))) ∧
   ((tq (!decide
   (fndP (certsAll (qL code) (qR code))
   (certsSeen (qL code) (qR code) (Prod.fst (Prod.snd x_4)) (Prod.snd (Prod.snd x_4)))
   ((↑(Prod.fst x_4) : Int) + (1 : Int))) &&
   b)) ∧
   ((tq (!decide
   (fndP (certsAll (qL code) (qR code))
   (certsSeen (qL code) (qR code) (Prod.fst (Prod.snd x_4)) (Prod.snd (Prod.snd x_4)))
   ((↑(Prod.fst x_4) : Int) + (1 : Int))) &&
   b)) ∧
   ((tq (!decide
   (fndP (certsAll (qL code) (qR code))
   (certsSeen (qL code) (qR code) (Prod.fst (Prod.snd x_4)) (Prod.snd (Prod.snd x_4)))
   ((↑(Prod.fst x_4) : Int) + (1 : Int))) &&
   b)) ∧
   ((tq (!decide
   (fndP (certsAll (qL code) (qR code))
   (certsSeen (qL code) (qR code) (Prod.fst (Prod.snd x_4)) (Prod.snd (Prod.snd x_4)))
   ((↑(Prod.fst x_4) : Int) + (1 : Int))) &&
   b)) ∧
   ((((!decide
   (fndP (certsAll (qL code) (qR code))
   (certsSeen (qL code) (qR code) (Prod.fst (Prod.snd x_4)) (Prod.snd (Prod.snd x_4)))
   ((↑(Prod.fst x_4) : Int) + (1 : Int))) &&
   b) =
   true) →
   (inK IntKind.i64 ((↑(Prod.fst x_4) : Int) + (1 : Int) - (1 : Int)))) ∧
   ((tq (!decide
   (fndP (certsAll (qL code) (qR code))
   (certsSeen (qL code) (qR code) (Prod.fst (Prod.snd x_4)) (Prod.snd (Prod.snd x_4)))
   ((↑(Prod.fst x_4) : Int) + (1 : Int))) &&
   b)) ∧
   ((tq (!decide
   (fndP (certsAll (qL code) (qR code))
   (certsSeen (qL code) (qR code) (Prod.fst (Prod.snd x_4)) (Prod.snd (Prod.snd x_4)))
   ((↑(Prod.fst x_4) : Int) + (1 : Int))) &&
   b)) ∧
   ((((!decide
   (fndP (certsAll (qL code) (qR code))
   (certsSeen (qL code) (qR code) (Prod.fst (Prod.snd x_4)) (Prod.snd (Prod.snd x_4)))
   ((↑(Prod.fst x_4) : Int) + (1 : Int))) &&
   b) =
   true) →
   (((0 : Int) ≤ (↑(Prod.fst x_4) : Int) + (1 : Int) - (1 : Int)) ∧
   ((↑(Prod.fst x_4) : Int) + (1 : Int) - (1 : Int) < (↑(List.length (qP code)) : Int)))) ∧
   ((tq (!decide
   (fndP (certsAll (qL code) (qR code))
   (certsSeen (qL code) (qR code) (Prod.fst (Prod.snd x_4)) (Prod.snd (Prod.snd x_4)))
   ((↑(Prod.fst x_4) : Int) + (1 : Int))) &&
   b)) ∧
   ((((!decide
   (fndP (certsAll (qL code) (qR code))
   (certsSeen (qL code) (qR code) (Prod.fst (Prod.snd x_4)) (Prod.snd (Prod.snd x_4)))
   ((↑(Prod.fst x_4) : Int) + (1 : Int))) &&
   b) =
   true) →
   (Int.toNat ((↑(Prod.fst x_4) : Int) + (1 : Int) - (1 : Int)) < List.length (qP code))) ∧
   ((tq (!decide
   (fndP (certsAll (qL code) (qR code))
   (certsSeen (qL code) (qR code) (Prod.fst (Prod.snd x_4)) (Prod.snd (Prod.snd x_4)))
   ((↑(Prod.fst x_4) : Int) + (1 : Int))) &&
   b)) ∧
   ((tq (!decide
   (fndP (certsAll (qL code) (qR code))
   (certsSeen (qL code) (qR code) (Prod.fst (Prod.snd x_4)) (Prod.snd (Prod.snd x_4)))
   ((↑(Prod.fst x_4) : Int) + (1 : Int))) &&
   b)) ∧
   ((tq (!decide
   (fndP (certsAll (qL code) (qR code))
   (certsSeen (qL code) (qR code) (Prod.fst (Prod.snd x_4)) (Prod.snd (Prod.snd x_4)))
   ((↑(Prod.fst x_4) : Int) + (1 : Int))))) ∧
   ((((!decide
   (fndP (certsAll (qL code) (qR code))
   (certsSeen (qL code) (qR code) (Prod.fst (Prod.snd x_4)) (Prod.snd (Prod.snd x_4)))
   ((↑(Prod.fst x_4) : Int) + (1 : Int)))) =
   true) →
   (((!decide
   (fndP (certsAll (qL code) (qR code))
   (certsSeen (qL code) (qR code) (Prod.fst (Prod.snd x_4)) (Prod.snd (Prod.snd x_4)))
   ((↑(Prod.fst x_4) : Int) + (1 : Int)))) =
   true) →
   ((b = true) →
   ((!decide
   (fndP (certsAll (qL code) (qR code))
   (certsSeen (qL code) (qR code) (Prod.fst (Prod.snd x_4)) (Prod.snd (Prod.snd x_4)))
   ((↑(Prod.fst x_4) : Int) + (1 : Int))) &&
   b) =
   true)))) ∧
   (∀ b_1 : Bool,
   ((b_1 =
   bif b then
   Cert.value
   (List.getD (Msg.certs (atM (qL code) (List.getD (qR code) (Prod.fst (Prod.snd x_4)) default)))
   (Int.toNat (↑(Prod.snd (Prod.snd x_4)) : Int)) default) ==
   List.getD (qP code) (Int.toNat ((↑(Prod.fst x_4) : Int) + (1 : Int) - (1 : Int))) default
   else false) →
   (((true = true) →
   ((decide
   (fndP (certsAll (qL code) (qR code))
   (certsSeen (qL code) (qR code) (Prod.fst (Prod.snd x_4)) (Prod.snd (Prod.snd x_4)))
   ((↑(Prod.fst x_4) : Int) + (1 : Int))) =
   false) →
   ((!decide
   (fndP (certsAll (qL code) (qR code))
   (certsSeen (qL code) (qR code) (Prod.fst (Prod.snd x_4)) (Prod.snd (Prod.snd x_4)))
   ((↑(Prod.fst x_4) : Int) + (1 : Int)))) =
   true))) ∧
   (∀ b_2 : Bool,
   ((b_2 =
   bif
   decide
   (fndP (certsAll (qL code) (qR code))
   (certsSeen (qL code) (qR code) (Prod.fst (Prod.snd x_4)) (Prod.snd (Prod.snd x_4)))
   ((↑(Prod.fst x_4) : Int) + (1 : Int))) then
   true
   else b_1) →
   ((inK IntKind.i64 ((↑(Prod.snd (Prod.snd x_4)) : Int) + (1 : Int))) ∧
   (∃ y : Nat × Nat × Nat, ((SLe
   (AS.mk
   [(3, V.int IntKind.i64 (qF code)), (4, encL (encMsg 1) 223 (qL code)),
   (5, V.osl 32000384 (List.length (qR code))), (6, V.oref 448 0 0),
   (10, V.int IntKind.i64 ((↑(Prod.fst x_4) : Int) + (1 : Int))),
   (11,
   V.int IntKind.i64 (Prod.fst (bestOf (certsAll (qL code) (qR code)) ((↑(Prod.fst x_4) : Int) + (1 : Int))))),
   (12, V.bool b_2), (16, V.int IntKind.i64 (↑(Prod.fst (Prod.snd x_4)) : Int)),
   (17,
   encL (encCert 1) 223
   (Msg.certs (atM (qL code) (List.getD (qR code) (Prod.fst (Prod.snd x_4)) default)))),
   (18, V.int IntKind.i64 ((↑(Prod.snd (Prod.snd x_4)) : Int) + (1 : Int)))]
   [(32000384, Blk.arr 1 (List.length (qR code)) (gL encI (qR code)) 100),
   (448, Blk.box [V.int IntKind.i64 (0 : Int), V.osl 65835072 (List.length (qP code))]),
   (65835072, Blk.arr 1 (List.length (qP code)) (gL encI (qP code)) 100)])
   (AS.mk
   [(3, V.int IntKind.i64 (qF code)), (4, encL (encMsg 1) 223 (qL code)),
   (5, V.osl 32000384 (List.length (qR code))), (6, V.oref 448 0 0),
   (10, V.int IntKind.i64 ((↑(Prod.fst y) : Int) + (1 : Int))),
   (11,
   V.int IntKind.i64 (Prod.fst (bestOf (certsAll (qL code) (qR code)) ((↑(Prod.fst y) : Int) + (1 : Int))))),
   (12,
   V.bool
   (decide
   (fndP (certsAll (qL code) (qR code))
   (certsSeen (qL code) (qR code) (Prod.fst (Prod.snd y)) (Prod.snd (Prod.snd y)))
   ((↑(Prod.fst y) : Int) + (1 : Int))))),
   (16, V.int IntKind.i64 (↑(Prod.fst (Prod.snd y)) : Int)),
   (17,
   encL (encCert 1) 223
   (Msg.certs (atM (qL code) (List.getD (qR code) (Prod.fst (Prod.snd y)) default)))),
   (18, V.int IntKind.i64 (↑(Prod.snd (Prod.snd y)) : Int))]
   [(32000384, Blk.arr 1 (List.length (qR code)) (gL encI (qR code)) 100),
   (448, Blk.box [V.int IntKind.i64 (0 : Int), V.osl 65835072 (List.length (qP code))]),
   (65835072, Blk.arr 1 (List.length (qP code)) (gL encI (qP code)) 100)])) ∧
   (((Prod.fst y < List.length (qP code)) ∧
   ((Prod.fst (Prod.snd y) < List.length (qR code)) ∧
   (Prod.snd (Prod.snd y) ≤ List.length (Msg.certs (atM (qL code) (List.getD (qR code) (Prod.fst (Prod.snd y)) default)))))) ∧
   ((R_2 y) ∧
   (List.length (Msg.certs (atM (qL code) (List.getD (qR code) (Prod.fst (Prod.snd y)) default))) - Prod.snd (Prod.snd y) <
   List.length (Msg.certs (atM (qL code) (List.getD (qR code) (Prod.fst (Prod.snd x_4)) default))) -
   Prod.snd (Prod.snd x_4)))))))))))))))))))))))))))))))))))))))))))))))))) ∧
   ((decide
   ((↑(Prod.snd (Prod.snd x_4)) : Int) <
   (↑(List.length (Msg.certs (atM (qL code) (List.getD (qR code) (Prod.fst (Prod.snd x_4)) default)))) : Int)) =
   false) →
   ((inK IntKind.i64 ((↑(Prod.fst (Prod.snd x_4)) : Int) + (1 : Int))) ∧
   (∃ y : Nat × Nat, ((SLe
   (AS.mk
   [(3, V.int IntKind.i64 (qF code)), (4, encL (encMsg 1) 223 (qL code)),
   (5, V.osl 32000384 (List.length (qR code))), (6, V.oref 448 0 0),
   (10, V.int IntKind.i64 ((↑(Prod.fst x_4) : Int) + (1 : Int))),
   (11,
   V.int IntKind.i64 (Prod.fst (bestOf (certsAll (qL code) (qR code)) ((↑(Prod.fst x_4) : Int) + (1 : Int))))),
   (12,
   V.bool
   (decide
   (fndP (certsAll (qL code) (qR code))
   (certsSeen (qL code) (qR code) (Prod.fst (Prod.snd x_4)) (Prod.snd (Prod.snd x_4)))
   ((↑(Prod.fst x_4) : Int) + (1 : Int))))),
   (16, V.int IntKind.i64 ((↑(Prod.fst (Prod.snd x_4)) : Int) + (1 : Int)))]
   [(32000384, Blk.arr 1 (List.length (qR code)) (gL encI (qR code)) 100),
   (448, Blk.box [V.int IntKind.i64 (0 : Int), V.osl 65835072 (List.length (qP code))]),
   (65835072, Blk.arr 1 (List.length (qP code)) (gL encI (qP code)) 100)])
   (AS.mk
   [(3, V.int IntKind.i64 (qF code)), (4, encL (encMsg 1) 223 (qL code)),
   (5, V.osl 32000384 (List.length (qR code))), (6, V.oref 448 0 0),
   (10, V.int IntKind.i64 ((↑(Prod.fst y) : Int) + (1 : Int))),
   (11,
   V.int IntKind.i64 (Prod.fst (bestOf (certsAll (qL code) (qR code)) ((↑(Prod.fst y) : Int) + (1 : Int))))),
   (12,
   V.bool
   (decide
   (fndP (certsAll (qL code) (qR code)) (certsUpTo (qL code) (qR code) (Prod.snd y))
   ((↑(Prod.fst y) : Int) + (1 : Int))))),
   (16, V.int IntKind.i64 (↑(Prod.snd y) : Int))]
   [(32000384, Blk.arr 1 (List.length (qR code)) (gL encI (qR code)) 100),
   (448, Blk.box [V.int IntKind.i64 (0 : Int), V.osl 65835072 (List.length (qP code))]),
   (65835072, Blk.arr 1 (List.length (qP code)) (gL encI (qP code)) 100)])) ∧
   (((Prod.fst y < List.length (qP code)) ∧
   (Prod.snd y ≤ List.length (qR code))) ∧
   ((R_1 y) ∧
   (List.length (qR code) - Prod.snd y < List.length (qR code) - Prod.snd x_3))))))))))))))))) ∧
   ((decide ((↑(Prod.snd x_3) : Int) < (↑(List.length (qR code)) : Int)) = false) →
   ((tq (!!decide
   (fndP (certsAll (qL code) (qR code)) (certsUpTo (qL code) (qR code) (Prod.snd x_3))
   ((↑(Prod.fst x_3) : Int) + (1 : Int))))) ∧
   ((tq (!!decide
   (fndP (certsAll (qL code) (qR code)) (certsUpTo (qL code) (qR code) (Prod.snd x_3))
   ((↑(Prod.fst x_3) : Int) + (1 : Int))))) ∧
   ((tq (!!decide
   (fndP (certsAll (qL code) (qR code)) (certsUpTo (qL code) (qR code) (Prod.snd x_3))
   ((↑(Prod.fst x_3) : Int) + (1 : Int))) &&
   decide (Prod.fst (bestOf (certsAll (qL code) (qR code)) ((↑(Prod.fst x_3) : Int) + (1 : Int))) ≥ (0 : Int)))) ∧
   ((tq (!!decide
   (fndP (certsAll (qL code) (qR code)) (certsUpTo (qL code) (qR code) (Prod.snd x_3))
   ((↑(Prod.fst x_3) : Int) + (1 : Int))) &&
   decide (Prod.fst (bestOf (certsAll (qL code) (qR code)) ((↑(Prod.fst x_3) : Int) + (1 : Int))) ≥ (0 : Int)))) ∧
   ((((!!decide
   (fndP (certsAll (qL code) (qR code)) (certsUpTo (qL code) (qR code) (Prod.snd x_3))
   ((↑(Prod.fst x_3) : Int) + (1 : Int))) &&
   decide (Prod.fst (bestOf (certsAll (qL code) (qR code)) ((↑(Prod.fst x_3) : Int) + (1 : Int))) ≥ (0 : Int))) =
   true) →
   (inK IntKind.i64 ((↑(Prod.fst x_3) : Int) + (1 : Int) - (1 : Int)))) ∧
   ((tq (!!decide
   (fndP (certsAll (qL code) (qR code)) (certsUpTo (qL code) (qR code) (Prod.snd x_3))
   ((↑(Prod.fst x_3) : Int) + (1 : Int))) &&
   decide (Prod.fst (bestOf (certsAll (qL code) (qR code)) ((↑(Prod.fst x_3) : Int) + (1 : Int))) ≥ (0 : Int)))) ∧
   ((tq (!!decide
   (fndP (certsAll (qL code) (qR code)) (certsUpTo (qL code) (qR code) (Prod.snd x_3))
   ((↑(Prod.fst x_3) : Int) + (1 : Int))) &&
   decide (Prod.fst (bestOf (certsAll (qL code) (qR code)) ((↑(Prod.fst x_3) : Int) + (1 : Int))) ≥ (0 : Int)))) ∧
   ((((!!decide
   (fndP (certsAll (qL code) (qR code)) (certsUpTo (qL code) (qR code) (Prod.snd x_3))
   ((↑(Prod.fst x_3) : Int) + (1 : Int))) &&
   decide (Prod.fst (bestOf (certsAll (qL code) (qR code)) ((↑(Prod.fst x_3) : Int) + (1 : Int))) ≥ (0 : Int))) =
   true) →
   (((0 : Int) ≤ (↑(Prod.fst x_3) : Int) + (1 : Int) - (1 : Int)) ∧
   ((↑(Prod.fst x_3) : Int) + (1 : Int) - (1 : Int) < (↑(List.length (qP code)) : Int)))) ∧
   ((tq (!!decide
   (fndP (certsAll (qL code) (qR code)) (certsUpTo (qL code) (qR code) (Prod.snd x_3))
   ((↑(Prod.fst x_3) : Int) + (1 : Int))) &&
   decide (Prod.fst (bestOf (certsAll (qL code) (qR code)) ((↑(Prod.fst x_3) : Int) + (1 : Int))) ≥ (0 : Int)))) ∧
   ((((!!decide
   (fndP (certsAll (qL code) (qR code)) (certsUpTo (qL code) (qR code) (Prod.snd x_3))
   ((↑(Prod.fst x_3) : Int) + (1 : Int))) &&
   decide (Prod.fst (bestOf (certsAll (qL code) (qR code)) ((↑(Prod.fst x_3) : Int) + (1 : Int))) ≥ (0 : Int))) =
   true) →
   (Int.toNat ((↑(Prod.fst x_3) : Int) + (1 : Int) - (1 : Int)) < List.length (qP code))) ∧
   ((tq (!!decide
   (fndP (certsAll (qL code) (qR code)) (certsUpTo (qL code) (qR code) (Prod.snd x_3))
   ((↑(Prod.fst x_3) : Int) + (1 : Int))) &&
   decide (Prod.fst (bestOf (certsAll (qL code) (qR code)) ((↑(Prod.fst x_3) : Int) + (1 : Int))) ≥ (0 : Int)))) ∧
   ((tq (!!decide
   (fndP (certsAll (qL code) (qR code)) (certsUpTo (qL code) (qR code) (Prod.snd x_3))
   ((↑(Prod.fst x_3) : Int) + (1 : Int))))) ∧
   ((((!!decide
   (fndP (certsAll (qL code) (qR code)) (certsUpTo (qL code) (qR code) (Prod.snd x_3))
   ((↑(Prod.fst x_3) : Int) + (1 : Int)))) =
   true) →
   (((!!decide
   (fndP (certsAll (qL code) (qR code)) (certsUpTo (qL code) (qR code) (Prod.snd x_3))
   ((↑(Prod.fst x_3) : Int) + (1 : Int)))) =
   true) →
   ((decide (Prod.fst (bestOf (certsAll (qL code) (qR code)) ((↑(Prod.fst x_3) : Int) + (1 : Int))) ≥ (0 : Int)) = true) →
   ((!!decide
   (fndP (certsAll (qL code) (qR code)) (certsUpTo (qL code) (qR code) (Prod.snd x_3))
   ((↑(Prod.fst x_3) : Int) + (1 : Int))) &&
   decide (Prod.fst (bestOf (certsAll (qL code) (qR code)) ((↑(Prod.fst x_3) : Int) + (1 : Int))) ≥ (0 : Int))) =
   true)))) ∧
   (∀ b : Bool,
   ((b =
   bif decide (Prod.fst (bestOf (certsAll (qL code) (qR code)) ((↑(Prod.fst x_3) : Int) + (1 : Int))) ≥ (0 : Int)) then
   List.getD (qP code) (Int.toNat ((↑(Prod.fst x_3) : Int) + (1 : Int) - (1 : Int))) default == (0 : Int)
   else false) →
   ((tq (!!decide
   (fndP (certsAll (qL code) (qR code)) (certsUpTo (qL code) (qR code) (Prod.snd x_3))
   ((↑(Prod.fst x_3) : Int) + (1 : Int))))) ∧
   ((tq (!!decide
   (fndP (certsAll (qL code) (qR code)) (certsUpTo (qL code) (qR code) (Prod.snd x_3))
   ((↑(Prod.fst x_3) : Int) + (1 : Int))) &&
   b)) ∧
   ((tq (!!decide
   (fndP (certsAll (qL code) (qR code)) (certsUpTo (qL code) (qR code) (Prod.snd x_3))
   ((↑(Prod.fst x_3) : Int) + (1 : Int))) &&
   b)) ∧
   ((tq (!!decide
   (fndP (certsAll (qL code) (qR code)) (certsUpTo (qL code) (qR code) (Prod.snd x_3))
   ((↑(Prod.fst x_3) : Int) + (1 : Int))) &&
   b)) ∧
   ((((!!decide
   (fndP (certsAll (qL code) (qR code)) (certsUpTo (qL code) (qR code) (Prod.snd x_3))
   ((↑(Prod.fst x_3) : Int) + (1 : Int))) &&
   b) =
   true) →
   ((VLe (encL (encMsg 1) 1 (qL code))
   (encL (encMsg 1) 1 (decL decMsg (encL (encMsg 1) 1 (qL code))))) ∧
   ((VLe (encL encI 1 (qR code)) (encL encI 1 (decL decI (encL encI 1 (qR code))))) ∧
   (pr22 (qF code) (decL decMsg (encL (encMsg 1) 1 (qL code))) (decL decI (encL encI 1 (qR code))))))) ∧
   ((tq (!!decide
   (fndP (certsAll (qL code) (qR code)) (certsUpTo (qL code) (qR code) (Prod.snd x_3))
   ((↑(Prod.fst x_3) : Int) + (1 : Int))) &&
   b)) ∧
   ((tq (!!decide
   (fndP (certsAll (qL code) (qR code)) (certsUpTo (qL code) (qR code) (Prod.snd x_3))
   ((↑(Prod.fst x_3) : Int) + (1 : Int))) &&
   b)) ∧
   ((((!!decide
   (fndP (certsAll (qL code) (qR code)) (certsUpTo (qL code) (qR code) (Prod.snd x_3))
   ((↑(Prod.fst x_3) : Int) + (1 : Int))) &&
   b) =
   true) →
   (inK IntKind.i64 ((↑(Prod.fst x_3) : Int) + (1 : Int) - (1 : Int)))) ∧
   ((tq (!!decide
   (fndP (certsAll (qL code) (qR code)) (certsUpTo (qL code) (qR code) (Prod.snd x_3))
   ((↑(Prod.fst x_3) : Int) + (1 : Int))) &&
   b)) ∧
   ((tq (!!decide
   (fndP (certsAll (qL code) (qR code)) (certsUpTo (qL code) (qR code) (Prod.snd x_3))
   ((↑(Prod.fst x_3) : Int) + (1 : Int))) &&
   b)) ∧
   ((((!!decide
   (fndP (certsAll (qL code) (qR code)) (certsUpTo (qL code) (qR code) (Prod.snd x_3))
   ((↑(Prod.fst x_3) : Int) + (1 : Int))) &&
   b) =
   true) →
   (((0 : Int) ≤ (↑(Prod.fst x_3) : Int) + (1 : Int) - (1 : Int)) ∧
   ((↑(Prod.fst x_3) : Int) + (1 : Int) - (1 : Int) <
   (↑(List.length
   (IntsResult.list
   (pickOfF (qF code) (decL decMsg (encL (encMsg 1) 1 (qL code)))
   (decL decI (encL encI 1 (qR code)))))) :
   Int)))) ∧
   ((tq (!!decide
   (fndP (certsAll (qL code) (qR code)) (certsUpTo (qL code) (qR code) (Prod.snd x_3))
   ((↑(Prod.fst x_3) : Int) + (1 : Int))) &&
   b)) ∧
   ((tq (!!decide
   (fndP (certsAll (qL code) (qR code)) (certsUpTo (qL code) (qR code) (Prod.snd x_3))
   ((↑(Prod.fst x_3) : Int) + (1 : Int))) &&
   b)) ∧
   ((tq (!!decide
   (fndP (certsAll (qL code) (qR code)) (certsUpTo (qL code) (qR code) (Prod.snd x_3))
   ((↑(Prod.fst x_3) : Int) + (1 : Int))))) ∧
   ((((!!decide
   (fndP (certsAll (qL code) (qR code)) (certsUpTo (qL code) (qR code) (Prod.snd x_3))
   ((↑(Prod.fst x_3) : Int) + (1 : Int)))) =
   true) →
   (((!!decide
   (fndP (certsAll (qL code) (qR code)) (certsUpTo (qL code) (qR code) (Prod.snd x_3))
   ((↑(Prod.fst x_3) : Int) + (1 : Int)))) =
   true) →
   ((b = true) →
   ((!!decide
   (fndP (certsAll (qL code) (qR code)) (certsUpTo (qL code) (qR code) (Prod.snd x_3))
   ((↑(Prod.fst x_3) : Int) + (1 : Int))) &&
   b) =
   true)))) ∧
   (∀ b_1 : Bool,
   ((b_1 =
   bif b then
   List.getD
   (IntsResult.list
   (pickOfF (qF code) (decL decMsg (encL (encMsg 1) 1 (qL code)))
   (decL decI (encL encI 1 (qR code)))))
   (Int.toNat ((↑(Prod.fst x_3) : Int) + (1 : Int) - (1 : Int))) default !=
   (0 : Int)
   else false) →
   (((true = true) →
   (((!decide
   (fndP (certsAll (qL code) (qR code)) (certsUpTo (qL code) (qR code) (Prod.snd x_3))
   ((↑(Prod.fst x_3) : Int) + (1 : Int)))) =
   false) →
   ((!!decide
   (fndP (certsAll (qL code) (qR code)) (certsUpTo (qL code) (qR code) (Prod.snd x_3))
   ((↑(Prod.fst x_3) : Int) + (1 : Int)))) =
   true))) ∧
   (∀ b_2 : Bool,
   ((b_2 =
   bif
   !decide
   (fndP (certsAll (qL code) (qR code)) (certsUpTo (qL code) (qR code) (Prod.snd x_3))
   ((↑(Prod.fst x_3) : Int) + (1 : Int))) then
   true
   else b_1) →
   (((b_2 = true) →
   (VLe (V.bool false) (V.bool true))) ∧
   ((b_2 = false) →
   ((inK IntKind.i64 ((↑(Prod.fst x_3) : Int) + (1 : Int) + (1 : Int))) ∧
   (∃ y : Nat, ((SLe
   (AS.mk
   [(3, V.int IntKind.i64 (qF code)), (4, encL (encMsg 1) 223 (qL code)),
   (5, V.osl 32000384 (List.length (qR code))), (6, V.oref 448 0 0),
   (10, V.int IntKind.i64 ((↑(Prod.fst x_3) : Int) + (1 : Int) + (1 : Int)))]
   [(32000384, Blk.arr 1 (List.length (qR code)) (gL encI (qR code)) 100),
   (448, Blk.box [V.int IntKind.i64 (0 : Int), V.osl 65835072 (List.length (qP code))]),
   (65835072, Blk.arr 1 (List.length (qP code)) (gL encI (qP code)) 100)])
   (AS.mk
   [(3, V.int IntKind.i64 (qF code)), (4, encL (encMsg 1) 223 (qL code)),
   (5, V.osl 32000384 (List.length (qR code))), (6, V.oref 448 0 0),
   (10, V.int IntKind.i64 ((↑y : Int) + (1 : Int)))]
   [(32000384, Blk.arr 1 (List.length (qR code)) (gL encI (qR code)) 100),
   (448, Blk.box [V.int IntKind.i64 (0 : Int), V.osl 65835072 (List.length (qP code))]),
   (65835072, Blk.arr 1 (List.length (qP code)) (gL encI (qP code)) 100)])) ∧
   ((y ≤ List.length (qP code)) ∧
   (List.length (qP code) - y < List.length (qP code) - x_1)))))))))))))))))))))))))))))))))))))))))))))))))))))))))))) ∧
   ((decide ((↑x_1 : Int) + (1 : Int) ≤ (↑(List.length (qP code)) : Int)) = false) →
   (((VLe (encL (encMsg 1) 1 (qL code))
   (encL (encMsg 1) 1 (decL decMsg (encL (encMsg 1) 1 (qL code))))) ∧
   ((VLe (encL encI 1 (qR code)) (encL encI 1 (decL decI (encL encI 1 (qR code))))) ∧
   (pr22 (qF code) (decL decMsg (encL (encMsg 1) 1 (qL code))) (decL decI (encL encI 1 (qR code)))))) ∧
   (VLe
   (V.bool
   ((↑(List.length (qP code)) : Int) ==
   (↑(List.length
   (IntsResult.list
   (pickOfF (qF code) (decL decMsg (encL (encMsg 1) 1 (qL code)))
   (decL decI (encL encI 1 (qR code)))))) :
   Int)))
   (V.bool true)))))))))))))))))))) := by
    obtain ⟨hlen, hby⟩ := hpre
    have eR : (if nextF code (refsX code).2 20 = 0 then ([0, 0, 0, 0, 0, 0, 0, 0, 0] : List Int) else (refsX code).1) = qR code := rfl
    simp only [decL_bytes, decL_Msg, decL_ints, dec_encCert, ro20, ro21o, show drawF code ((refsX code).2 + 1) = qF code from rfl, show (wrong10 code 0).1 = qL code from rfl, eR]
    refine ⟨⟨VLe.refl _, trivial⟩, fun h => VLe.refl _, fun h => ?_⟩
    have h0 := okX_code (Nat.le_of_not_lt (of_decide_eq_false h)) hby
    obtain ⟨hb, hr9⟩ := pickArg_bd h0
    have hP : qP code = pickL (qL code) (qR code) := rfl
    clear eR
    generalize qF code = f at *
    generalize qL code = l at *
    generalize qR code = r at *
    generalize qP code = P at *
    have pp : pr22 f l r := ⟨hb, by omega⟩
    refine ⟨⟨VLe.refl _, h0⟩, ⟨VLe.refl _, VLe.refl _, pp⟩, fun h => ⟨⟨VLe.refl _, VLe.refl _, pp⟩, vle_bool (by simp)⟩, fun h => ?_⟩
    have hc : (pickOfF f l r).code = 0 := by simpa using h
    have hz : ledgerFault f l = 0 := Classical.byContradiction fun g => by
      unfold pickOfF at hc
      rw [if_pos g] at hc
      exact g hc
    have e0 : pickOfF f l r = if 3 * f + 1 < (r.length : Int) then ⟨2, []⟩ else if ¬ pickOk l r then ⟨4, []⟩ else ⟨0, pickL l r⟩ := if_neg (not_not_intro hz)
    have h7 : ¬ 3 * f + 1 < (r.length : Int) := fun g => by rw [e0, if_pos g] at hc; simp at hc
    have hp : pickOk l r := Classical.byContradiction fun g => by rw [e0, if_neg h7, if_pos g] at hc; simp at hc
    have e : pickOfF f l r = ⟨0, P⟩ := by rw [e0, if_neg h7, if_neg (not_not_intro hp), hP]
    have hr := right_of hz
    have h240 := hr.len
    have hf' : 1 ≤ f ∧ f ≤ 2 := by have := hr.okf; unfold okF at this; omega
    have hin : ∀ i, i < r.length → isAt l (r.getD i default) 4 := fun i hi => hp _ (by simp [hi])
    have hgc : ∀ x ∈ r, ∀ c ∈ (atM l x).certs, inR c.slot 1 30 ∧ 0 ≤ c.view := fun x hx c hc => by
      have := (hr.memGood (atM_mem (hp x hx).1)).certs c hc
      exact ⟨this.1, this.2.1.1⟩
    have hfew : ∀ i, i < r.length → (atM l (r.getD i default)).certs.length ≤ 30 := fun i hi => (hr.memGood (atM_mem (hin i hi).1)).few.1
    have hP30 : P.length ≤ 30 := by rw [hP]; exact pickL_len hr hp
    have hat : ∀ i, i < r.length → 0 ≤ r.getD i default ∧ r.getD i default < (l.length : Int) := fun i hi => by
      have := (hin i hi).1
      unfold inL inR at this
      omega
    have htop : ∀ c ∈ certsAll l r, c.slot ≤ (P.length : Int) := fun c hc => by
      have h1 := (topOf_ge (cs := certsAll l r)).1 c hc
      have h2 := (topOf_ge (cs := certsAll l r)).2.1
      rw [hP, pickL_length]
      omega
    have hall : ∀ i k, i < r.length → k < (atM l (r.getD i default)).certs.length → (atM l (r.getD i default)).certs.getD k default ∈ certsAll l r := fun i k hi hk => by
      unfold certsAll certsUpTo
      rw [List.take_length]
      exact List.mem_flatMap.2 ⟨r.getD i default, getD_mem hi, getD_mem hk⟩
    have hPs : ∀ s, s < P.length → P.getD s default = (bestOf (certsAll l r) (s + 1)).2 := fun s hs => by rw [hP] at hs ⊢; exact pickL_get hs
    simp only [e]
    refine ⟨⟨0, sle_of ⟨rfl, VLe.refl _, rfl, VLe.refl _, rfl, VLe.refl _, rfl, VLe.refl _, rfl, VLe.refl _, trivial⟩ ⟨rfl, BLe.refl _, rfl, BLe.refl _, rfl, BLe.refl _, trivial⟩, Nat.zero_le _⟩, fun i hi => ⟨fun h => ?_, fun h => ?_⟩⟩
    · have hlt : i < r.length := by simpa using h
      simp only [Int.toNat_natCast]
      refine ⟨by omega, by omega, hat i hlt, fun p => p.1 = i, ⟨(i, 0), sle_of ⟨rfl, VLe.refl _, rfl, VLe.refl _, rfl, VLe.refl _, rfl, VLe.refl _, rfl, VLe.refl _, rfl, VLe.refl _, rfl, VLe.refl _, trivial⟩ ⟨rfl, BLe.refl _, rfl, BLe.refl _, rfl, BLe.refl _, trivial⟩, ⟨hlt, Nat.zero_le _⟩, rfl⟩, ?_⟩
      rintro ⟨i', k⟩ ⟨_, hk⟩ hR
      simp only at hR
      subst hR
      simp only at hk ⊢
      refine ⟨fun h => ?_, fun h => ?_⟩
      · have hkl : k < (atM l (r.getD i' default)).certs.length := by simpa using h
        have h30 := hfew i' hlt
        have hs := htop _ (hall i' k hlt hkl)
        refine ⟨by omega, fun h => absurd (of_decide_eq_true h) (by omega), fun _ => ⟨inK64 (by omega), (i', k + 1), sle_of ⟨rfl, VLe.refl _, rfl, VLe.refl _, rfl, VLe.refl _, rfl, VLe.refl _, rfl, VLe.refl _, rfl, VLe.refl _, rfl, vle_int (by omega), trivial⟩ ⟨rfl, BLe.refl _, rfl, BLe.refl _, rfl, BLe.refl _, trivial⟩, ⟨hlt, by simp only; omega⟩, rfl, by simp only; omega⟩⟩
      · exact ⟨inK64 (by omega), i' + 1, sle_of ⟨rfl, VLe.refl _, rfl, VLe.refl _, rfl, VLe.refl _, rfl, VLe.refl _, rfl, vle_int (by omega), trivial⟩ ⟨rfl, BLe.refl _, rfl, BLe.refl _, rfl, BLe.refl _, trivial⟩, by omega, by omega⟩
    · refine ⟨⟨0, sle_of ⟨rfl, VLe.refl _, rfl, VLe.refl _, rfl, VLe.refl _, rfl, VLe.refl _, rfl, vle_int rfl, trivial⟩ ⟨rfl, BLe.refl _, rfl, BLe.refl _, rfl, BLe.refl _, trivial⟩, Nat.zero_le _⟩, fun s hs => ⟨fun h => ?_, fun h => ?_⟩⟩
      · have hlt : s < P.length := by have := of_decide_eq_true h; omega
        have e1 : (s : Int) + 1 - 1 = s := by omega
        simp only [e1, Int.toNat_natCast]
        refine ⟨inK64 (by omega), ⟨by omega, by omega⟩, hlt, fun p => p.1 = s, ⟨(s, 0), sle_of ⟨rfl, VLe.refl _, rfl, VLe.refl _, rfl, VLe.refl _, rfl, VLe.refl _, rfl, VLe.refl _, rfl, vle_int rfl, rfl, VLe.refl _, rfl, VLe.refl _, trivial⟩ ⟨rfl, BLe.refl _, rfl, BLe.refl _, rfl, BLe.refl _, trivial⟩, ⟨hlt, Nat.zero_le _⟩, rfl⟩, ?_⟩
        rintro ⟨s', i⟩ ⟨_, hi⟩ hR
        simp only at hR
        subst hR
        simp only at hi ⊢
        refine ⟨fun h => ?_, fun h => ?_⟩
        · have hlt2 : i < r.length := by simpa using h
          refine ⟨by omega, by omega, hat i hlt2, fun p => p.1 = s' ∧ p.2.1 = i, ⟨(s', i, 0), ?_, ⟨hlt, hlt2, Nat.zero_le _⟩, rfl, rfl⟩, ?_⟩
          · simp only [certsSeen_zero]
            exact sle_of ⟨rfl, VLe.refl _, rfl, VLe.refl _, rfl, VLe.refl _, rfl, VLe.refl _, rfl, VLe.refl _, rfl, VLe.refl _, rfl, VLe.refl _, rfl, VLe.refl _, rfl, VLe.refl _, rfl, VLe.refl _, trivial⟩ ⟨rfl, BLe.refl _, rfl, BLe.refl _, rfl, BLe.refl _, trivial⟩
          rintro ⟨s2, i2, k⟩ ⟨_, _, hk⟩ ⟨hR1, hR2⟩
          simp only at hR1 hR2
          subst hR1 hR2
          simp only at hk ⊢
          refine ⟨fun h => ?_, fun h => ?_⟩
          · have hkl : k < (atM l (r.getD i2 default)).certs.length := by simpa using h
            have h30 := hfew i2 hlt2
            have hsn := certsSeen_succ hkl
            have hbs : bestOf (certsSeen l r i2 (k + 1)) ((s2 : Int) + 1) = newerC ((s2 : Int) + 1) (bestOf (certsSeen l r i2 k) ((s2 : Int) + 1)) ((atM l (r.getD i2 default)).certs.getD k default) := by rw [hsn, bestOf_snoc]
            unfold newerC at hbs
            refine ⟨by omega, ?_⟩
            repeat (first | (refine And.intro (fun h _ => h) ?_) | (refine And.intro (fun _ h => h) ?_) | (refine And.intro ?aa ?_; case aa => (exact tqB _)) | (refine And.intro ?aa ?_; case aa => (exact fun _ => ⟨by omega, by omega⟩)) | (refine And.intro ?aa ?_; case aa => (exact fun _ _ h => h)) | (refine And.intro ?aa ?_; case aa => (intros; simp_all [pr6, pr20, pr21o, pr22]; done)) | (refine And.intro ?aa ?_; case aa => (intros; exact inK64 (by omega))) | (refine And.intro ?aa ?_; case aa => (intros; simp only [decide_eq_true_eq] at *; omega)) | (intro q hq))
            have e2 : q = decide (((atM l (r.getD i2 default)).certs.getD k default).slot = (s2 : Int) + 1 ∧ (bestOf (certsSeen l r i2 k) ((s2 : Int) + 1)).1 < ((atM l (r.getD i2 default)).certs.getD k default).view) := by
              rw [hq, Bool.eq_iff_iff, decide_eq_true_eq]
              simp
            clear hq
            refine ⟨fun h => ⟨⟨by omega, by omega⟩, inK64 (by omega), (s2, i2, k + 1), ?_, ⟨hlt, hlt2, by simp only; omega⟩, ⟨rfl, rfl⟩, by simp only; omega⟩, fun h => ⟨inK64 (by omega), (s2, i2, k + 1), ?_, ⟨hlt, hlt2, by simp only; omega⟩, ⟨rfl, rfl⟩, by simp only; omega⟩⟩
            · rw [e2] at h
              rw [if_pos (of_decide_eq_true h)] at hbs
              simp only [hbs]
              exact sle_of ⟨rfl, VLe.refl _, rfl, VLe.refl _, rfl, VLe.refl _, rfl, VLe.refl _, rfl, VLe.refl _, rfl, VLe.refl _, rfl, VLe.refl _, rfl, VLe.refl _, rfl, VLe.refl _, rfl, vle_int (by omega), trivial⟩ ⟨rfl, BLe.refl _, rfl, BLe.refl _, rfl, BLe.refl _, trivial⟩
            · rw [e2] at h
              rw [if_neg (of_decide_eq_false h)] at hbs
              simp only [hbs]
              exact sle_of ⟨rfl, VLe.refl _, rfl, VLe.refl _, rfl, VLe.refl _, rfl, VLe.refl _, rfl, VLe.refl _, rfl, VLe.refl _, rfl, VLe.refl _, rfl, VLe.refl _, rfl, VLe.refl _, rfl, vle_int (by omega), trivial⟩ ⟨rfl, BLe.refl _, rfl, BLe.refl _, rfl, BLe.refl _, trivial⟩
          · have hkl : k = (atM l (r.getD i2 default)).certs.length := by have := of_decide_eq_false h; omega
            subst hkl
            rw [certsSeen_all hlt2]
            exact ⟨inK64 (by omega), (s2, i2 + 1), sle_of ⟨rfl, VLe.refl _, rfl, VLe.refl _, rfl, VLe.refl _, rfl, VLe.refl _, rfl, VLe.refl _, rfl, VLe.refl _, rfl, VLe.refl _, rfl, vle_int (by omega), trivial⟩ ⟨rfl, BLe.refl _, rfl, BLe.refl _, rfl, BLe.refl _, trivial⟩, ⟨hlt, by simp only; omega⟩, rfl, by simp only; omega⟩
        · have hge : i = r.length := by simp at h; omega
          subst hge
          have hv := hPs s' hlt
          have hb0 : (P.getD s' default == 0) = decide (fndP (certsAll l r) (certsUpTo l r 0) ((s' : Int) + 1)) := by
            rw [hv, Bool.eq_iff_iff]
            simp [fndP, certsUpTo]
          refine ⟨fun p => p.1 = s', ⟨(s', 0), sle_of ⟨rfl, VLe.refl _, rfl, VLe.refl _, rfl, VLe.refl _, rfl, VLe.refl _, rfl, VLe.refl _, rfl, VLe.refl _, rfl, vle_bool hb0, rfl, VLe.refl _, trivial⟩ ⟨rfl, BLe.refl _, rfl, BLe.refl _, rfl, BLe.refl _, trivial⟩, ⟨hlt, Nat.zero_le _⟩, rfl⟩, ?_⟩
          rintro ⟨s2, i⟩ ⟨_, hi⟩ hR
          simp only at hR
          subst hR
          simp only at hi ⊢
          refine ⟨fun h => ?_, fun h => ?_⟩
          · have hlt2 : i < r.length := by simpa using h
            refine ⟨by omega, by omega, hat i hlt2, fun p => p.1 = s2 ∧ p.2.1 = i, ⟨(s2, i, 0), ?_, ⟨hlt, hlt2, Nat.zero_le _⟩, rfl, rfl⟩, ?_⟩
            · simp only [certsSeen_zero]
              exact sle_of ⟨rfl, VLe.refl _, rfl, VLe.refl _, rfl, VLe.refl _, rfl, VLe.refl _, rfl, VLe.refl _, rfl, VLe.refl _, rfl, VLe.refl _, rfl, VLe.refl _, rfl, VLe.refl _, rfl, VLe.refl _, trivial⟩ ⟨rfl, BLe.refl _, rfl, BLe.refl _, rfl, BLe.refl _, trivial⟩
            rintro ⟨s3, i2, k⟩ ⟨_, _, hk⟩ ⟨hR1, hR2⟩
            simp only at hR1 hR2
            subst hR1 hR2
            simp only at hk ⊢
            refine ⟨fun h => ?_, fun h => ?_⟩
            · have hkl : k < (atM l (r.getD i2 default)).certs.length := by simpa using h
              have h30 := hfew i2 hlt2
              have hsn := certsSeen_succ hkl
              have hfs := fnd_snoc (certsAll l r) (certsSeen l r i2 k) ((atM l (r.getD i2 default)).certs.getD k default) ((s3 : Int) + 1)
              rw [← hsn] at hfs
              generalize (atM l (r.getD i2 default)).certs.getD k default = c at *
              generalize hFe : decide (fndP (certsAll l r) (certsSeen l r i2 k) ((s3 : Int) + 1)) = F
              simp only [e1, Int.toNat_natCast]
              repeat (first | (refine And.intro (fun h _ => h) ?_) | (refine And.intro (fun _ h => h) ?_) | (refine And.intro ?aa ?_; case aa => (exact tqB _)) | (refine And.intro ?aa ?_; case aa => (exact fun _ => ⟨by omega, by omega⟩)) | (refine And.intro ?aa ?_; case aa => (exact fun _ => hlt)) | (refine And.intro ?aa ?_; case aa => (intros; simp_all [pr6, pr20, pr21o, pr22]; done)) | (refine And.intro ?aa ?_; case aa => (intros; exact inK64 (by omega))) | (refine And.intro ?aa ?_; case aa => (intros; simp only [decide_eq_true_eq] at *; omega)) | (intro q hq))
              have e12 : q = decide (fndP (certsAll l r) (certsSeen l r i2 (k + 1)) ((s3 : Int) + 1)) := by
                subst_vars
                rw [Bool.eq_iff_iff, decide_eq_true_eq, hfs, hv]
                by_cases g : fndP (certsAll l r) (certsSeen l r i2 k) ((s3 : Int) + 1)
                · simp [g]
                · by_cases g2 : c.slot = (s3 : Int) + 1 <;> simp [g, g2]
              exact ⟨(s3, i2, k + 1), sle_of ⟨rfl, VLe.refl _, rfl, VLe.refl _, rfl, VLe.refl _, rfl, VLe.refl _, rfl, VLe.refl _, rfl, VLe.refl _, rfl, vle_bool e12, rfl, VLe.refl _, rfl, VLe.refl _, rfl, vle_int rfl, trivial⟩ ⟨rfl, BLe.refl _, rfl, BLe.refl _, rfl, BLe.refl _, trivial⟩, ⟨hlt, hlt2, by simp only; omega⟩, ⟨rfl, rfl⟩, by simp only; omega⟩
            · have hkl : k = (atM l (r.getD i2 default)).certs.length := by have := of_decide_eq_false h; omega
              subst hkl
              rw [certsSeen_all hlt2]
              exact ⟨inK64 (by omega), (s3, i2 + 1), sle_of ⟨rfl, VLe.refl _, rfl, VLe.refl _, rfl, VLe.refl _, rfl, VLe.refl _, rfl, VLe.refl _, rfl, VLe.refl _, rfl, VLe.refl _, rfl, vle_int (by omega), trivial⟩ ⟨rfl, BLe.refl _, rfl, BLe.refl _, rfl, BLe.refl _, trivial⟩, ⟨hlt, by simp only; omega⟩, rfl, by simp only; omega⟩
          · have hge : i = r.length := by simp at h; omega
            subst hge
            have hfa : decide (fndP (certsAll l r) (certsUpTo l r r.length) ((s2 : Int) + 1)) = true := decide_eq_true (fnd_all _ _)
            simp only [hfa, Bool.not_true, Bool.not_false, Bool.true_and, e1, Int.toNat_natCast]
            repeat (first | (refine And.intro (fun h _ => h) ?_) | (refine And.intro (fun _ h => h) ?_) | (refine And.intro ?aa ?_; case aa => (exact tqB _)) | (refine And.intro ?aa ?_; case aa => (exact fun _ => ⟨by omega, by omega⟩)) | (refine And.intro ?aa ?_; case aa => (exact fun _ => hlt)) | (refine And.intro ?aa ?_; case aa => (exact fun _ => ⟨VLe.refl _, VLe.refl _, pp⟩)) | (refine And.intro ?aa ?_; case aa => (intros; simp_all [pr6, pr20, pr21o, pr22]; done)) | (refine And.intro ?aa ?_; case aa => (intros; exact inK64 (by omega))) | (refine And.intro ?aa ?_; case aa => (intros; simp only [decide_eq_true_eq] at *; omega)) | (intro q hq))
            exact fun _ => ⟨inK64 (by omega), s2 + 1, sle_of ⟨rfl, VLe.refl _, rfl, VLe.refl _, rfl, VLe.refl _, rfl, VLe.refl _, rfl, vle_int rfl, trivial⟩ ⟨rfl, BLe.refl _, rfl, BLe.refl _, rfl, BLe.refl _, trivial⟩, by omega, by omega⟩
      · exact ⟨⟨VLe.refl _, VLe.refl _, pp⟩, vle_bool (by simp)⟩
  exact Eq.mp (by kernel_rfl) key
theorem so5 : Sound Try.prog 5 (lawD Q5) := by
  refine sound_of_body hmix (pol := 0) Try.func5 rfl (by kernel_rfl) fun args bin ob r bout hDe hob => ?_
  unfold lawD at hDe
  split at hDe
  · cases hDe
    obtain ⟨code, hle, hpre⟩ := hob
    have hlen : args.length = 1 := hle.1.symm
    exact ⟨rfl, rfl, by rw [hlen]; exact Nat.le_of_ble_eq_true (by kernel_rfl), cx5 code, Eq.mp (by kernel_rfl) htt, Eq.mp (by kernel_rfl) da5, Eq.mp (by kernel_rfl) (noM_sound (P := Try.prog)), by kernel_rfl, _, hle, Eq.mp (by kernel_rfl) (bd5 code hpre)⟩
  · cases hDe

end Go.Av
