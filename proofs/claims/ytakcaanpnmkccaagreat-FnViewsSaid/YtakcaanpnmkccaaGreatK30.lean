/- What a new view has to take over. -/
import Derived.Test.YtakcaanpnmkccaaGreatK2
import Derived.Test.YtakcaanpnmkccaaGreatP22
namespace Go.Av
open Go.Proofs
set_option maxRecDepth 100000
set_option linter.unusedVariables false
set_option linter.unusedSimpArgs false

/-- The certificate of a slot, as the program has it: none: all is 0. -/
def bestK (cs : List Cert) (slot : Int) : Cert := if 0 ≤ (bestOf cs slot).1 then ⟨slot, (bestOf cs slot).1, (bestOf cs slot).2⟩ else ⟨0, 0, 0⟩
def mpK (cs : List Cert) : Blk := .mp (encCert 1 ⟨0, 0, 0⟩) (fun k => encCert 1 (bestK cs k)) (hasK cs)
def outTo (cs : List Cert) (n : Nat) : List Int := (List.range n).map fun s : Nat => (bestOf cs (s + 1)).2

theorem getD_mem {α : Type} [Inhabited α] {xs : List α} {k : Nat} (h : k < xs.length) : xs.getD k default ∈ xs := by simp [h]
theorem outTo_len (cs : List Cert) (n : Nat) : (outTo cs n).length = n := by simp [outTo]
theorem outTo_succ (cs : List Cert) (n : Nat) : outTo cs (n + 1) = outTo cs n ++ [(bestOf cs (n + 1)).2] := by
  unfold outTo
  rw [List.range_succ, List.map_append]
  rfl
theorem outTo_get (cs : List Cert) {n j : Nat} (h : j < n) : (outTo cs n).getD j default = (bestOf cs (j + 1)).2 := by simp [outTo, h]
theorem bestVal {cs : List Cert} (hv : ∀ c ∈ cs, 0 ≤ c.view) (slot : Int) : (bestK cs slot).value = (bestOf cs slot).2 := by
  unfold bestK
  split
  · rfl
  · rename_i h
    have key : ∀ (cs : List Cert) (b : Int × Int), (∀ c ∈ cs, 0 ≤ c.view) → ¬ 0 ≤ (cs.foldl (newerC slot) b).1 → (cs.foldl (newerC slot) b).2 = b.2 := by
      intro cs
      induction cs with
      | nil => intro b _ _; rfl
      | cons c r ih =>
        intro b hc hn
        rw [List.foldl_cons] at hn ⊢
        rw [ih _ (fun x hx => hc x (List.mem_cons_of_mem _ hx)) hn]
        unfold newerC
        split
        · rename_i g
          exfalso
          apply hn
          have h1 := bestOf_ge slot r (newerC slot b c)
          have h0 := hc c (List.mem_cons_self ..)
          unfold newerC at h1 ⊢
          rw [if_pos g] at h1 ⊢
          simp only at h1
          omega
        · rfl
    exact (key cs (-1, 0) hv h).symm
theorem mp_nil : BLe (.mp (encCert 1 ⟨0, 0, 0⟩) (fun _ => encCert 1 ⟨0, 0, 0⟩) (fun _ => false)) (mpK []) := ble_mp (fun k => by simp [bestK, bestOf]) (fun k => by simp [hasK, bestOf])
theorem mp_step {cs : List Cert} {c : Cert} (h : (bestOf cs c.slot).1 < c.view) (h0 : 0 ≤ c.view) :
    BLe (.mp (encCert 1 ⟨0, 0, 0⟩) (setF (fun k => encCert 1 (bestK cs k)) c.slot (encCert 1 c)) (setF (hasK cs) c.slot true)) (mpK (cs ++ [c])) := by
  refine ble_mp (fun k => ?_) (fun k => ?_)
  · unfold setF bestK
    rw [bestOf_snoc]
    unfold newerC
    by_cases e : k = c.slot
    · subst e
      simp only [if_true, true_and, h]
      rw [if_pos h0]
    · have e' : ¬ c.slot = k := fun x => e x.symm
      simp only [e, e', if_false, false_and]
  · unfold setF hasK
    rw [bestOf_snoc]
    unfold newerC
    by_cases e : k = c.slot
    · subst e
      simp [h, h0]
    · have e' : ¬ c.slot = k := fun x => e x.symm
      simp only [e, e', if_false, false_and]
theorem mp_same {cs : List Cert} {c : Cert} (h : ¬ (bestOf cs c.slot).1 < c.view) : mpK (cs ++ [c]) = mpK cs := by
  have e : ∀ k, bestOf (cs ++ [c]) k = bestOf cs k := fun k => by
    rw [bestOf_snoc]
    unfold newerC
    rw [if_neg]
    rintro ⟨rfl, g⟩
    exact h g
  unfold mpK bestK hasK
  simp only [e]
theorem takes_eq {cs : List Cert} {c : Cert} (hv : 0 ≤ c.view) : (bif !hasK cs c.slot then true else decide (c.view > (bestK cs c.slot).view)) = decide ((bestOf cs c.slot).1 < c.view) := by
  unfold hasK bestK
  by_cases g : 0 ≤ (bestOf cs c.slot).1
  · simp [g]
  · have : (bestOf cs c.slot).1 < c.view := by omega
    simp [g, this]


/-! ### impl.pick%o -/
def pr42o (l : List Msg) (refs : List Int) : Prop := (∃ f, Right f l) ∧ bdL l ∧ pickOk l refs ∧ refs.length ≤ 7
noncomputable def ro42o (l : List Msg) (refs : List Int) : List Int := pickL l refs
noncomputable def rb42o (l : List Msg) (refs : List Int) : List Blk := [(.arr 1 (ro42o l refs).length (gL encI (ro42o l refs)) tagS)]
noncomputable def rs42o (l : List Msg) (refs : List Int) : V := .osl 0 (ro42o l refs).length
noncomputable def sp42o : FSpec := fun args bin => match args, bin with
  | [a0, a1], [] => some (VLe a0 (encL (encMsg 1) 1 (((decL decMsg) a0))) ∧ VLe a1 (encL encI 1 (((decL decI) a1))) ∧ pr42o ((decL decMsg) a0) ((decL decI) a1), rs42o ((decL decMsg) a0) ((decL decI) a1), rb42o ((decL decMsg) a0) ((decL decI) a1))
  | _, _ => none
noncomputable def in42o_4 (l : List Msg) (refs : List Int) : LoopInv :=
  ⟨Nat, fun i => ⟨[(0, encL (encMsg 1) 1 l), (1, encL encI 1 refs), (5, .omap 1024), (6, .int .i64 (topOf (certsUpTo l refs i))), (16, encL encI 1 refs), (17, .int .i64 refs.length), (18, .int .i64 i)], [(1024, mpK (certsUpTo l refs i))]⟩,
    fun i => i ≤ refs.length, fun i => refs.length - i⟩
noncomputable def in42o_7 (l : List Msg) (refs : List Int) : LoopInv :=
  ⟨Nat × Nat, fun p => ⟨[(0, encL (encMsg 1) 1 l), (1, encL encI 1 refs), (5, .omap 1024), (6, .int .i64 (topOf (certsSeen l refs p.1 p.2))), (16, encL encI 1 refs), (17, .int .i64 refs.length), (18, .int .i64 p.1), (26, encL (encCert 1) 1 (atM l (refs.getD p.1 default)).certs), (27, .int .i64 (atM l (refs.getD p.1 default)).certs.length), (28, .int .i64 p.2)], [(1024, mpK (certsSeen l refs p.1 p.2))]⟩,
    fun p => p.1 < refs.length ∧ p.2 ≤ (atM l (refs.getD p.1 default)).certs.length, fun p => (atM l (refs.getD p.1 default)).certs.length - p.2⟩
noncomputable def in42o_17 (l : List Msg) (refs : List Int) : LoopInv :=
  ⟨Nat, fun s => ⟨[(5, .omap 1024), (6, .int .i64 (topOf (certsAll l refs))), (13, .osl (canonT 13) (outTo (certsAll l refs) s).length), (14, .int .i64 (s + 1))], [(canonT 13, .arr 1 (outTo (certsAll l refs) s).length (gL encI (outTo (certsAll l refs) s)) tagS), (1024, mpK (certsAll l refs))]⟩,
    fun s => (s : Int) ≤ topOf (certsAll l refs), fun s => (topOf (certsAll l refs)).toNat - s⟩
noncomputable def iv42o (l : List Msg) (refs : List Int) : Nat → Option LoopInv := fun rg_ => match rg_ with
  | 4 => some (in42o_4 l refs)
  | 7 => some (in42o_7 l refs)
  | 17 => some (in42o_17 l refs)
  | _ => none
noncomputable def D42o : Nat → Option (Bool × FSpec) := lk []
theorem da42o : SoundAll Tryz.prog D42o := soundAll_nil
noncomputable def cx42o (l : List Msg) (refs : List Int) : Cx := ⟨tt, D42o, Tryz.f42.ntmps, [0, 1, 4, 5, 6, 8, 10, 11, 12, 13, 14, 16, 17, 18, 19, 26, 27, 28, 29, 51, 61], [(4, ⟨[(0, none), (1, none), (5, none), (6, none), (16, none), (17, none), (18, none)], [(1024, [])]⟩), (7, ⟨[(0, none), (1, none), (5, none), (6, none), (16, none), (17, none), (18, none), (26, none), (27, none), (28, none)], [(1024, [])]⟩), (17, ⟨[(5, none), (6, none), (13, some 1), (14, none)], [(1024, [])]⟩)], [], iv42o l refs, [], noM, [7]⟩
theorem bd42o (l : List Msg) (refs : List Int) (hpre : pr42o l refs) : bodyO (cx42o l refs) Tryz.f42 [(0, 1)] [encL (encMsg 1) 1 (l), encL encI 1 (refs)] [] (fun rr bs => VLe rr (rs42o l refs) ∧ BinLe bs (rb42o l refs)) := by
  have key :
      ((∃ x : Nat, ((SLe
   (AS.mk
   [(0, encL (encMsg 1) 1 l), (1, encL encI 1 refs),
   (5, V.omap 1024), (6, V.int IntKind.i64 (0 : Int)),
   (16, encL encI 1 refs), (17, V.int IntKind.i64 (↑(List.length refs) : Int)),
   (18, V.int IntKind.i64 (0 : Int))]
   [(1024,
   Blk.mp (V.agg [V.int IntKind.i64 (0 : Int), V.int IntKind.i64 (0 : Int), V.int IntKind.i64 (0 : Int)])
   (fun (x : Int) ↦
   V.agg [V.int IntKind.i64 (0 : Int), V.int IntKind.i64 (0 : Int), V.int IntKind.i64 (0 : Int)])
   fun (x : Int) ↦ false)])
   (AS.mk
   [(0, encL (encMsg 1) 1 l), (1, encL encI 1 refs),
   (5, V.omap 1024), (6, V.int IntKind.i64 (topOf (certsUpTo l refs x))),
   (16, encL encI 1 refs), (17, V.int IntKind.i64 (↑(List.length refs) : Int)),
   (18, V.int IntKind.i64 (↑x : Int))]
   [(1024,
   Blk.mp (encCert 1 (Cert.mk (0 : Int) (0 : Int) (0 : Int)))
   (fun (k : Int) ↦ encCert 1 (bestK (certsUpTo l refs x) k)) (hasK (certsUpTo l refs x)))])) ∧
   (x ≤ List.length refs))) ∧
   (∀ x : Nat,
   ((x ≤ List.length refs) →
   (((decide ((↑x : Int) < (↑(List.length refs) : Int)) = true) →
   ((((0 : Int) ≤ (↑x : Int)) ∧
   ((↑x : Int) < (↑(List.length refs) : Int))) ∧
   ((((0 : Int) ≤ List.getD refs (Int.toNat (↑x : Int)) default) ∧
   (List.getD refs (Int.toNat (↑x : Int)) default < (↑(List.length l) : Int))) ∧
   (∃ R : Nat × Nat → Prop, ((∃ x_1 : Nat × Nat, ((SLe
   (AS.mk
   [(0, encL (encMsg 1) 1 l), (1, encL encI 1 refs),
   (5, V.omap 1024), (6, V.int IntKind.i64 (topOf (certsUpTo l refs x))),
   (16, encL encI 1 refs), (17, V.int IntKind.i64 (↑(List.length refs) : Int)),
   (18, V.int IntKind.i64 (↑x : Int)),
   (26,
   encL (encCert 1) 1
   (Msg.certs (List.getD l (Int.toNat (List.getD refs (Int.toNat (↑x : Int)) default)) default))),
   (27,
   V.int IntKind.i64
   (↑(List.length
   (Msg.certs (List.getD l (Int.toNat (List.getD refs (Int.toNat (↑x : Int)) default)) default))) :
   Int)),
   (28, V.int IntKind.i64 (0 : Int))]
   [(1024,
   Blk.mp (encCert 1 (Cert.mk (0 : Int) (0 : Int) (0 : Int)))
   (fun (k : Int) ↦ encCert 1 (bestK (certsUpTo l refs x) k)) (hasK (certsUpTo l refs x)))])
   (AS.mk
   [(0, encL (encMsg 1) 1 l), (1, encL encI 1 refs),
   (5, V.omap 1024),
   (6, V.int IntKind.i64 (topOf (certsSeen l refs (Prod.fst x_1) (Prod.snd x_1)))),
   (16, encL encI 1 refs), (17, V.int IntKind.i64 (↑(List.length refs) : Int)),
   (18, V.int IntKind.i64 (↑(Prod.fst x_1) : Int)),
   (26, encL (encCert 1) 1 (Msg.certs (atM l (List.getD refs (Prod.fst x_1) default)))),
   (27,
   V.int IntKind.i64 (↑(List.length (Msg.certs (atM l (List.getD refs (Prod.fst x_1) default)))) : Int)),
   (28, V.int IntKind.i64 (↑(Prod.snd x_1) : Int))]
   [(1024,
   Blk.mp (encCert 1 (Cert.mk (0 : Int) (0 : Int) (0 : Int)))
   (fun (k : Int) ↦ encCert 1 (bestK (certsSeen l refs (Prod.fst x_1) (Prod.snd x_1)) k))
   (hasK (certsSeen l refs (Prod.fst x_1) (Prod.snd x_1))))])) ∧
   (((Prod.fst x_1 < List.length refs) ∧
   (Prod.snd x_1 ≤ List.length (Msg.certs (atM l (List.getD refs (Prod.fst x_1) default))))) ∧
   (R x_1)))) ∧
   (∀ x_1 : Nat × Nat,
   (((Prod.fst x_1 < List.length refs) ∧
   (Prod.snd x_1 ≤ List.length (Msg.certs (atM l (List.getD refs (Prod.fst x_1) default))))) →
   ((R x_1) →
   (((decide ((↑(Prod.snd x_1) : Int) < (↑(List.length (Msg.certs (atM l (List.getD refs (Prod.fst x_1) default)))) : Int)) =
   true) →
   ((((0 : Int) ≤ (↑(Prod.snd x_1) : Int)) ∧
   ((↑(Prod.snd x_1) : Int) < (↑(List.length (Msg.certs (atM l (List.getD refs (Prod.fst x_1) default)))) : Int))) ∧
   ((tq (!!hasK (certsSeen l refs (Prod.fst x_1) (Prod.snd x_1))
   (Cert.slot
   (List.getD (Msg.certs (atM l (List.getD refs (Prod.fst x_1) default))) (Int.toNat (↑(Prod.snd x_1) : Int))
   default)))) ∧
   ((tq (!!hasK (certsSeen l refs (Prod.fst x_1) (Prod.snd x_1))
   (Cert.slot
   (List.getD (Msg.certs (atM l (List.getD refs (Prod.fst x_1) default))) (Int.toNat (↑(Prod.snd x_1) : Int))
   default)))) ∧
   ((tq (!!hasK (certsSeen l refs (Prod.fst x_1) (Prod.snd x_1))
   (Cert.slot
   (List.getD (Msg.certs (atM l (List.getD refs (Prod.fst x_1) default))) (Int.toNat (↑(Prod.snd x_1) : Int))
   default)))) ∧
   ((tq (!!hasK (certsSeen l refs (Prod.fst x_1) (Prod.snd x_1))
   (Cert.slot
   (List.getD (Msg.certs (atM l (List.getD refs (Prod.fst x_1) default))) (Int.toNat (↑(Prod.snd x_1) : Int))
   default)))) ∧
   (((true = true) →
   (((!hasK (certsSeen l refs (Prod.fst x_1) (Prod.snd x_1))
   (Cert.slot
   (List.getD (Msg.certs (atM l (List.getD refs (Prod.fst x_1) default))) (Int.toNat (↑(Prod.snd x_1) : Int))
   default))) =
   false) →
   ((!!hasK (certsSeen l refs (Prod.fst x_1) (Prod.snd x_1))
   (Cert.slot
   (List.getD (Msg.certs (atM l (List.getD refs (Prod.fst x_1) default))) (Int.toNat (↑(Prod.snd x_1) : Int))
   default))) =
   true))) ∧
   (∀ b : Bool,
   ((b =
   bif
   !hasK (certsSeen l refs (Prod.fst x_1) (Prod.snd x_1))
   (Cert.slot
   (List.getD (Msg.certs (atM l (List.getD refs (Prod.fst x_1) default))) (Int.toNat (↑(Prod.snd x_1) : Int))
   default)) then
   true
   else
   decide
   (Cert.view
   (List.getD (Msg.certs (atM l (List.getD refs (Prod.fst x_1) default))) (Int.toNat (↑(Prod.snd x_1) : Int))
   default) >
   Cert.view
   (bestK (certsSeen l refs (Prod.fst x_1) (Prod.snd x_1))
   (Cert.slot
   (List.getD (Msg.certs (atM l (List.getD refs (Prod.fst x_1) default))) (Int.toNat (↑(Prod.snd x_1) : Int))
   default))))) →
   (((b = true) →
   ((inK IntKind.i64 ((↑(Prod.snd x_1) : Int) + (1 : Int))) ∧
   (∃ y : Nat × Nat, ((SLe
   (AS.mk
   [(0, encL (encMsg 1) 1 l), (1, encL encI 1 refs),
   (5, V.omap 1024),
   (6,
   V.int IntKind.i64
   (if
   Cert.slot
   (List.getD (Msg.certs (atM l (List.getD refs (Prod.fst x_1) default)))
   (Int.toNat (↑(Prod.snd x_1) : Int)) default) >
   topOf (certsSeen l refs (Prod.fst x_1) (Prod.snd x_1)) then
   Cert.slot
   (List.getD (Msg.certs (atM l (List.getD refs (Prod.fst x_1) default))) (Int.toNat (↑(Prod.snd x_1) : Int))
   default)
   else topOf (certsSeen l refs (Prod.fst x_1) (Prod.snd x_1)))),
   (16, encL encI 1 refs), (17, V.int IntKind.i64 (↑(List.length refs) : Int)),
   (18, V.int IntKind.i64 (↑(Prod.fst x_1) : Int)),
   (26, encL (encCert 1) 1 (Msg.certs (atM l (List.getD refs (Prod.fst x_1) default)))),
   (27,
   V.int IntKind.i64 (↑(List.length (Msg.certs (atM l (List.getD refs (Prod.fst x_1) default)))) : Int)),
   (28, V.int IntKind.i64 ((↑(Prod.snd x_1) : Int) + (1 : Int)))]
   [(1024,
   Blk.mp (encCert 1 (Cert.mk (0 : Int) (0 : Int) (0 : Int)))
   (setF (fun (k : Int) ↦ encCert 1 (bestK (certsSeen l refs (Prod.fst x_1) (Prod.snd x_1)) k))
   (Cert.slot
   (List.getD (Msg.certs (atM l (List.getD refs (Prod.fst x_1) default))) (Int.toNat (↑(Prod.snd x_1) : Int))
   default))
   (encCert 1
   (List.getD (Msg.certs (atM l (List.getD refs (Prod.fst x_1) default))) (Int.toNat (↑(Prod.snd x_1) : Int))
   default)))
   (setF (hasK (certsSeen l refs (Prod.fst x_1) (Prod.snd x_1)))
   (Cert.slot
   (List.getD (Msg.certs (atM l (List.getD refs (Prod.fst x_1) default))) (Int.toNat (↑(Prod.snd x_1) : Int))
   default))
   true))])
   (AS.mk
   [(0, encL (encMsg 1) 1 l), (1, encL encI 1 refs),
   (5, V.omap 1024),
   (6, V.int IntKind.i64 (topOf (certsSeen l refs (Prod.fst y) (Prod.snd y)))),
   (16, encL encI 1 refs), (17, V.int IntKind.i64 (↑(List.length refs) : Int)),
   (18, V.int IntKind.i64 (↑(Prod.fst y) : Int)),
   (26, encL (encCert 1) 1 (Msg.certs (atM l (List.getD refs (Prod.fst y) default)))),
   (27, V.int IntKind.i64 (↑(List.length (Msg.certs (atM l (List.getD refs (Prod.fst y) default)))) : Int)),
   (28, V.int IntKind.i64 (↑(Prod.snd y) : Int))]
   [(1024,
   Blk.mp (encCert 1 (Cert.mk (0 : Int) (0 : Int) (0 : Int)))
   (fun (k : Int) ↦ encCert 1 (bestK (certsSeen l refs (Prod.fst y) (Prod.snd y)) k))
   (hasK (certsSeen l refs (Prod.fst y) (Prod.snd y))))])) ∧
   (((Prod.fst y < List.length refs) ∧
   (Prod.snd y ≤ List.length (Msg.certs (atM l (List.getD refs (Prod.fst y) default))))) ∧
   ((R y) ∧
   (List.length (Msg.certs (atM l (List.getD refs (Prod.fst y) default))) - Prod.snd y <
   List.length (Msg.certs (atM l (List.getD refs (Prod.fst x_1) default))) - Prod.snd x_1))))))) ∧
   ((b = false) →
   ((inK IntKind.i64 ((↑(Prod.snd x_1) : Int) + (1 : Int))) ∧
   (∃ y : Nat × Nat, ((SLe
   (AS.mk
   [(0, encL (encMsg 1) 1 l), (1, encL encI 1 refs),
   (5, V.omap 1024),
   (6,
   V.int IntKind.i64
   (if
   Cert.slot
   (List.getD (Msg.certs (atM l (List.getD refs (Prod.fst x_1) default)))
   (Int.toNat (↑(Prod.snd x_1) : Int)) default) >
   topOf (certsSeen l refs (Prod.fst x_1) (Prod.snd x_1)) then
   Cert.slot
   (List.getD (Msg.certs (atM l (List.getD refs (Prod.fst x_1) default))) (Int.toNat (↑(Prod.snd x_1) : Int))
   default)
   else topOf (certsSeen l refs (Prod.fst x_1) (Prod.snd x_1)))),
   (16, encL encI 1 refs), (17, V.int IntKind.i64 (↑(List.length refs) : Int)),
   (18, V.int IntKind.i64 (↑(Prod.fst x_1) : Int)),
   (26, encL (encCert 1) 1 (Msg.certs (atM l (List.getD refs (Prod.fst x_1) default)))),
   (27,
   V.int IntKind.i64 (↑(List.length (Msg.certs (atM l (List.getD refs (Prod.fst x_1) default)))) : Int)),
   (28, V.int IntKind.i64 ((↑(Prod.snd x_1) : Int) + (1 : Int)))]
   [(1024,
   Blk.mp (encCert 1 (Cert.mk (0 : Int) (0 : Int) (0 : Int)))
   (fun (k : Int) ↦ encCert 1 (bestK (certsSeen l refs (Prod.fst x_1) (Prod.snd x_1)) k))
   (hasK (certsSeen l refs (Prod.fst x_1) (Prod.snd x_1))))])
   (AS.mk
   [(0, encL (encMsg 1) 1 l), (1, encL encI 1 refs),
   (5, V.omap 1024),
   (6, V.int IntKind.i64 (topOf (certsSeen l refs (Prod.fst y) (Prod.snd y)))),
   (16, encL encI 1 refs), (17, V.int IntKind.i64 (↑(List.length refs) : Int)),
   (18, V.int IntKind.i64 (↑(Prod.fst y) : Int)),
   (26, encL (encCert 1) 1 (Msg.certs (atM l (List.getD refs (Prod.fst y) default)))),
   (27, V.int IntKind.i64 (↑(List.length (Msg.certs (atM l (List.getD refs (Prod.fst y) default)))) : Int)),
   (28, V.int IntKind.i64 (↑(Prod.snd y) : Int))]
   [(1024,
   Blk.mp (encCert 1 (Cert.mk (0 : Int) (0 : Int) (0 : Int)))
   (fun (k : Int) ↦ encCert 1 (bestK (certsSeen l refs (Prod.fst y) (Prod.snd y)) k))
   (hasK (certsSeen l refs (Prod.fst y) (Prod.snd y))))])) ∧
   (((Prod.fst y < List.length refs) ∧
   (Prod.snd y ≤ List.length (Msg.certs (atM l (List.getD refs (Prod.fst y) default))))) ∧
   ((R y) ∧
   (List.length (Msg.certs (atM l (List.getD refs (Prod.fst y) default))) - Prod.snd y <
   List.length (Msg.certs (atM l (List.getD refs (Prod.fst x_1) default))) - Prod.snd x_1))))))))))))))))) ∧
   ((decide ((↑(Prod.snd x_1) : Int) < (↑(List.length (Msg.certs (atM l (List.getD refs (Prod.fst x_1) default)))) : Int)) =
   false) →
   ((inK IntKind.i64 ((↑(Prod.fst x_1) : Int) + (1 : Int))) ∧
   (∃ y : Nat, ((SLe
   (AS.mk
   [(0, encL (encMsg 1) 1 l), (1, encL encI 1 refs),
   (5, V.omap 1024),
   (6, V.int IntKind.i64 (topOf (certsSeen l refs (Prod.fst x_1) (Prod.snd x_1)))),
   (16, encL encI 1 refs), (17, V.int IntKind.i64 (↑(List.length refs) : Int)),
   (18, V.int IntKind.i64 ((↑(Prod.fst x_1) : Int) + (1 : Int)))]
   [(1024,
   Blk.mp (encCert 1 (Cert.mk (0 : Int) (0 : Int) (0 : Int)))
   (fun (k : Int) ↦ encCert 1 (bestK (certsSeen l refs (Prod.fst x_1) (Prod.snd x_1)) k))
   (hasK (certsSeen l refs (Prod.fst x_1) (Prod.snd x_1))))])
   (AS.mk
   [(0, encL (encMsg 1) 1 l), (1, encL encI 1 refs),
   (5, V.omap 1024), (6, V.int IntKind.i64 (topOf (certsUpTo l refs y))),
   (16, encL encI 1 refs), (17, V.int IntKind.i64 (↑(List.length refs) : Int)),
   (18, V.int IntKind.i64 (↑y : Int))]
   [(1024,
   Blk.mp (encCert 1 (Cert.mk (0 : Int) (0 : Int) (0 : Int)))
   (fun (k : Int) ↦ encCert 1 (bestK (certsUpTo l refs y) k)) (hasK (certsUpTo l refs y)))])) ∧
   ((y ≤ List.length refs) ∧
   (List.length refs - y < List.length refs - x))))))))))))))) ∧
   ((decide ((↑x : Int) < (↑(List.length refs) : Int)) = false) →
   ((∃ x_1 : Nat, ((SLe
   (AS.mk
   [(5, V.omap 1024), (6, V.int IntKind.i64 (topOf (certsUpTo l refs x))),
   (13, V.osl 32000896 0), (14, V.int IntKind.i64 (1 : Int))]
   [(32000896, Blk.arr 1 0 (rowg []) 100),
   (1024,
   Blk.mp (encCert 1 (Cert.mk (0 : Int) (0 : Int) (0 : Int)))
   (fun (k : Int) ↦ encCert 1 (bestK (certsUpTo l refs x) k)) (hasK (certsUpTo l refs x)))])
   (AS.mk
   [(5, V.omap 1024), (6, V.int IntKind.i64 (topOf (certsAll l refs))),
   (13, V.osl 32000896 (List.length (outTo (certsAll l refs) x_1))),
   (14, V.int IntKind.i64 ((↑x_1 : Int) + (1 : Int)))]
   [(32000896,
   Blk.arr 1 (List.length (outTo (certsAll l refs) x_1)) (gL encI (outTo (certsAll l refs) x_1))
   100),
   (1024,
   Blk.mp (encCert 1 (Cert.mk (0 : Int) (0 : Int) (0 : Int)))
   (fun (k : Int) ↦ encCert 1 (bestK (certsAll l refs) k)) (hasK (certsAll l refs)))])) ∧
   ((↑x_1 : Int) ≤ topOf (certsAll l refs)))) ∧
   (∀ x_1 : Nat,
   (((↑x_1 : Int) ≤ topOf (certsAll l refs)) →
   (((decide ((↑x_1 : Int) + (1 : Int) ≤ topOf (certsAll l refs)) = true) →
   ((List.length (outTo (certsAll l refs) x_1) = List.length (outTo (certsAll l refs) x_1)) ∧
   ((List.length (outTo (certsAll l refs) x_1) + 1 ≤ 1073741824) ∧
   ((sizedL 1 1 (rowg [V.int IntKind.i64 (Cert.value (bestK (certsAll l refs) ((↑x_1 : Int) + (1 : Int))))])) ∧
   ((inK IntKind.i64 ((↑x_1 : Int) + (1 : Int) + (1 : Int))) ∧
   (∃ y : Nat, ((SLe
   (AS.mk
   [(5, V.omap 1024), (6, V.int IntKind.i64 (topOf (certsAll l refs))),
   (13, V.osl 32000896 (List.length (outTo (certsAll l refs) x_1) + 1)),
   (14, V.int IntKind.i64 ((↑x_1 : Int) + (1 : Int) + (1 : Int)))]
   [(32000896,
   Blk.arr 1 (List.length (outTo (certsAll l refs) x_1) + 1)
   (appg (List.length (outTo (certsAll l refs) x_1)) (gL encI (outTo (certsAll l refs) x_1))
   (rowg [V.int IntKind.i64 (Cert.value (bestK (certsAll l refs) ((↑x_1 : Int) + (1 : Int))))]))
   100),
   (1024,
   Blk.mp (encCert 1 (Cert.mk (0 : Int) (0 : Int) (0 : Int)))
   (fun (k : Int) ↦ encCert 1 (bestK (certsAll l refs) k)) (hasK (certsAll l refs)))])
   (AS.mk
   [(5, V.omap 1024), (6, V.int IntKind.i64 (topOf (certsAll l refs))),
   (13, V.osl 32000896 (List.length (outTo (certsAll l refs) y))),
   (14, V.int IntKind.i64 ((↑y : Int) + (1 : Int)))]
   [(32000896,
   Blk.arr 1 (List.length (outTo (certsAll l refs) y)) (gL encI (outTo (certsAll l refs) y)) 100),
   (1024,
   Blk.mp (encCert 1 (Cert.mk (0 : Int) (0 : Int) (0 : Int)))
   (fun (k : Int) ↦ encCert 1 (bestK (certsAll l refs) k)) (hasK (certsAll l refs)))])) ∧
   (((↑y : Int) ≤ topOf (certsAll l refs)) ∧
   (Int.toNat (topOf (certsAll l refs)) - y < Int.toNat (topOf (certsAll l refs)) - x_1))))))))) ∧
   ((decide ((↑x_1 : Int) + (1 : Int) ≤ topOf (certsAll l refs)) = false) →
   ((VLe (V.osl 0 (List.length (outTo (certsAll l refs) x_1))) (V.osl 0 (List.length (ro42o l refs)))) ∧
   ((BLe (Blk.arr 1 (List.length (outTo (certsAll l refs) x_1)) (gL encI (outTo (certsAll l refs) x_1)) 100)
   (Blk.arr 1 (List.length (ro42o l refs)) (gL encI (ro42o l refs)) 100)) ∧
   (True))))))))))))) := by
    obtain ⟨⟨f, hr⟩, hl, hp, h7⟩ := hpre
    have hin : ∀ i, i < refs.length → isAt l (refs.getD i default) 4 := fun i hi => hp _ (by simp [hi])
    have hgc : ∀ r ∈ refs, ∀ c ∈ (atM l r).certs, inR c.slot 1 30 ∧ 0 ≤ c.view := fun r hr' c hc => by
      have := (hr.memGood (atM_mem (hp r hr').1)).certs c hc
      exact ⟨this.1, this.2.1.1⟩
    have htop := topOf_range (cs := certsAll l refs) (fun c hc => by obtain ⟨r, h1, h2⟩ := upTo_mem hc; exact (hgc r h1 c h2).1)
    have h240 := hr.len
    refine ⟨⟨0, sle_of ⟨rfl, VLe.refl _, rfl, VLe.refl _, rfl, VLe.refl _, rfl, VLe.refl _, rfl, VLe.refl _, rfl, VLe.refl _, rfl, VLe.refl _, trivial⟩ ⟨rfl, mp_nil, trivial⟩, by omega⟩, fun i hi => ⟨fun h => ?_, fun h => ?_⟩⟩
    · have hlt : i < refs.length := by simpa using h
      have hat := (hin i hlt).1
      unfold inL inR at hat
      simp only [Int.toNat_natCast]
      refine ⟨by omega, by omega, fun p => p.1 = i, ⟨(i, 0), ?_, ⟨hlt, by omega⟩, rfl⟩, ?_⟩
      · rw [certsSeen_zero]
        exact sle_of ⟨rfl, VLe.refl _, rfl, VLe.refl _, rfl, VLe.refl _, rfl, VLe.refl _, rfl, VLe.refl _, rfl, VLe.refl _, rfl, VLe.refl _, rfl, VLe.refl _, rfl, VLe.refl _, rfl, VLe.refl _, trivial⟩ ⟨rfl, BLe.refl _, trivial⟩
      rintro ⟨i', k⟩ ⟨_, hk⟩ hR
      simp only at hR
      subst hR
      simp only at hk ⊢
      have hmem : refs.getD i' default ∈ refs := by simp [hlt]
      refine ⟨fun h => ?_, fun h => ?_⟩
      · have hkl : k < (atM l (refs.getD i' default)).certs.length := by simpa using h
        have hs := certsSeen_succ hkl
        have hc := hgc _ hmem ((atM l (refs.getD i' default)).certs.getD k default) (getD_mem hkl)
        have hfew := (hr.memGood (atM_mem (hp _ hmem).1)).few
        unfold few at hfew
        refine ⟨by omega, ?_⟩
        repeat (first | (refine And.intro (fun h _ => h) ?_) | (refine And.intro (fun _ h => h) ?_) | (refine And.intro ?aa ?_; case aa => (exact trivial)) | (refine And.intro ?aa ?_; case aa => (intros; simp_all []; done)) | (refine And.intro ?aa ?_; case aa => (intros; exact inK64 (by omega))) | (refine And.intro ?aa ?_; case aa => (intros; simp only [decide_eq_true_eq] at *; omega)) | (intro q hq))
        rw [takes_eq hc.2] at hq
        have et : ∀ c, c = (atM l (refs.getD i' default)).certs.getD k default → (if c.slot > topOf (certsSeen l refs i' k) then c.slot else topOf (certsSeen l refs i' k)) = topOf (certsSeen l refs i' (k + 1)) := by
          rintro c rfl
          rw [hs, topOf_snoc]
          split <;> omega
        rw [et _ rfl]
        refine ⟨fun h => ⟨inK64 (by omega), (i', k + 1), ?_, ⟨hlt, by simp only; omega⟩, rfl, by simp only; omega⟩, fun h => ⟨inK64 (by omega), (i', k + 1), ?_, ⟨hlt, by simp only; omega⟩, rfl, by simp only; omega⟩⟩
        · rw [hq] at h
          have h1 := mp_step (of_decide_eq_true h) hc.2
          rw [← hs] at h1
          exact sle_of ⟨rfl, VLe.refl _, rfl, VLe.refl _, rfl, VLe.refl _, rfl, VLe.refl _, rfl, VLe.refl _, rfl, VLe.refl _, rfl, VLe.refl _, rfl, VLe.refl _, rfl, VLe.refl _, rfl, vle_int (by omega), trivial⟩ ⟨rfl, h1, trivial⟩
        · rw [hq] at h
          have h1 := mp_same (of_decide_eq_false h)
          rw [← hs] at h1
          have h2 : BLe (mpK (certsSeen l refs i' k)) (mpK (certsSeen l refs i' (k + 1))) := by rw [h1]; exact BLe.refl _
          exact sle_of ⟨rfl, VLe.refl _, rfl, VLe.refl _, rfl, VLe.refl _, rfl, VLe.refl _, rfl, VLe.refl _, rfl, VLe.refl _, rfl, VLe.refl _, rfl, VLe.refl _, rfl, VLe.refl _, rfl, vle_int (by omega), trivial⟩ ⟨rfl, h2, trivial⟩
      · have hkl : k = (atM l (refs.getD i' default)).certs.length := by have := of_decide_eq_false h; omega
        subst hkl
        rw [certsSeen_all hlt]
        exact ⟨inK64 (by omega), i' + 1, sle_of ⟨rfl, VLe.refl _, rfl, VLe.refl _, rfl, VLe.refl _, rfl, VLe.refl _, rfl, VLe.refl _, rfl, VLe.refl _, rfl, vle_int (by omega), trivial⟩ ⟨rfl, BLe.refl _, trivial⟩, by omega, by omega⟩
    · have hge : i = refs.length := by simp at h; omega
      subst hge
      have hv : ∀ c ∈ certsAll l refs, 0 ≤ c.view := fun c hc => by obtain ⟨r, h1, h2⟩ := upTo_mem hc; exact (hgc r h1 c h2).2
      refine ⟨⟨0, sle_of ⟨rfl, VLe.refl _, rfl, VLe.refl _, rfl, VLe.refl _, rfl, VLe.refl _, trivial⟩ ⟨rfl, ble_nil _, rfl, BLe.refl _, trivial⟩, htop.1⟩, fun s hs => ⟨fun h => ?_, fun h => ?_⟩⟩
      · have hlt : (s : Int) + 1 ≤ topOf (certsAll l refs) := by simpa using h
        refine ⟨rfl, by rw [outTo_len]; omega, fun k hk => ?_, inK64 (by omega), s + 1, ?_, by omega, by omega⟩
        · have hk0 : k = 0 := by omega
          subst hk0
          exact ⟨rfl, rfl⟩
        · rw [outTo_succ, List.length_append, bestVal hv]
          exact sle_of ⟨rfl, VLe.refl _, rfl, VLe.refl _, rfl, VLe.refl _, rfl, vle_int (by omega), trivial⟩ ⟨rfl, ble_push rfl rfl, rfl, BLe.refl _, trivial⟩
      · have e : (s : Int) = topOf (certsAll l refs) := by simp at h; omega
        have e2 : pickL l refs = outTo (certsAll l refs) s := by
          unfold pickL outTo
          rw [← e]
          rfl
        unfold ro42o
        rw [e2]
        exact ⟨VLe.refl _, BLe.refl _, trivial⟩
  exact Eq.mp (by kernel_rfl) key
theorem so42o : Sound Tryz.prog 42 sp42o := by
  refine sound_of_bodyO hmix (tpl := [(0, 1)]) Tryz.func42 rfl (by kernel_rfl) fun args bin ob r bout hDe hob => ?_
  unfold sp42o at hDe
  split at hDe
  · rename_i a0 a1
    cases hDe
    exact ⟨Nat.le_of_ble_eq_true (by kernel_rfl), cx42o ((decL decMsg) a0) ((decL decI) a1), Eq.mp (by kernel_rfl) htt, Eq.mp (by kernel_rfl) da42o, Eq.mp (by kernel_rfl) (noM_sound (P := Tryz.prog)), by kernel_rfl, [encL (encMsg 1) 1 (((decL decMsg) a0)), encL encI 1 (((decL decI) a1))], [], args_of_vles (⟨hob.1, hob.2.1, trivial⟩), trivial, Eq.mp (by kernel_rfl) (bd42o ((decL decMsg) a0) ((decL decI) a1) (hob.2.2))⟩
  · cases hDe

noncomputable instance (l : List Msg) (refs : List Int) : Decidable (pickOk l refs) := Classical.propDecidable _
noncomputable def pickOfF (f : Int) (l : List Msg) (refs : List Int) : IntsResult :=
  if ledgerFault f l ≠ 0 then ⟨ledgerFault f l, []⟩ else if 3 * f + 1 < (refs.length : Int) then ⟨2, []⟩ else if ¬ pickOk l refs then ⟨4, []⟩ else ⟨0, pickL l refs⟩
theorem pickL_len {f : Int} {l : List Msg} {refs : List Int} (hr : Right f l) (hp : pickOk l refs) : (pickL l refs).length ≤ 30 := by
  have := topOf_range (cs := certsAll l refs) (fun c hc => by
    obtain ⟨r, h1, h2⟩ := upTo_mem hc
    exact ((hr.memGood (atM_mem (hp r h1).1)).certs c h2).1)
  unfold pickL
  rw [List.length_map, List.length_range]
  omega
theorem pickOfF_len (f : Int) (l : List Msg) (refs : List Int) : (pickOfF f l refs).list.length ≤ 240 := by
  have hz : (0 : Nat) ≤ 240 := by omega
  unfold pickOfF
  split
  · exact hz
  · rename_i h0
    split
    · exact hz
    · split
      · exact hz
      · rename_i h1
        exact Nat.le_trans (pickL_len (right_of (Classical.not_not.1 h0)) (Classical.not_not.1 h1)) (by omega)

end Go.Av
