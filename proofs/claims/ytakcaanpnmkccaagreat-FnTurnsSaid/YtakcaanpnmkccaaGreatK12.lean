/- What a replica committed below a view. -/
import Derived.Test.YtakcaanpnmkccaaGreatK3
import Derived.Test.YtakcaanpnmkccaaGreatP21
namespace Go.Av
open Go.Proofs
set_option maxRecDepth 100000
set_option linter.unusedVariables false
set_option linter.unusedSimpArgs false

/-- The best certificate of a slot, as the program has it: none: all is 0. -/
def bestC (b : Int × Int) (slot : Int) : Cert := if 0 ≤ b.1 then ⟨slot, b.1, b.2⟩ else ⟨0, 0, 0⟩


/-! ### impl.certsOf%o -/
def pr51o (l : List Msg) (id : Int) (view : Int) : Prop := (∃ f, Right f l) ∧ bdL l
noncomputable def ro51o (l : List Msg) (id : Int) (view : Int) : List Cert := certsL l id view
noncomputable def rb51o (l : List Msg) (id : Int) (view : Int) : List Blk := [(.arr 3 (ro51o l id view).length (gL (encCert 1) (ro51o l id view)) tagS)]
noncomputable def rs51o (l : List Msg) (id : Int) (view : Int) : V := .osl 0 (ro51o l id view).length
noncomputable def sp51o : FSpec := fun args bin => match args, bin with
  | [a0, .int .i64 a1, .int .i64 a2], [] => some (VLe a0 (encL (encMsg 1) 1 (((decL decMsg) a0))) ∧ pr51o ((decL decMsg) a0) a1 a2, rs51o ((decL decMsg) a0) a1 a2, rb51o ((decL decMsg) a0) a1 a2)
  | _, _ => none
noncomputable def in51o_3 (l : List Msg) (id : Int) (view : Int) : LoopInv :=
  ⟨Nat, fun s => ⟨[(0, encL (encMsg 1) 1 l), (1, .int .i64 id), (2, .int .i64 view), (7, .osl (canonT 7) (certsTo l id view s).length), (8, .int .i64 (s + 1))], [(canonT 7, .arr 3 (certsTo l id view s).length (gL (encCert 1) (certsTo l id view s)) tagS)]⟩,
    fun s => s ≤ 30, fun s => 30 - s⟩
noncomputable def in51o_7 (l : List Msg) (id : Int) (view : Int) : LoopInv :=
  ⟨Nat × Nat, fun p => ⟨[(0, encL (encMsg 1) 1 l), (1, .int .i64 id), (2, .int .i64 view), (7, .osl (canonT 7) (certsTo l id view p.1).length), (8, .int .i64 (p.1 + 1)), (9, .oref 640 0 0), (10, .bool (decide (0 ≤ (newest l id (p.1 + 1) view p.2).1))), (19, encL (encMsg 1) 1 l), (20, .int .i64 l.length), (21, .int .i64 p.2)],
    [(canonT 7, .arr 3 (certsTo l id view p.1).length (gL (encCert 1) (certsTo l id view p.1)) tagS), (640, .box (encCert 1 (bestC (newest l id (p.1 + 1) view p.2) (p.1 + 1))).cells)]⟩,
    fun p => p.1 < 30 ∧ p.2 ≤ l.length, fun p => l.length - p.2⟩
noncomputable def iv51o (l : List Msg) (id : Int) (view : Int) : Nat → Option LoopInv := fun rg_ => match rg_ with
  | 3 => some (in51o_3 l id view)
  | 7 => some (in51o_7 l id view)
  | _ => none
noncomputable def D51o : Nat → Option (Bool × FSpec) := lk []
theorem da51o : SoundAll Tryz.prog D51o := soundAll_nil
noncomputable def cx51o (l : List Msg) (id : Int) (view : Int) : Cx := ⟨tt, D51o, Tryz.f51.ntmps, [0, 1, 2, 6, 7, 8, 9, 10, 12, 15, 19, 20, 21, 22, 56, 64], [(3, ⟨[(0, none), (1, none), (2, none), (7, some 3), (8, none)], []⟩), (7, ⟨[(0, none), (1, none), (2, none), (7, some 3), (8, none), (9, none), (10, none), (19, none), (20, none), (21, none)], [(640, [])]⟩)], [], iv51o l id view, [], noM, [7]⟩
noncomputable def k51o_0 (l : List Msg) (id : Int) (view : Int) (y : Nat × Nat) : AS := (AS.mk [(0, encL (encMsg 1) 1 l), (1, vi id), (2, vi view), (7, V.osl 32000512 (List.length (certsTo l id view y.1))), (8, vi ((↑y.1 : Int) + (1 : Int))), (9, V.oref 640 0 0), (10, V.bool (decide ((0 : Int) ≤ Prod.fst (newest l id ((↑y.1 : Int) + (1 : Int)) view y.2)))), (19, encL (encMsg 1) 1 l), (20, vi (↑(List.length l) : Int)), (21, vi (↑y.2 : Int))] [(32000512, Blk.arr 3 (List.length (certsTo l id view y.1)) (gL (encCert 1) (certsTo l id view y.1)) 100), (640, Blk.box [vi (Cert.slot (bestC (newest l id ((↑y.1 : Int) + (1 : Int)) view y.2) ((↑y.1 : Int) + (1 : Int)))), vi (Cert.view (bestC (newest l id ((↑y.1 : Int) + (1 : Int)) view y.2) ((↑y.1 : Int) + (1 : Int)))), vi (Cert.value (bestC (newest l id ((↑y.1 : Int) + (1 : Int)) view y.2) ((↑y.1 : Int) + (1 : Int))))])])
noncomputable def k51o_1 (l : List Msg) (id : Int) (view : Int) (x_1 : Nat × Nat) : List (Nat × Blk) := [(32000512, Blk.arr 3 (List.length (certsTo l id view x_1.1)) (gL (encCert 1) (certsTo l id view x_1.1)) 100), (640, Blk.box [vi (Cert.slot (bestC (newest l id ((↑x_1.1 : Int) + (1 : Int)) view x_1.2) ((↑x_1.1 : Int) + (1 : Int)))), vi (Cert.view (bestC (newest l id ((↑x_1.1 : Int) + (1 : Int)) view x_1.2) ((↑x_1.1 : Int) + (1 : Int)))), vi (Cert.value (bestC (newest l id ((↑x_1.1 : Int) + (1 : Int)) view x_1.2) ((↑x_1.1 : Int) + (1 : Int))))])]
noncomputable def k51o_2 (l : List Msg) (id : Int) (view : Int) (y : Nat) : AS := (AS.mk [(0, encL (encMsg 1) 1 l), (1, vi id), (2, vi view), (7, V.osl 32000512 (List.length (certsTo l id view y))), (8, vi ((↑y : Int) + (1 : Int)))] [(32000512, Blk.arr 3 (List.length (certsTo l id view y)) (gL (encCert 1) (certsTo l id view y)) 100)])
theorem bd51o (l : List Msg) (id : Int) (view : Int) (hpre : pr51o l id view) : bodyO (cx51o l id view) Tryz.f51 [(0, 3)] [encL (encMsg 1) 1 (l), .int .i64 (id), .int .i64 (view)] [] (fun rr bs => VLe rr (rs51o l id view) ∧ BinLe bs (rb51o l id view)) := by
  have key : ((∃ x : Nat, ((SLe (AS.mk [(0, encL (encMsg 1) 1 l), (1, vi id), (2, vi view), (7, V.osl 32000512 0), (8, vi (1 : Int))] [(32000512, Blk.arr 3 0 (rowg []) 100)]) (AS.mk [(0, encL (encMsg 1) 1 l), (1, vi id), (2, vi view), (7, V.osl 32000512 (List.length (certsTo l id view x))), (8, vi ((↑x : Int) + (1 : Int)))] [(32000512, Blk.arr 3 (List.length (certsTo l id view x)) (gL (encCert 1) (certsTo l id view x)) 100)])) ∧ (x ≤ 30))) ∧ (∀ x : Nat, ((x ≤ 30) → (((decide ((↑x : Int) + (1 : Int) ≤ (30 : Int)) = true) → (∃ R : Nat × Nat → Prop, ((∃ x_1 : Nat × Nat, ((SLe (AS.mk [(0, encL (encMsg 1) 1 l), (1, vi id), (2, vi view), (7, V.osl 32000512 (List.length (certsTo l id view x))), (8, vi ((↑x : Int) + (1 : Int))), (9, V.oref 640 0 0), (10, V.bool false), (19, encL (encMsg 1) 1 l), (20, vi (↑(List.length l) : Int)), (21, vi (0 : Int))] [(32000512, Blk.arr 3 (List.length (certsTo l id view x)) (gL (encCert 1) (certsTo l id view x)) 100), (640, Blk.box [vi (0 : Int), vi (0 : Int), vi (0 : Int)])]) (AS.mk [(0, encL (encMsg 1) 1 l), (1, vi id), (2, vi view), (7, V.osl 32000512 (List.length (certsTo l id view x_1.1))), (8, vi ((↑x_1.1 : Int) + (1 : Int))), (9, V.oref 640 0 0), (10, V.bool (decide ((0 : Int) ≤ Prod.fst (newest l id ((↑x_1.1 : Int) + (1 : Int)) view x_1.2)))), (19, encL (encMsg 1) 1 l), (20, vi (↑(List.length l) : Int)), (21, vi (↑x_1.2 : Int))] (k51o_1 l id view x_1))) ∧ (((Prod.fst x_1 < 30) ∧ (Prod.snd x_1 ≤ List.length l)) ∧ (R x_1)))) ∧ (∀ x_1 : Nat × Nat, (((Prod.fst x_1 < 30) ∧ (Prod.snd x_1 ≤ List.length l)) → ((R x_1) → (((decide ((↑x_1.2 : Int) < (↑(List.length l) : Int)) = true) → ((((0 : Int) ≤ (↑x_1.2 : Int)) ∧ ((↑x_1.2 : Int) < (↑(List.length l) : Int))) ∧ ((tq (Msg.kind (List.getD l (Int.toNat (↑x_1.2 : Int)) default) == (3 : Int))) ∧ ((tq (Msg.kind (List.getD l (Int.toNat (↑x_1.2 : Int)) default) == (3 : Int))) ∧ ((tq (Msg.kind (List.getD l (Int.toNat (↑x_1.2 : Int)) default) == (3 : Int))) ∧ (((true = true) → (((Msg.kind (List.getD l (Int.toNat (↑x_1.2 : Int)) default) == (3 : Int)) = true) → ((Msg.kind (List.getD l (Int.toNat (↑x_1.2 : Int)) default) == (3 : Int)) = true))) ∧ (∀ b : Bool, ((b = bif Msg.kind (List.getD l (Int.toNat (↑x_1.2 : Int)) default) == (3 : Int) then Msg.sender (List.getD l (Int.toNat (↑x_1.2 : Int)) default) == id else false) → ((tq (b)) ∧ ((tq (b)) ∧ ((tq (b)) ∧ (((true = true) → ((b = true) → (b = true))) ∧ (∀ b_1 : Bool, ((b_1 = bif b then Msg.slot (List.getD l (Int.toNat (↑x_1.2 : Int)) default) == (↑x_1.1 : Int) + (1 : Int) else false) → ((tq (b_1)) ∧ ((tq (b_1)) ∧ ((tq (b_1)) ∧ (((true = true) → ((b_1 = true) → (b_1 = true))) ∧ (∀ b_2 : Bool, ((b_2 = bif b_1 then decide (Msg.view (List.getD l (Int.toNat (↑x_1.2 : Int)) default) < view) else false) → ((tq (b_2)) ∧ ((tq (b_2)) ∧ ((tq (b_2 && !!decide ((0 : Int) ≤ Prod.fst (newest l id ((↑x_1.1 : Int) + (1 : Int)) view x_1.2)))) ∧ ((tq (b_2 && !!decide ((0 : Int) ≤ Prod.fst (newest l id ((↑x_1.1 : Int) + (1 : Int)) view x_1.2)))) ∧ ((tq (b_2 && !!decide ((0 : Int) ≤ Prod.fst (newest l id ((↑x_1.1 : Int) + (1 : Int)) view x_1.2)))) ∧ ((tq (b_2 && !!decide ((0 : Int) ≤ Prod.fst (newest l id ((↑x_1.1 : Int) + (1 : Int)) view x_1.2)))) ∧ ((tq (b_2)) ∧ (((b_2 = true) → ((b_2 = true) → (((!decide ((0 : Int) ≤ Prod.fst (newest l id ((↑x_1.1 : Int) + (1 : Int)) view x_1.2))) = false) → ((b_2 && !!decide ((0 : Int) ≤ Prod.fst (newest l id ((↑x_1.1 : Int) + (1 : Int)) view x_1.2))) = true)))) ∧ (∀ b_3 : Bool, ((b_3 = bif !decide ((0 : Int) ≤ Prod.fst (newest l id ((↑x_1.1 : Int) + (1 : Int)) view x_1.2)) then true else decide (Msg.view (List.getD l (Int.toNat (↑x_1.2 : Int)) default) > Cert.view (bestC (newest l id ((↑x_1.1 : Int) + (1 : Int)) view x_1.2) ((↑x_1.1 : Int) + (1 : Int))))) → (((true = true) → ((b_2 = true) → (b_2 = true))) ∧ (∀ b_4 : Bool, ((b_4 = bif b_2 then b_3 else false) → (((b_4 = true) → ((inK IntKind.i64 ((↑x_1.2 : Int) + (1 : Int))) ∧ (∃ y : Nat × Nat, ((SLe (AS.mk [(0, encL (encMsg 1) 1 l), (1, vi id), (2, vi view), (7, V.osl 32000512 (List.length (certsTo l id view x_1.1))), (8, vi ((↑x_1.1 : Int) + (1 : Int))), (9, V.oref 640 0 0), (10, V.bool true), (19, encL (encMsg 1) 1 l), (20, vi (↑(List.length l) : Int)), (21, vi ((↑x_1.2 : Int) + (1 : Int)))] [(32000512, Blk.arr 3 (List.length (certsTo l id view x_1.1)) (gL (encCert 1) (certsTo l id view x_1.1)) 100), (640, Blk.box [vi ((↑x_1.1 : Int) + (1 : Int)), vi (Msg.view (List.getD l (Int.toNat (↑x_1.2 : Int)) default)), vi (Msg.value (List.getD l (Int.toNat (↑x_1.2 : Int)) default))])]) (k51o_0 l id view y)) ∧ (((Prod.fst y < 30) ∧ (Prod.snd y ≤ List.length l)) ∧ ((R y) ∧ (List.length l - Prod.snd y < List.length l - Prod.snd x_1))))))) ∧ ((b_4 = false) → ((inK IntKind.i64 ((↑x_1.2 : Int) + (1 : Int))) ∧ (∃ y : Nat × Nat, ((SLe (AS.mk [(0, encL (encMsg 1) 1 l), (1, vi id), (2, vi view), (7, V.osl 32000512 (List.length (certsTo l id view x_1.1))), (8, vi ((↑x_1.1 : Int) + (1 : Int))), (9, V.oref 640 0 0), (10, V.bool (decide ((0 : Int) ≤ Prod.fst (newest l id ((↑x_1.1 : Int) + (1 : Int)) view x_1.2)))), (19, encL (encMsg 1) 1 l), (20, vi (↑(List.length l) : Int)), (21, vi ((↑x_1.2 : Int) + (1 : Int)))] (k51o_1 l id view x_1)) (k51o_0 l id view y)) ∧ (((Prod.fst y < 30) ∧ (Prod.snd y ≤ List.length l)) ∧ ((R y) ∧ (List.length l - Prod.snd y < List.length l - Prod.snd x_1))))))))))))))))))))))))))))))))))))))))) ∧ ((decide ((↑x_1.2 : Int) < (↑(List.length l) : Int)) = false) → (((decide ((0 : Int) ≤ Prod.fst (newest l id ((↑x_1.1 : Int) + (1 : Int)) view x_1.2)) = true) → ((List.length (certsTo l id view x_1.1) = List.length (certsTo l id view x_1.1)) ∧ ((List.length (certsTo l id view x_1.1) + 1 ≤ 1073741824) ∧ ((sizedL 3 1 (rowg [encCert 1 (bestC (newest l id ((↑x_1.1 : Int) + (1 : Int)) view x_1.2) ((↑x_1.1 : Int) + (1 : Int)))])) ∧ ((inK IntKind.i64 ((↑x_1.1 : Int) + (1 : Int) + (1 : Int))) ∧ (∃ y : Nat, ((SLe (AS.mk [(0, encL (encMsg 1) 1 l), (1, vi id), (2, vi view), (7, V.osl 32000512 (List.length (certsTo l id view x_1.1) + 1)), (8, vi ((↑x_1.1 : Int) + (1 : Int) + (1 : Int)))] [(32000512, Blk.arr 3 (List.length (certsTo l id view x_1.1) + 1) (appg (List.length (certsTo l id view x_1.1)) (gL (encCert 1) (certsTo l id view x_1.1)) (rowg [encCert 1 (bestC (newest l id ((↑x_1.1 : Int) + (1 : Int)) view x_1.2) ((↑x_1.1 : Int) + (1 : Int)))])) 100)]) (k51o_2 l id view y)) ∧ ((y ≤ 30) ∧ (30 - y < 30 - x))))))))) ∧ ((decide ((0 : Int) ≤ Prod.fst (newest l id ((↑x_1.1 : Int) + (1 : Int)) view x_1.2)) = false) → ((inK IntKind.i64 ((↑x_1.1 : Int) + (1 : Int) + (1 : Int))) ∧ (∃ y : Nat, ((SLe (AS.mk [(0, encL (encMsg 1) 1 l), (1, vi id), (2, vi view), (7, V.osl 32000512 (List.length (certsTo l id view x_1.1))), (8, vi ((↑x_1.1 : Int) + (1 : Int) + (1 : Int)))] [(32000512, Blk.arr 3 (List.length (certsTo l id view x_1.1)) (gL (encCert 1) (certsTo l id view x_1.1)) 100)]) (k51o_2 l id view y)) ∧ ((y ≤ 30) ∧ (30 - y < 30 - x))))))))))))))) ∧ ((decide ((↑x : Int) + (1 : Int) ≤ (30 : Int)) = false) → ((VLe (V.osl 0 (List.length (certsTo l id view x))) (V.osl 0 (List.length (ro51o l id view)))) ∧ ((BLe (Blk.arr 3 (List.length (certsTo l id view x)) (gL (encCert 1) (certsTo l id view x)) 100) (Blk.arr 3 (List.length (ro51o l id view)) (gL (encCert 1) (ro51o l id view)) 100)) ∧ (True)))))))) := by
    delta k51o_2; delta k51o_1; delta k51o_0; delta vi
    obtain ⟨⟨f, hr⟩, hl⟩ := hpre
    have h240 := hr.len
    unfold ro51o
    refine ⟨⟨0, sle_of ⟨rfl, VLe.refl _, rfl, VLe.refl _, rfl, VLe.refl _, rfl, VLe.refl _, rfl, VLe.refl _, trivial⟩ ⟨rfl, ble_nil _, trivial⟩, by omega⟩, fun s hs => ⟨fun h => ?_, fun h => ?_⟩⟩
    · have hs30 : s < 30 := by simp at h; omega
      have hcl := certsTo_len l id view s
      have hcs : certsTo l id view (s + 1) = certsTo l id view s ++ if 0 ≤ (newest l id (s + 1) view l.length).1 then [⟨s + 1, (newest l id (s + 1) view l.length).1, (newest l id (s + 1) view l.length).2⟩] else [] := rfl
      refine ⟨fun p => p.1 = s, ⟨(s, 0), ?_, ⟨hs30, by omega⟩, rfl⟩, ?_⟩
      · refine sle_of ⟨rfl, VLe.refl _, rfl, VLe.refl _, rfl, VLe.refl _, rfl, VLe.refl _, rfl, VLe.refl _, rfl, VLe.refl _, rfl, vle_bool (by simp [newest]), rfl, VLe.refl _, rfl, VLe.refl _, rfl, VLe.refl _, trivial⟩ ⟨rfl, BLe.refl _, rfl, ble_box ⟨VLe.refl _, VLe.refl _, VLe.refl _, trivial⟩, trivial⟩
      rintro ⟨s', i⟩ ⟨_, hi⟩ hR
      simp only at hR
      subst hR
      simp only at hi ⊢
      simp only [Int.toNat_natCast]
      have hrg := newest_range hr (id := id) (slot := (s' : Int) + 1) (view := view) i hi
      refine ⟨fun h => ?_, fun h => ?_⟩
      · have hlt : i < l.length := by simpa using h
        have hvm := (hr.good (i := i) hlt).ranged.1
        have hsu := newest_succ (id := id) (slot := (s' : Int) + 1) (view := view) hlt
        refine ⟨by omega, ?_⟩
        repeat (first | (refine And.intro (fun h _ => h) ?_) | (refine And.intro (fun _ h => h) ?_) | (refine And.intro ?aa ?_; case aa => (exact trivial)) | (refine And.intro ?aa ?_; case aa => (intros; simp_all []; done)) | (refine And.intro ?aa ?_; case aa => (intros; exact inK64 (by omega))) | (refine And.intro ?aa ?_; case aa => (intros; simp only [decide_eq_true_eq] at *; omega)) | (intro q hq))
        have e0 : q = decide ((l.getD i default).kind = 3 ∧ (l.getD i default).sender = id ∧ (l.getD i default).slot = (s' : Int) + 1 ∧ (l.getD i default).view < view ∧ (newest l id ((s' : Int) + 1) view i).1 < (l.getD i default).view) := by
          subst_vars
          rw [Bool.eq_iff_iff, decide_eq_true_eq]
          unfold inR at hvm
          have hnb : 0 ≤ (newest l id ((s' : Int) + 1) view i).1 → (bestC (newest l id ((s' : Int) + 1) view i) ((s' : Int) + 1)).view = (newest l id ((s' : Int) + 1) view i).1 := fun h => by unfold bestC; rw [if_pos h]
          by_cases a0 : 0 ≤ (newest l id ((s' : Int) + 1) view i).1
          · simp only [hnb a0, a0, decide_true, Bool.not_true, Bool.cond_false, Bool.cond_eq_ite]
            simp [and_assoc]
          · have : (newest l id ((s' : Int) + 1) view i).1 < (l.getD i default).view := by omega
            simp [a0, this, Bool.cond_eq_ite, and_assoc]
            try exact fun _ _ _ _ => by simpa using this
        clear hq
        unfold newer at hsu
        refine ⟨fun h => ⟨inK64 (by omega), (s', i + 1), ?_, ⟨by omega, by omega⟩, rfl, by simp only; omega⟩, fun h => ⟨inK64 (by omega), (s', i + 1), ?_, ⟨by omega, by omega⟩, rfl, by simp only; omega⟩⟩
        · rw [e0] at h
          rw [if_pos (of_decide_eq_true h)] at hsu
          have hv0 : 0 ≤ (l.getD i default).view := by unfold inR at hvm; omega
          simp only [hsu, bestC, if_pos hv0, hv0, decide_true]
          exact sle_of ⟨rfl, VLe.refl _, rfl, VLe.refl _, rfl, VLe.refl _, rfl, VLe.refl _, rfl, VLe.refl _, rfl, VLe.refl _, rfl, VLe.refl _, rfl, VLe.refl _, rfl, VLe.refl _, rfl, vle_int (by omega), trivial⟩ ⟨rfl, BLe.refl _, rfl, BLe.refl _, trivial⟩
        · rw [e0] at h
          rw [if_neg (of_decide_eq_false h)] at hsu
          simp only [hsu]
          exact sle_of ⟨rfl, VLe.refl _, rfl, VLe.refl _, rfl, VLe.refl _, rfl, VLe.refl _, rfl, VLe.refl _, rfl, VLe.refl _, rfl, VLe.refl _, rfl, VLe.refl _, rfl, VLe.refl _, rfl, vle_int (by omega), trivial⟩ ⟨rfl, BLe.refl _, rfl, BLe.refl _, trivial⟩
      · have hil : i = l.length := by simp at h; omega
        subst hil
        refine ⟨fun h => ⟨trivial, by omega, fun k hk => ?_, inK64 (by omega), s' + 1, ?_, by omega, by omega⟩, fun h => ⟨inK64 (by omega), s' + 1, ?_, by omega, by omega⟩⟩
        · have hk0 : k = 0 := by omega
          subst hk0
          exact ⟨rfl, rfl⟩
        · rw [if_pos (of_decide_eq_true h)] at hcs
          rw [hcs, List.length_append]
          have hb : bestC (newest l id ((s' : Int) + 1) view l.length) ((s' : Int) + 1) = ⟨(s' : Int) + 1, (newest l id ((s' : Int) + 1) view l.length).1, (newest l id ((s' : Int) + 1) view l.length).2⟩ := if_pos (of_decide_eq_true h)
          rw [hb]
          exact sle_of ⟨rfl, VLe.refl _, rfl, VLe.refl _, rfl, VLe.refl _, rfl, VLe.refl _, rfl, vle_int (by omega), trivial⟩ ⟨rfl, ble_push rfl rfl, trivial⟩
        · rw [if_neg (of_decide_eq_false h), List.append_nil] at hcs
          rw [hcs]
          exact sle_of ⟨rfl, VLe.refl _, rfl, VLe.refl _, rfl, VLe.refl _, rfl, VLe.refl _, rfl, vle_int (by omega), trivial⟩ ⟨rfl, BLe.refl _, trivial⟩
    · have : s = 30 := by simp at h; omega
      subst this
      exact ⟨VLe.refl _, BLe.refl _, trivial⟩
  exact Eq.mp (by kernel_rfl) key
theorem so51o : Sound Tryz.prog 51 sp51o := by
  refine sound_of_bodyO hmix (tpl := [(0, 3)]) Tryz.func51 rfl (by kernel_rfl) fun args bin ob r bout hDe hob => ?_
  unfold sp51o at hDe
  split at hDe
  · rename_i a0 a1 a2
    cases hDe
    exact ⟨Nat.le_of_ble_eq_true (by kernel_rfl), cx51o ((decL decMsg) a0) a1 a2, Eq.mp (by kernel_rfl) htt, Eq.mp (by kernel_rfl) da51o, Eq.mp (by kernel_rfl) (noM_sound (P := Tryz.prog)), by kernel_rfl, [encL (encMsg 1) 1 (((decL decMsg) a0)), .int .i64 (a1), .int .i64 (a2)], [], args_of_vles (⟨hob.1, VLe.refl _, VLe.refl _, trivial⟩), trivial, Eq.mp (by kernel_rfl) (bd51o ((decL decMsg) a0) a1 a2 (hob.2))⟩
  · cases hDe

/-! ### spec.l10Certs%o -/
def pr49o (l : List Msg) (id : Int) (view : Int) : Prop := (∃ f, Right f l) ∧ bdL l
noncomputable def ro49o (l : List Msg) (id : Int) (view : Int) : List Cert := certsL l id view
noncomputable def rb49o (l : List Msg) (id : Int) (view : Int) : List Blk := [(.arr 3 (ro49o l id view).length (gL (encCert 1) (ro49o l id view)) tagS)]
noncomputable def rs49o (l : List Msg) (id : Int) (view : Int) : V := .osl 0 (ro49o l id view).length
noncomputable def sp49o : FSpec := fun args bin => match args, bin with
  | [a0, .int .i64 a1, .int .i64 a2], [] => some (VLe a0 (encL (encMsg 1) 1 (((decL decMsg) a0))) ∧ pr49o ((decL decMsg) a0) a1 a2, rs49o ((decL decMsg) a0) a1 a2, rb49o ((decL decMsg) a0) a1 a2)
  | _, _ => none
noncomputable def in49o_3 (l : List Msg) (id : Int) (view : Int) : LoopInv :=
  ⟨Nat, fun s => ⟨[(0, encL (encMsg 1) 1 l), (1, .int .i64 id), (2, .int .i64 view), (7, .osl (canonT 7) (certsTo l id view s).length), (8, .int .i64 (s + 1))], [(canonT 7, .arr 3 (certsTo l id view s).length (gL (encCert 1) (certsTo l id view s)) tagS)]⟩,
    fun s => s ≤ 30, fun s => 30 - s⟩
noncomputable def in49o_7 (l : List Msg) (id : Int) (view : Int) : LoopInv :=
  ⟨Nat × Nat, fun p => ⟨[(0, encL (encMsg 1) 1 l), (1, .int .i64 id), (2, .int .i64 view), (7, .osl (canonT 7) (certsTo l id view p.1).length), (8, .int .i64 (p.1 + 1)), (9, .oref 640 0 0), (10, .int .i64 p.2)],
    [(canonT 7, .arr 3 (certsTo l id view p.1).length (gL (encCert 1) (certsTo l id view p.1)) tagS), (640, .box (encCert 1 ⟨p.1 + 1, (newest l id (p.1 + 1) view p.2).1, (newest l id (p.1 + 1) view p.2).2⟩).cells)]⟩,
    fun p => p.1 < 30 ∧ p.2 ≤ l.length, fun p => l.length - p.2⟩
noncomputable def iv49o (l : List Msg) (id : Int) (view : Int) : Nat → Option LoopInv := fun rg_ => match rg_ with
  | 3 => some (in49o_3 l id view)
  | 7 => some (in49o_7 l id view)
  | _ => none
noncomputable def D49o : Nat → Option (Bool × FSpec) := lk []
theorem da49o : SoundAll Tryz.prog D49o := soundAll_nil
noncomputable def cx49o (l : List Msg) (id : Int) (view : Int) : Cx := ⟨tt, D49o, Tryz.f49.ntmps, [0, 1, 2, 6, 7, 8, 9, 10, 11, 14, 22, 65, 78], [(3, ⟨[(0, none), (1, none), (2, none), (7, some 3), (8, none)], []⟩), (7, ⟨[(0, none), (1, none), (2, none), (7, some 3), (8, none), (9, none), (10, none)], [(640, [])]⟩)], [], iv49o l id view, [], noM, [7]⟩
noncomputable def k49o_0 (l : List Msg) (id : Int) (view : Int) (y : Nat × Nat) : AS := (AS.mk [(0, encL (encMsg 1) 1 l), (1, vi id), (2, vi view), (7, V.osl 32000512 (List.length (certsTo l id view y.1))), (8, vi ((↑y.1 : Int) + (1 : Int))), (9, V.oref 640 0 0), (10, vi (↑y.2 : Int))] [(32000512, Blk.arr 3 (List.length (certsTo l id view y.1)) (gL (encCert 1) (certsTo l id view y.1)) 100), (640, Blk.box [vi (Cert.slot (Cert.mk ((↑y.1 : Int) + (1 : Int)) (Prod.fst (newest l id ((↑y.1 : Int) + (1 : Int)) view y.2)) (Prod.snd (newest l id ((↑y.1 : Int) + (1 : Int)) view y.2)))), vi (Cert.view (Cert.mk ((↑y.1 : Int) + (1 : Int)) (Prod.fst (newest l id ((↑y.1 : Int) + (1 : Int)) view y.2)) (Prod.snd (newest l id ((↑y.1 : Int) + (1 : Int)) view y.2)))), vi (Cert.value (Cert.mk ((↑y.1 : Int) + (1 : Int)) (Prod.fst (newest l id ((↑y.1 : Int) + (1 : Int)) view y.2)) (Prod.snd (newest l id ((↑y.1 : Int) + (1 : Int)) view y.2))))])])
noncomputable def k49o_1 (l : List Msg) (id : Int) (view : Int) (x_1 : Nat × Nat) : List (Nat × Blk) := [(32000512, Blk.arr 3 (List.length (certsTo l id view x_1.1)) (gL (encCert 1) (certsTo l id view x_1.1)) 100), (640, Blk.box [vi (Cert.slot (Cert.mk ((↑x_1.1 : Int) + (1 : Int)) (Prod.fst (newest l id ((↑x_1.1 : Int) + (1 : Int)) view x_1.2)) (Prod.snd (newest l id ((↑x_1.1 : Int) + (1 : Int)) view x_1.2)))), vi (Cert.view (Cert.mk ((↑x_1.1 : Int) + (1 : Int)) (Prod.fst (newest l id ((↑x_1.1 : Int) + (1 : Int)) view x_1.2)) (Prod.snd (newest l id ((↑x_1.1 : Int) + (1 : Int)) view x_1.2)))), vi (Cert.value (Cert.mk ((↑x_1.1 : Int) + (1 : Int)) (Prod.fst (newest l id ((↑x_1.1 : Int) + (1 : Int)) view x_1.2)) (Prod.snd (newest l id ((↑x_1.1 : Int) + (1 : Int)) view x_1.2))))])]
noncomputable def k49o_2 (l : List Msg) (id : Int) (view : Int) (y : Nat) : AS := (AS.mk [(0, encL (encMsg 1) 1 l), (1, vi id), (2, vi view), (7, V.osl 32000512 (List.length (certsTo l id view y))), (8, vi ((↑y : Int) + (1 : Int)))] [(32000512, Blk.arr 3 (List.length (certsTo l id view y)) (gL (encCert 1) (certsTo l id view y)) 100)])
noncomputable def k49o_3 (l : List Msg) (id : Int) (view : Int) (x_1 : Nat × Nat) : List (Nat × V) := [(0, encL (encMsg 1) 1 l), (1, vi id), (2, vi view), (7, V.osl 32000512 (List.length (certsTo l id view x_1.1))), (8, vi ((↑x_1.1 : Int) + (1 : Int))), (9, V.oref 640 0 0), (10, vi ((↑x_1.2 : Int) + (1 : Int)))]
noncomputable def k49o_4 (l : List Msg) (id : Int) (view : Int) (x_1 : Nat × Nat) : List V := [encCert 1 (Cert.mk ((↑x_1.1 : Int) + (1 : Int)) (Prod.fst (newest l id ((↑x_1.1 : Int) + (1 : Int)) view x_1.2)) (Prod.snd (newest l id ((↑x_1.1 : Int) + (1 : Int)) view x_1.2)))]
theorem bd49o (l : List Msg) (id : Int) (view : Int) (hpre : pr49o l id view) : bodyO (cx49o l id view) Tryz.f49 [(0, 3)] [encL (encMsg 1) 1 (l), .int .i64 (id), .int .i64 (view)] [] (fun rr bs => VLe rr (rs49o l id view) ∧ BinLe bs (rb49o l id view)) := by
  have key : ((∃ x : Nat, ((SLe (AS.mk [(0, encL (encMsg 1) 1 l), (1, vi id), (2, vi view), (7, V.osl 32000512 0), (8, vi (1 : Int))] [(32000512, Blk.arr 3 0 (rowg []) 100)]) (AS.mk [(0, encL (encMsg 1) 1 l), (1, vi id), (2, vi view), (7, V.osl 32000512 (List.length (certsTo l id view x))), (8, vi ((↑x : Int) + (1 : Int)))] [(32000512, Blk.arr 3 (List.length (certsTo l id view x)) (gL (encCert 1) (certsTo l id view x)) 100)])) ∧ (x ≤ 30))) ∧ (∀ x : Nat, ((x ≤ 30) → (((decide ((↑x : Int) + (1 : Int) ≤ (30 : Int)) = true) → (∃ R : Nat × Nat → Prop, ((∃ x_1 : Nat × Nat, ((SLe (AS.mk [(0, encL (encMsg 1) 1 l), (1, vi id), (2, vi view), (7, V.osl 32000512 (List.length (certsTo l id view x))), (8, vi ((↑x : Int) + (1 : Int))), (9, V.oref 640 0 0), (10, vi (0 : Int))] [(32000512, Blk.arr 3 (List.length (certsTo l id view x)) (gL (encCert 1) (certsTo l id view x)) 100), (640, Blk.box [vi ((↑x : Int) + (1 : Int)), vi (-1 : Int), vi (0 : Int)])]) (AS.mk [(0, encL (encMsg 1) 1 l), (1, vi id), (2, vi view), (7, V.osl 32000512 (List.length (certsTo l id view x_1.1))), (8, vi ((↑x_1.1 : Int) + (1 : Int))), (9, V.oref 640 0 0), (10, vi (↑x_1.2 : Int))] (k49o_1 l id view x_1))) ∧ (((Prod.fst x_1 < 30) ∧ (Prod.snd x_1 ≤ List.length l)) ∧ (R x_1)))) ∧ (∀ x_1 : Nat × Nat, (((Prod.fst x_1 < 30) ∧ (Prod.snd x_1 ≤ List.length l)) → ((R x_1) → (((decide ((↑x_1.2 : Int) < (↑(List.length l) : Int)) = true) → ((((0 : Int) ≤ (↑x_1.2 : Int)) ∧ ((↑x_1.2 : Int) < (↑(List.length l) : Int))) ∧ ((tq (Msg.kind (List.getD l (Int.toNat (↑x_1.2 : Int)) default) == (3 : Int))) ∧ ((tq (Msg.kind (List.getD l (Int.toNat (↑x_1.2 : Int)) default) == (3 : Int))) ∧ ((tq (Msg.kind (List.getD l (Int.toNat (↑x_1.2 : Int)) default) == (3 : Int))) ∧ ((tq (Msg.kind (List.getD l (Int.toNat (↑x_1.2 : Int)) default) == (3 : Int))) ∧ ((tq (Msg.kind (List.getD l (Int.toNat (↑x_1.2 : Int)) default) == (3 : Int))) ∧ (((true = true) → (((Msg.kind (List.getD l (Int.toNat (↑x_1.2 : Int)) default) == (3 : Int)) = true) → ((Msg.kind (List.getD l (Int.toNat (↑x_1.2 : Int)) default) == (3 : Int)) = true))) ∧ (∀ b : Bool, ((b = bif Msg.kind (List.getD l (Int.toNat (↑x_1.2 : Int)) default) == (3 : Int) then Msg.sender (List.getD l (Int.toNat (↑x_1.2 : Int)) default) == id else false) → ((tq (b)) ∧ ((tq (b)) ∧ ((tq (b)) ∧ ((tq (b)) ∧ ((tq (b)) ∧ (((true = true) → ((b = true) → (b = true))) ∧ (∀ b_1 : Bool, ((b_1 = bif b then Msg.slot (List.getD l (Int.toNat (↑x_1.2 : Int)) default) == (↑x_1.1 : Int) + (1 : Int) else false) → ((tq (b_1)) ∧ ((tq (b_1)) ∧ ((tq (b_1)) ∧ ((tq (b_1)) ∧ ((tq (b_1)) ∧ (((true = true) → ((b_1 = true) → (b_1 = true))) ∧ (∀ b_2 : Bool, ((b_2 = bif b_1 then decide (Msg.view (List.getD l (Int.toNat (↑x_1.2 : Int)) default) < view) else false) → ((tq (b_2)) ∧ ((tq (b_2)) ∧ ((tq (b_2)) ∧ ((tq (b_2)) ∧ ((tq (b_2)) ∧ ((tq (b_2)) ∧ (((true = true) → ((b_2 = true) → (b_2 = true))) ∧ (∀ b_3 : Bool, ((b_3 = bif b_2 then decide (Msg.view (List.getD l (Int.toNat (↑x_1.2 : Int)) default) > Cert.view (Cert.mk ((↑x_1.1 : Int) + (1 : Int)) (Prod.fst (newest l id ((↑x_1.1 : Int) + (1 : Int)) view x_1.2)) (Prod.snd (newest l id ((↑x_1.1 : Int) + (1 : Int)) view x_1.2)))) else false) → (((b_3 = true) → ((inK IntKind.i64 ((↑x_1.2 : Int) + (1 : Int))) ∧ (∃ y : Nat × Nat, ((SLe (AS.mk (k49o_3 l id view x_1) [(32000512, Blk.arr 3 (List.length (certsTo l id view x_1.1)) (gL (encCert 1) (certsTo l id view x_1.1)) 100), (640, Blk.box [vi (Cert.slot (Cert.mk ((↑x_1.1 : Int) + (1 : Int)) (Prod.fst (newest l id ((↑x_1.1 : Int) + (1 : Int)) view x_1.2)) (Prod.snd (newest l id ((↑x_1.1 : Int) + (1 : Int)) view x_1.2)))), vi (Msg.view (List.getD l (Int.toNat (↑x_1.2 : Int)) default)), vi (Msg.value (List.getD l (Int.toNat (↑x_1.2 : Int)) default))])]) (k49o_0 l id view y)) ∧ (((Prod.fst y < 30) ∧ (Prod.snd y ≤ List.length l)) ∧ ((R y) ∧ (List.length l - Prod.snd y < List.length l - Prod.snd x_1))))))) ∧ ((b_3 = false) → ((inK IntKind.i64 ((↑x_1.2 : Int) + (1 : Int))) ∧ (∃ y : Nat × Nat, ((SLe (AS.mk (k49o_3 l id view x_1) (k49o_1 l id view x_1)) (k49o_0 l id view y)) ∧ (((Prod.fst y < 30) ∧ (Prod.snd y ≤ List.length l)) ∧ ((R y) ∧ (List.length l - Prod.snd y < List.length l - Prod.snd x_1))))))))))))))))))))))))))))))))))))))))))) ∧ ((decide ((↑x_1.2 : Int) < (↑(List.length l) : Int)) = false) → (((decide (Cert.view (Cert.mk ((↑x_1.1 : Int) + (1 : Int)) (Prod.fst (newest l id ((↑x_1.1 : Int) + (1 : Int)) view x_1.2)) (Prod.snd (newest l id ((↑x_1.1 : Int) + (1 : Int)) view x_1.2))) ≥ (0 : Int)) = true) → ((List.length (certsTo l id view x_1.1) = List.length (certsTo l id view x_1.1)) ∧ ((List.length (certsTo l id view x_1.1) + 1 ≤ 1073741824) ∧ ((sizedL 3 1 (rowg (k49o_4 l id view x_1))) ∧ ((inK IntKind.i64 ((↑x_1.1 : Int) + (1 : Int) + (1 : Int))) ∧ (∃ y : Nat, ((SLe (AS.mk [(0, encL (encMsg 1) 1 l), (1, vi id), (2, vi view), (7, V.osl 32000512 (List.length (certsTo l id view x_1.1) + 1)), (8, vi ((↑x_1.1 : Int) + (1 : Int) + (1 : Int)))] [(32000512, Blk.arr 3 (List.length (certsTo l id view x_1.1) + 1) (appg (List.length (certsTo l id view x_1.1)) (gL (encCert 1) (certsTo l id view x_1.1)) (rowg (k49o_4 l id view x_1))) 100)]) (k49o_2 l id view y)) ∧ ((y ≤ 30) ∧ (30 - y < 30 - x))))))))) ∧ ((decide (Cert.view (Cert.mk ((↑x_1.1 : Int) + (1 : Int)) (Prod.fst (newest l id ((↑x_1.1 : Int) + (1 : Int)) view x_1.2)) (Prod.snd (newest l id ((↑x_1.1 : Int) + (1 : Int)) view x_1.2))) ≥ (0 : Int)) = false) → ((inK IntKind.i64 ((↑x_1.1 : Int) + (1 : Int) + (1 : Int))) ∧ (∃ y : Nat, ((SLe (AS.mk [(0, encL (encMsg 1) 1 l), (1, vi id), (2, vi view), (7, V.osl 32000512 (List.length (certsTo l id view x_1.1))), (8, vi ((↑x_1.1 : Int) + (1 : Int) + (1 : Int)))] [(32000512, Blk.arr 3 (List.length (certsTo l id view x_1.1)) (gL (encCert 1) (certsTo l id view x_1.1)) 100)]) (k49o_2 l id view y)) ∧ ((y ≤ 30) ∧ (30 - y < 30 - x))))))))))))))) ∧ ((decide ((↑x : Int) + (1 : Int) ≤ (30 : Int)) = false) → ((VLe (V.osl 0 (List.length (certsTo l id view x))) (V.osl 0 (List.length (ro49o l id view)))) ∧ ((BLe (Blk.arr 3 (List.length (certsTo l id view x)) (gL (encCert 1) (certsTo l id view x)) 100) (Blk.arr 3 (List.length (ro49o l id view)) (gL (encCert 1) (ro49o l id view)) 100)) ∧ (True)))))))) := by
    delta k49o_4; delta k49o_3; delta k49o_2; delta k49o_1; delta k49o_0; delta vi
    obtain ⟨⟨f, hr⟩, hl⟩ := hpre
    have h240 := hr.len
    unfold ro49o
    refine ⟨⟨0, sle_of ⟨rfl, VLe.refl _, rfl, VLe.refl _, rfl, VLe.refl _, rfl, VLe.refl _, rfl, VLe.refl _, trivial⟩ ⟨rfl, ble_nil _, trivial⟩, by omega⟩, fun s hs => ⟨fun h => ?_, fun h => ?_⟩⟩
    · have hs30 : s < 30 := by simp at h; omega
      have hcl := certsTo_len l id view s
      have hcs : certsTo l id view (s + 1) = certsTo l id view s ++ if 0 ≤ (newest l id (s + 1) view l.length).1 then [⟨s + 1, (newest l id (s + 1) view l.length).1, (newest l id (s + 1) view l.length).2⟩] else [] := rfl
      refine ⟨fun p => p.1 = s, ⟨(s, 0), ?_, ⟨hs30, by omega⟩, rfl⟩, ?_⟩
      · exact sle_of ⟨rfl, VLe.refl _, rfl, VLe.refl _, rfl, VLe.refl _, rfl, VLe.refl _, rfl, VLe.refl _, rfl, VLe.refl _, rfl, VLe.refl _, trivial⟩ ⟨rfl, BLe.refl _, rfl, ble_box ⟨VLe.refl _, VLe.refl _, VLe.refl _, trivial⟩, trivial⟩
      rintro ⟨s', i⟩ ⟨_, hi⟩ hR
      simp only at hR
      subst hR
      simp only at hi ⊢
      simp only [Int.toNat_natCast]
      have hrg := newest_range hr (id := id) (slot := (s' : Int) + 1) (view := view) i hi
      refine ⟨fun h => ?_, fun h => ?_⟩
      · have hlt : i < l.length := by simpa using h
        have hsu := newest_succ (id := id) (slot := (s' : Int) + 1) (view := view) hlt
        refine ⟨by omega, ?_⟩
        repeat (first | (refine And.intro (fun h _ => h) ?_) | (refine And.intro (fun _ h => h) ?_) | (refine And.intro ?aa ?_; case aa => (exact trivial)) | (refine And.intro ?aa ?_; case aa => (intros; simp_all []; done)) | (refine And.intro ?aa ?_; case aa => (intros; exact inK64 (by omega))) | (refine And.intro ?aa ?_; case aa => (intros; simp only [decide_eq_true_eq] at *; omega)) | (intro q hq))
        have e0 : q = decide ((l.getD i default).kind = 3 ∧ (l.getD i default).sender = id ∧ (l.getD i default).slot = (s' : Int) + 1 ∧ (l.getD i default).view < view ∧ (newest l id ((s' : Int) + 1) view i).1 < (l.getD i default).view) := by
          subst_vars
          rw [Bool.eq_iff_iff, decide_eq_true_eq]
          simp [and_assoc]
        clear hq
        unfold newer at hsu
        refine ⟨fun h => ⟨inK64 (by omega), (s', i + 1), ?_, ⟨by omega, by omega⟩, rfl, by simp only; omega⟩, fun h => ⟨inK64 (by omega), (s', i + 1), ?_, ⟨by omega, by omega⟩, rfl, by simp only; omega⟩⟩
        · rw [e0] at h
          rw [if_pos (of_decide_eq_true h)] at hsu
          simp only [hsu]
          exact sle_of ⟨rfl, VLe.refl _, rfl, VLe.refl _, rfl, VLe.refl _, rfl, VLe.refl _, rfl, VLe.refl _, rfl, VLe.refl _, rfl, vle_int (by omega), trivial⟩ ⟨rfl, BLe.refl _, rfl, BLe.refl _, trivial⟩
        · rw [e0] at h
          rw [if_neg (of_decide_eq_false h)] at hsu
          simp only [hsu]
          exact sle_of ⟨rfl, VLe.refl _, rfl, VLe.refl _, rfl, VLe.refl _, rfl, VLe.refl _, rfl, VLe.refl _, rfl, VLe.refl _, rfl, vle_int (by omega), trivial⟩ ⟨rfl, BLe.refl _, rfl, BLe.refl _, trivial⟩
      · have hil : i = l.length := by simp at h; omega
        subst hil
        refine ⟨fun h => ⟨trivial, by omega, fun k hk => ?_, inK64 (by omega), s' + 1, ?_, by omega, by omega⟩, fun h => ⟨inK64 (by omega), s' + 1, ?_, by omega, by omega⟩⟩
        · have hk0 : k = 0 := by omega
          subst hk0
          exact ⟨rfl, rfl⟩
        · have h' : 0 ≤ (newest l id ((s' : Int) + 1) view l.length).1 := by simpa using h
          rw [if_pos h'] at hcs
          rw [hcs, List.length_append]
          exact sle_of ⟨rfl, VLe.refl _, rfl, VLe.refl _, rfl, VLe.refl _, rfl, VLe.refl _, rfl, vle_int (by omega), trivial⟩ ⟨rfl, ble_push rfl rfl, trivial⟩
        · have h' : ¬ 0 ≤ (newest l id ((s' : Int) + 1) view l.length).1 := by simpa using h
          rw [if_neg h', List.append_nil] at hcs
          rw [hcs]
          exact sle_of ⟨rfl, VLe.refl _, rfl, VLe.refl _, rfl, VLe.refl _, rfl, VLe.refl _, rfl, vle_int (by omega), trivial⟩ ⟨rfl, BLe.refl _, trivial⟩
    · have : s = 30 := by simp at h; omega
      subst this
      exact ⟨VLe.refl _, BLe.refl _, trivial⟩
  exact Eq.mp (by kernel_rfl) key
theorem so49o : Sound Tryz.prog 49 sp49o := by
  refine sound_of_bodyO hmix (tpl := [(0, 3)]) Tryz.func49 rfl (by kernel_rfl) fun args bin ob r bout hDe hob => ?_
  unfold sp49o at hDe
  split at hDe
  · rename_i a0 a1 a2
    cases hDe
    exact ⟨Nat.le_of_ble_eq_true (by kernel_rfl), cx49o ((decL decMsg) a0) a1 a2, Eq.mp (by kernel_rfl) htt, Eq.mp (by kernel_rfl) da49o, Eq.mp (by kernel_rfl) (noM_sound (P := Tryz.prog)), by kernel_rfl, [encL (encMsg 1) 1 (((decL decMsg) a0)), .int .i64 (a1), .int .i64 (a2)], [], args_of_vles (⟨hob.1, VLe.refl _, VLe.refl _, trivial⟩), trivial, Eq.mp (by kernel_rfl) (bd49o ((decL decMsg) a0) a1 a2 (hob.2))⟩
  · cases hDe

noncomputable def certsOfF (f : Int) (l : List Msg) (id view : Int) : CertsResult :=
  if ledgerFault f l ≠ 0 then ⟨ledgerFault f l, []⟩ else if ¬ (inR id 1 (3 * f + 1) ∧ inR view 0 20) then ⟨3, []⟩ else ⟨0, certsL l id view⟩
theorem certsOfF_len (f : Int) (l : List Msg) (id view : Int) : (certsOfF f l id view).certs.length ≤ 240 := by
  unfold certsOfF
  split
  · simp
  · split
    · simp
    · exact Nat.le_trans (certsTo_len _ _ _ _) (by omega)

/-! ### impl.CertsOf%o -/
def pr18o (f : Int) (l : List Msg) (id : Int) (view : Int) : Prop := bdL l
noncomputable def ro18o (f : Int) (l : List Msg) (id : Int) (view : Int) : CertsResult := certsOfF f l id view
noncomputable def rb18o (f : Int) (l : List Msg) (id : Int) (view : Int) : List Blk := [(.arr 3 ((ro18o f l id view).certs).length (gL (encCert 1) ((ro18o f l id view).certs)) tagS)]
noncomputable def rs18o (f : Int) (l : List Msg) (id : Int) (view : Int) : V := .agg [.int .i64 ((ro18o f l id view).code), .osl 0 ((ro18o f l id view).certs).length]
noncomputable def sp18o : FSpec := fun args bin => match args, bin with
  | [.int .i64 a0, a1, .int .i64 a2, .int .i64 a3], [] => some (VLe a1 (encL (encMsg 1) 1 (((decL decMsg) a1))) ∧ pr18o a0 ((decL decMsg) a1) a2 a3, rs18o a0 ((decL decMsg) a1) a2 a3, rb18o a0 ((decL decMsg) a1) a2 a3)
  | _, _ => none
noncomputable def D18o : Nat → Option (Bool × FSpec) := lk [(27, (false, sp27)), (50, (false, sp50)), (31, (false, sp31)), (51, (false, sp51o))]
theorem da18o : SoundAll Tryz.prog D18o := soundAll_cons so27 (soundAll_cons so50 (soundAll_cons so31 (soundAll_cons so51o (soundAll_nil))))
noncomputable def cx18o (f : Int) (l : List Msg) (id : Int) (view : Int) : Cx := ⟨tt, D18o, Tryz.f18.ntmps, [0, 1, 2, 3, 8, 9, 14, 25], [], [], fun _ => none, [], noM, []⟩
noncomputable def k18o_0 (f : Int) (l : List Msg) (id : Int) (view : Int) : Blk := (Blk.arr 3 (List.length (CertsResult.certs (ro18o f l id view))) (gL (encCert 1) (CertsResult.certs (ro18o f l id view))) 100)
noncomputable def k18o_1 (f : Int) (l : List Msg) (id : Int) (view : Int) : V := (V.agg [vi (CertsResult.code (ro18o f l id view)), V.osl 0 (List.length (CertsResult.certs (ro18o f l id view)))])
theorem bd18o (f : Int) (l : List Msg) (id : Int) (view : Int) (hpre : pr18o f l id view) : bodyO (cx18o f l id view) Tryz.f18 [(1, 3)] [.int .i64 (f), encL (encMsg 1) 1 (l), .int .i64 (id), .int .i64 (view)] [] (fun rr bs => VLe rr (rs18o f l id view) ∧ BinLe bs (rb18o f l id view)) := by
  have key : (((VLe (encL (encMsg 1) 1 l) (encL (encMsg 1) 1 (decL decMsg (encL (encMsg 1) 1 l)))) ∧ (pr27 f (decL decMsg (encL (encMsg 1) 1 l)))) ∧ ((((ledgerFault f (decL decMsg (encL (encMsg 1) 1 l)) != (0 : Int)) = true) → ((VLe (V.agg [vi (ledgerFault f (decL decMsg (encL (encMsg 1) 1 l))), V.osl 0 0]) (k18o_1 f l id view)) ∧ ((BLe (Blk.arr 3 0 (fun (x : Nat) ↦ V.undef) 100) (k18o_0 f l id view)) ∧ (True)))) ∧ (((ledgerFault f (decL decMsg (encL (encMsg 1) 1 l)) != (0 : Int)) = false) → ((pr50 f id) ∧ ((tq (!!decide (inR id (1 : Int) ((3 : Int) * f + (1 : Int))))) ∧ ((((!!decide (inR id (1 : Int) ((3 : Int) * f + (1 : Int)))) = true) → (pr31 view)) ∧ ((tq (!!decide (inR id (1 : Int) ((3 : Int) * f + (1 : Int))))) ∧ (((true = true) → (((!decide (inR id (1 : Int) ((3 : Int) * f + (1 : Int)))) = false) → ((!!decide (inR id (1 : Int) ((3 : Int) * f + (1 : Int)))) = true))) ∧ (∀ b : Bool, ((b = bif !decide (inR id (1 : Int) ((3 : Int) * f + (1 : Int))) then true else !decide (inR view (0 : Int) (20 : Int))) → (((b = true) → ((VLe (V.agg [vi (3 : Int), V.osl 0 0]) (k18o_1 f l id view)) ∧ ((BLe (Blk.arr 3 0 (fun (x : Nat) ↦ V.undef) 100) (k18o_0 f l id view)) ∧ (True)))) ∧ ((b = false) → (((VLe (encL (encMsg 1) 1 l) (encL (encMsg 1) 1 (decL decMsg (encL (encMsg 1) 1 l)))) ∧ (pr51o (decL decMsg (encL (encMsg 1) 1 l)) id view)) ∧ ((VLe (V.agg [vi (0 : Int), V.osl 0 (List.length (ro51o (decL decMsg (encL (encMsg 1) 1 l)) id view))]) (k18o_1 f l id view)) ∧ ((BLe (Blk.arr 3 (List.length (ro51o (decL decMsg (encL (encMsg 1) 1 l)) id view)) (gL (encCert 1) (ro51o (decL decMsg (encL (encMsg 1) 1 l)) id view)) 100) (k18o_0 f l id view)) ∧ (True)))))))))))))))) := by
    delta k18o_1; delta k18o_0; delta vi
    simp only [decL_Msg, ro18o, ro51o]
    refine ⟨⟨VLe.refl _, hpre⟩, fun h => ?_, fun h => ?_⟩
    · have e : certsOfF f l id view = ⟨ledgerFault f l, []⟩ := if_pos (by simpa using h)
      rw [e]
      exact ⟨VLe.refl _, ble_nil _, trivial⟩
    have h0 : ledgerFault f l = 0 := by simpa using h
    have hr := right_of h0
    refine ⟨hr.okf, ?_⟩
    repeat (first | (refine And.intro (fun h _ => h) ?_) | (refine And.intro (fun _ h => h) ?_) | (refine And.intro ?aa ?_; case aa => (exact fun _ => trivial)) | (refine And.intro ?aa ?_; case aa => (exact trivial)) | (refine And.intro ?aa ?_; case aa => (intros; simp_all [pr27, pr50, pr31, pr51o]; done)) | (refine And.intro ?aa ?_; case aa => (intros; exact inK64 (by omega))) | (refine And.intro ?aa ?_; case aa => (intros; simp only [decide_eq_true_eq] at *; omega)) | (intro q hq))
    have e0 : q = decide (¬ (inR id 1 (3 * f + 1) ∧ inR view 0 20)) := by
      subst_vars
      rw [Bool.eq_iff_iff, decide_eq_true_eq]
      by_cases a1 : inR id 1 (3 * f + 1) <;> by_cases a2 : inR view 0 20 <;> simp [a1, a2]
    clear hq
    refine ⟨fun h => ?_, fun h => ?_⟩
    · rw [e0] at h
      have e : certsOfF f l id view = ⟨3, []⟩ := by unfold certsOfF; rw [if_neg (not_not_intro h0), if_pos (of_decide_eq_true h)]
      rw [e]
      exact ⟨VLe.refl _, ble_nil _, trivial⟩
    · rw [e0] at h
      have e : certsOfF f l id view = ⟨0, certsL l id view⟩ := by unfold certsOfF; rw [if_neg (not_not_intro h0), if_neg (of_decide_eq_false h)]
      rw [e]
      exact ⟨⟨VLe.refl _, ⟨f, hr⟩, hpre⟩, VLe.refl _, BLe.refl _, trivial⟩
  exact Eq.mp (by kernel_rfl) key
theorem so18o : Sound Tryz.prog 18 sp18o := by
  refine sound_of_bodyO hmix (tpl := [(1, 3)]) Tryz.func18 rfl (by kernel_rfl) fun args bin ob r bout hDe hob => ?_
  unfold sp18o at hDe
  split at hDe
  · rename_i a0 a1 a2 a3
    cases hDe
    exact ⟨Nat.le_of_ble_eq_true (by kernel_rfl), cx18o a0 ((decL decMsg) a1) a2 a3, Eq.mp (by kernel_rfl) htt, Eq.mp (by kernel_rfl) da18o, Eq.mp (by kernel_rfl) (noM_sound (P := Tryz.prog)), by kernel_rfl, [.int .i64 (a0), encL (encMsg 1) 1 (((decL decMsg) a1)), .int .i64 (a2), .int .i64 (a3)], [], args_of_vles (⟨VLe.refl _, hob.1, VLe.refl _, VLe.refl _, trivial⟩), trivial, Eq.mp (by kernel_rfl) (bd18o a0 ((decL decMsg) a1) a2 a3 (hob.2))⟩
  · cases hDe

end Go.Av
