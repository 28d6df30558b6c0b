/- Worlds with changes of view, places: what a source draws. -/
import Derived.Test.YtakcaanpnmkccaaGreatR3
import Derived.Test.YtakcaanpnmkccaaGreatP31
namespace Go.Av
open Go.Proofs
set_option maxRecDepth 100000
set_option maxHeartbeats 2000000
set_option linter.unusedVariables false
set_option linter.unusedSimpArgs false

theorem pk5 : List.map (fun i => intA (V.int .i64 (([2, 2, 2, 1] : List Int).getD i 0))) (List.range 4) = [2, 2, 2, 1] := rfl
theorem pk6 : List.map (fun i => intA (V.int .i64 (([1, 1, 0] : List Int).getD i 0))) (List.range 3) = [1, 1, 0] := rfl
theorem pk7 : List.map (fun i => intA (V.int .i64 (([2, 2, 1] : List Int).getD i 0))) (List.range 3) = [2, 2, 1] := rfl
def goW (xs : List Int) (at_ : Int) (f : Nat) (a : Int) (l : List Msg) : Prop := f ≤ 2 ∧ wSlotD xs f (3 - f) a l = wSlotD xs 2 1 at_ [] ∧ a = at_ + 9 * (2 - f) ∧ l.length + 8 * f ≤ 16 ∧ shortM 100 l
def goC (xs : List Int) (at_ : Int) (first f : Nat) (a : Int) (l : List Msg) : Prop := f ≤ 4 ∧ first = (wSlotD xs 2 1 at_ []).1.length ∧ wChD xs f (5 - f) a l = chS xs at_ ∧ at_ + 18 ≤ a ∧ a ≤ at_ + 18 + 2 * (4 - f) ∧ first ≤ l.length ∧ l.length + f ≤ first + 4 ∧ first ≤ 16 ∧ shortM 100 l
def goR (xs : List Int) (at_ : Int) (i first : Nat) (fr a : Int) (l : List Msg) : Prop := chS xs at_ = (l, a - 1) ∧ first = (wSlotD xs 2 1 at_ []).1.length ∧ fr = pickF xs (a - 1) [2, 2, 2, 1] ∧ first + i ≤ l.length
def goP (xs : List Int) (at_ : Int) (f : Nat) (a : Int) (l : List Msg) : Prop := f ≤ 3 ∧ wPrD xs f (4 - f) a l = world10 xs at_ ∧ at_ ≤ a ∧ a ≤ at_ + 27 + 3 * (3 - f) ∧ l.length + f ≤ 24 ∧ shortM 100 l
theorem ble_push2E {α : Type} [Inhabited α] {enc : α → V} {sz te : Nat} {xs : List α} {x y : α} {g g2 : Nat → V} (h : ELe (g 0) (enc x)) (h2 : ELe (g2 0) (enc y)) :
    BLe (.arr sz (xs.length + 1 + 1) (appg (xs.length + 1) (appg xs.length (gL enc xs) g) g2) te) (.arr sz (xs.length + 1 + 1) (gL enc (xs ++ [x] ++ [y])) te) := by
  refine ble_arr (fun i hi => ?_) (Or.inl rfl)
  have hl : (xs ++ [x]).length = xs.length + 1 := by simp
  simp only [appg, gL]
  by_cases e : i < xs.length
  · rw [if_pos (by omega), if_pos e]
    have : (xs ++ [x] ++ [y]).getD i default = xs.getD i default := by
      rw [List.getD_eq_getElem?_getD, List.getElem?_append_left (by omega), List.getElem?_append_left e, List.getD_eq_getElem?_getD]
    rw [this]
    exact ELe.refl _
  · by_cases e2 : i = xs.length
    · subst e2
      rw [if_pos (by omega), if_neg e, Nat.sub_self]
      have : (xs ++ [x] ++ [y]).getD xs.length default = x := by
        rw [List.getD_eq_getElem?_getD, List.getElem?_append_left (by omega)]
        simp
      rw [this]
      exact h
    · have e3 : i = xs.length + 1 := by omega
      subst e3
      rw [if_neg (by omega), Nat.sub_self]
      have : (xs ++ [x] ++ [y]).getD (xs.length + 1) default = y := by
        rw [List.getD_eq_getElem?_getD, List.getElem?_append_right (by omega)]
        simp
      rw [this]
      exact h2
theorem ple_pushL {α : Type} [Inhabited α] {enc : α → V} {t t' : Nat} {xs : List α} {x : α} {g : Nat → V} (h : ELe (g 0) (enc x)) : PLe (.sl (xs.length + 1) (appg xs.length (gL enc xs) g) t) (encL enc t' (xs ++ [x])) := by
  have e : (xs ++ [x]).length = xs.length + 1 := by simp
  show PLe _ (.sl (xs ++ [x]).length _ _)
  rw [e]
  refine ple_sl fun i hi => ?_
  simp only [appg, gL]
  by_cases e : i < xs.length
  · rw [if_pos e]
    have : (xs ++ [x]).getD i default = xs.getD i default := by simp [List.getElem?_append, e]
    rw [this]
    exact ELe.refl _
  · have e2 : i = xs.length := by omega
    subst e2
    rw [if_neg e, Nat.sub_self]
    have : (xs ++ [x]).getD xs.length default = x := by simp
    rw [this]
    exact h
theorem ele_ch1 (id : Int) (C : List Cert) : ELe (.agg [.int .i64 4, .int .i64 1, .int .i64 id, .int .i64 0, .int .i64 0, .sl (C.length + 1) (appg C.length (gL (encCert 1) C) (rowg [.agg [.int .i64 9, .int .i64 0, .int .i64 1]])) 2, .nil]) (encMsg 1 ⟨4, 1, id, 0, 0, C ++ [⟨9, 0, 1⟩], []⟩) :=
  ele_of ⟨PLe.refl _, PLe.refl _, PLe.refl _, PLe.refl _, PLe.refl _, ple_pushL (ELe.refl _), ple_nil _ _, trivial⟩
theorem ele_ch2 (id : Int) (C : List Cert) : ELe (.agg [.int .i64 4, .int .i64 1, .int .i64 id, .int .i64 0, .int .i64 0, encL (encCert 1) 2 C, .nil]) (encMsg 1 ⟨4, 1, id, 0, 0, C, []⟩) :=
  ele_of ⟨PLe.refl _, PLe.refl _, PLe.refl _, PLe.refl _, PLe.refl _, ple_encL _ _ _ _, ple_nil _ _, trivial⟩
theorem ele_new (fr : Int) (R : List Int) : ELe (.agg [.int .i64 5, .int .i64 1, .int .i64 fr, .int .i64 0, .int .i64 0, .nil, encL encI 2 R]) (encMsg 1 ⟨5, 1, fr, 0, 0, [], R⟩) :=
  ele_of ⟨PLe.refl _, PLe.refl _, PLe.refl _, PLe.refl _, PLe.refl _, ple_nil _ _, ple_encL _ _ _ _, trivial⟩
theorem wIdD_e {xs : List Int} {slot value : Int} {f : Nat} {id a : Int} {l l' : List Msg} (h : l' = (l ++ if nextF xs a 8 = 0 then [] else [⟨2, 0, id, slot, value, [], []⟩]) ++ if nextF xs (a + 1) 2 = 0 then [⟨3, 0, id, slot, value, [], []⟩] else []) : wIdD xs slot value (f + 1) id a l = wIdD xs slot value f (id + 1) (a + 2) l' := by
  rw [wIdD, h]

/-! ### spec.l10Certs%w -/
def pr49w (l : List Msg) (id : Int) (view : Int) : Prop := l.length ≤ 1000 ∧ bdL l
noncomputable def ro49w (l : List Msg) (id : Int) (view : Int) : List Cert := certsL l id view
noncomputable def rb49w (l : List Msg) (id : Int) (view : Int) : List Blk := [(.arr 3 (ro49w l id view).length (gL (encCert 1) (ro49w l id view)) tagS)]
noncomputable def rs49w (l : List Msg) (id : Int) (view : Int) : V := .osl 0 (ro49w l id view).length
noncomputable def sp49w : FSpec := fun args bin => match args, bin with
  | [a0, .int .i64 a1, .int .i64 a2], [] => some (VLe a0 (encL (encMsg 1) 1 (((decL decMsg) a0))) ∧ pr49w ((decL decMsg) a0) a1 a2, rs49w ((decL decMsg) a0) a1 a2, rb49w ((decL decMsg) a0) a1 a2)
  | _, _ => none
noncomputable def in49w_3 (l : List Msg) (id : Int) (view : Int) : LoopInv :=
  ⟨Nat, fun s => ⟨[(0, encL (encMsg 1) 1 l), (1, .int .i64 id), (2, .int .i64 view), (7, .osl (canonT 7) (certsTo l id view s).length), (8, .int .i64 (s + 1))], [(canonT 7, .arr 3 (certsTo l id view s).length (gL (encCert 1) (certsTo l id view s)) tagS)]⟩,
    fun s => s ≤ 30, fun s => 30 - s⟩
noncomputable def in49w_7 (l : List Msg) (id : Int) (view : Int) : LoopInv :=
  ⟨Nat × Nat, fun p => ⟨[(0, encL (encMsg 1) 1 l), (1, .int .i64 id), (2, .int .i64 view), (7, .osl (canonT 7) (certsTo l id view p.1).length), (8, .int .i64 (p.1 + 1)), (9, .oref 640 0 0), (10, .int .i64 p.2)],
    [(canonT 7, .arr 3 (certsTo l id view p.1).length (gL (encCert 1) (certsTo l id view p.1)) tagS), (640, .box (encCert 1 ⟨p.1 + 1, (newest l id (p.1 + 1) view p.2).1, (newest l id (p.1 + 1) view p.2).2⟩).cells)]⟩,
    fun p => p.1 < 30 ∧ p.2 ≤ l.length, fun p => l.length - p.2⟩
noncomputable def iv49w (l : List Msg) (id : Int) (view : Int) : Nat → Option LoopInv := fun rg_ => match rg_ with
  | 3 => some (in49w_3 l id view)
  | 7 => some (in49w_7 l id view)
  | _ => none
noncomputable def D49w : Nat → Option (Bool × FSpec) := lk []
theorem da49w : SoundAll Tryz.prog D49w := soundAll_nil
noncomputable def cx49w (l : List Msg) (id : Int) (view : Int) : Cx := ⟨tt, D49w, Tryz.f49.ntmps, [0, 1, 2, 6, 7, 8, 9, 10, 11, 14, 22, 65, 78], [(3, ⟨[(0, none), (1, none), (2, none), (7, some 3), (8, none)], []⟩), (7, ⟨[(0, none), (1, none), (2, none), (7, some 3), (8, none), (9, none), (10, none)], [(640, [])]⟩)], [], iv49w l id view, [], noM, [7]⟩
noncomputable def k49w_0 (l : List Msg) (id : Int) (view : Int) (y : Nat × Nat) : AS := (AS.mk [(0, encL (encMsg 1) 1 l), (1, vi id), (2, vi view), (7, V.osl 32000512 (List.length (certsTo l id view y.1))), (8, vi ((↑y.1 : Int) + (1 : Int))), (9, V.oref 640 0 0), (10, vi (↑y.2 : Int))] [(32000512, Blk.arr 3 (List.length (certsTo l id view y.1)) (gL (encCert 1) (certsTo l id view y.1)) 100), (640, Blk.box [vi (Cert.slot (Cert.mk ((↑y.1 : Int) + (1 : Int)) (Prod.fst (newest l id ((↑y.1 : Int) + (1 : Int)) view y.2)) (Prod.snd (newest l id ((↑y.1 : Int) + (1 : Int)) view y.2)))), vi (Cert.view (Cert.mk ((↑y.1 : Int) + (1 : Int)) (Prod.fst (newest l id ((↑y.1 : Int) + (1 : Int)) view y.2)) (Prod.snd (newest l id ((↑y.1 : Int) + (1 : Int)) view y.2)))), vi (Cert.value (Cert.mk ((↑y.1 : Int) + (1 : Int)) (Prod.fst (newest l id ((↑y.1 : Int) + (1 : Int)) view y.2)) (Prod.snd (newest l id ((↑y.1 : Int) + (1 : Int)) view y.2))))])])
noncomputable def k49w_1 (l : List Msg) (id : Int) (view : Int) (x_1 : Nat × Nat) : List (Nat × Blk) := [(32000512, Blk.arr 3 (List.length (certsTo l id view x_1.1)) (gL (encCert 1) (certsTo l id view x_1.1)) 100), (640, Blk.box [vi (Cert.slot (Cert.mk ((↑x_1.1 : Int) + (1 : Int)) (Prod.fst (newest l id ((↑x_1.1 : Int) + (1 : Int)) view x_1.2)) (Prod.snd (newest l id ((↑x_1.1 : Int) + (1 : Int)) view x_1.2)))), vi (Cert.view (Cert.mk ((↑x_1.1 : Int) + (1 : Int)) (Prod.fst (newest l id ((↑x_1.1 : Int) + (1 : Int)) view x_1.2)) (Prod.snd (newest l id ((↑x_1.1 : Int) + (1 : Int)) view x_1.2)))), vi (Cert.value (Cert.mk ((↑x_1.1 : Int) + (1 : Int)) (Prod.fst (newest l id ((↑x_1.1 : Int) + (1 : Int)) view x_1.2)) (Prod.snd (newest l id ((↑x_1.1 : Int) + (1 : Int)) view x_1.2))))])]
noncomputable def k49w_2 (l : List Msg) (id : Int) (view : Int) (y : Nat) : AS := (AS.mk [(0, encL (encMsg 1) 1 l), (1, vi id), (2, vi view), (7, V.osl 32000512 (List.length (certsTo l id view y))), (8, vi ((↑y : Int) + (1 : Int)))] [(32000512, Blk.arr 3 (List.length (certsTo l id view y)) (gL (encCert 1) (certsTo l id view y)) 100)])
noncomputable def k49w_3 (l : List Msg) (id : Int) (view : Int) (x_1 : Nat × Nat) : List (Nat × V) := [(0, encL (encMsg 1) 1 l), (1, vi id), (2, vi view), (7, V.osl 32000512 (List.length (certsTo l id view x_1.1))), (8, vi ((↑x_1.1 : Int) + (1 : Int))), (9, V.oref 640 0 0), (10, vi ((↑x_1.2 : Int) + (1 : Int)))]
noncomputable def k49w_4 (l : List Msg) (id : Int) (view : Int) (x_1 : Nat × Nat) : List V := [encCert 1 (Cert.mk ((↑x_1.1 : Int) + (1 : Int)) (Prod.fst (newest l id ((↑x_1.1 : Int) + (1 : Int)) view x_1.2)) (Prod.snd (newest l id ((↑x_1.1 : Int) + (1 : Int)) view x_1.2)))]
theorem bd49w (l : List Msg) (id : Int) (view : Int) (hpre : pr49w l id view) : bodyO (cx49w l id view) Tryz.f49 [(0, 3)] [encL (encMsg 1) 1 (l), .int .i64 (id), .int .i64 (view)] [] (fun rr bs => VLe rr (rs49w l id view) ∧ BinLe bs (rb49w l id view)) := by
  have key : ((∃ x : Nat, ((SLe (AS.mk [(0, encL (encMsg 1) 1 l), (1, vi id), (2, vi view), (7, V.osl 32000512 0), (8, vi (1 : Int))] [(32000512, Blk.arr 3 0 (rowg []) 100)]) (AS.mk [(0, encL (encMsg 1) 1 l), (1, vi id), (2, vi view), (7, V.osl 32000512 (List.length (certsTo l id view x))), (8, vi ((↑x : Int) + (1 : Int)))] [(32000512, Blk.arr 3 (List.length (certsTo l id view x)) (gL (encCert 1) (certsTo l id view x)) 100)])) ∧ (x ≤ 30))) ∧ (∀ x : Nat, ((x ≤ 30) → (((decide ((↑x : Int) + (1 : Int) ≤ (30 : Int)) = true) → (∃ R : Nat × Nat → Prop, ((∃ x_1 : Nat × Nat, ((SLe (AS.mk [(0, encL (encMsg 1) 1 l), (1, vi id), (2, vi view), (7, V.osl 32000512 (List.length (certsTo l id view x))), (8, vi ((↑x : Int) + (1 : Int))), (9, V.oref 640 0 0), (10, vi (0 : Int))] [(32000512, Blk.arr 3 (List.length (certsTo l id view x)) (gL (encCert 1) (certsTo l id view x)) 100), (640, Blk.box [vi ((↑x : Int) + (1 : Int)), vi (-1 : Int), vi (0 : Int)])]) (AS.mk [(0, encL (encMsg 1) 1 l), (1, vi id), (2, vi view), (7, V.osl 32000512 (List.length (certsTo l id view x_1.1))), (8, vi ((↑x_1.1 : Int) + (1 : Int))), (9, V.oref 640 0 0), (10, vi (↑x_1.2 : Int))] (k49w_1 l id view x_1))) ∧ (((Prod.fst x_1 < 30) ∧ (Prod.snd x_1 ≤ List.length l)) ∧ (R x_1)))) ∧ (∀ x_1 : Nat × Nat, (((Prod.fst x_1 < 30) ∧ (Prod.snd x_1 ≤ List.length l)) → ((R x_1) → (((decide ((↑x_1.2 : Int) < (↑(List.length l) : Int)) = true) → ((((0 : Int) ≤ (↑x_1.2 : Int)) ∧ ((↑x_1.2 : Int) < (↑(List.length l) : Int))) ∧ ((tq (Msg.kind (List.getD l (Int.toNat (↑x_1.2 : Int)) default) == (3 : Int))) ∧ ((tq (Msg.kind (List.getD l (Int.toNat (↑x_1.2 : Int)) default) == (3 : Int))) ∧ ((tq (Msg.kind (List.getD l (Int.toNat (↑x_1.2 : Int)) default) == (3 : Int))) ∧ ((tq (Msg.kind (List.getD l (Int.toNat (↑x_1.2 : Int)) default) == (3 : Int))) ∧ ((tq (Msg.kind (List.getD l (Int.toNat (↑x_1.2 : Int)) default) == (3 : Int))) ∧ (((true = true) → (((Msg.kind (List.getD l (Int.toNat (↑x_1.2 : Int)) default) == (3 : Int)) = true) → ((Msg.kind (List.getD l (Int.toNat (↑x_1.2 : Int)) default) == (3 : Int)) = true))) ∧ (∀ b : Bool, ((b = bif Msg.kind (List.getD l (Int.toNat (↑x_1.2 : Int)) default) == (3 : Int) then Msg.sender (List.getD l (Int.toNat (↑x_1.2 : Int)) default) == id else false) → ((tq (b)) ∧ ((tq (b)) ∧ ((tq (b)) ∧ ((tq (b)) ∧ ((tq (b)) ∧ (((true = true) → ((b = true) → (b = true))) ∧ (∀ b_1 : Bool, ((b_1 = bif b then Msg.slot (List.getD l (Int.toNat (↑x_1.2 : Int)) default) == (↑x_1.1 : Int) + (1 : Int) else false) → ((tq (b_1)) ∧ ((tq (b_1)) ∧ ((tq (b_1)) ∧ ((tq (b_1)) ∧ ((tq (b_1)) ∧ (((true = true) → ((b_1 = true) → (b_1 = true))) ∧ (∀ b_2 : Bool, ((b_2 = bif b_1 then decide (Msg.view (List.getD l (Int.toNat (↑x_1.2 : Int)) default) < view) else false) → ((tq (b_2)) ∧ ((tq (b_2)) ∧ ((tq (b_2)) ∧ ((tq (b_2)) ∧ ((tq (b_2)) ∧ ((tq (b_2)) ∧ (((true = true) → ((b_2 = true) → (b_2 = true))) ∧ (∀ b_3 : Bool, ((b_3 = bif b_2 then decide (Msg.view (List.getD l (Int.toNat (↑x_1.2 : Int)) default) > Cert.view (Cert.mk ((↑x_1.1 : Int) + (1 : Int)) (Prod.fst (newest l id ((↑x_1.1 : Int) + (1 : Int)) view x_1.2)) (Prod.snd (newest l id ((↑x_1.1 : Int) + (1 : Int)) view x_1.2)))) else false) → (((b_3 = true) → ((inK IntKind.i64 ((↑x_1.2 : Int) + (1 : Int))) ∧ (∃ y : Nat × Nat, ((SLe (AS.mk (k49w_3 l id view x_1) [(32000512, Blk.arr 3 (List.length (certsTo l id view x_1.1)) (gL (encCert 1) (certsTo l id view x_1.1)) 100), (640, Blk.box [vi (Cert.slot (Cert.mk ((↑x_1.1 : Int) + (1 : Int)) (Prod.fst (newest l id ((↑x_1.1 : Int) + (1 : Int)) view x_1.2)) (Prod.snd (newest l id ((↑x_1.1 : Int) + (1 : Int)) view x_1.2)))), vi (Msg.view (List.getD l (Int.toNat (↑x_1.2 : Int)) default)), vi (Msg.value (List.getD l (Int.toNat (↑x_1.2 : Int)) default))])]) (k49w_0 l id view y)) ∧ (((Prod.fst y < 30) ∧ (Prod.snd y ≤ List.length l)) ∧ ((R y) ∧ (List.length l - Prod.snd y < List.length l - Prod.snd x_1))))))) ∧ ((b_3 = false) → ((inK IntKind.i64 ((↑x_1.2 : Int) + (1 : Int))) ∧ (∃ y : Nat × Nat, ((SLe (AS.mk (k49w_3 l id view x_1) (k49w_1 l id view x_1)) (k49w_0 l id view y)) ∧ (((Prod.fst y < 30) ∧ (Prod.snd y ≤ List.length l)) ∧ ((R y) ∧ (List.length l - Prod.snd y < List.length l - Prod.snd x_1))))))))))))))))))))))))))))))))))))))))))) ∧ ((decide ((↑x_1.2 : Int) < (↑(List.length l) : Int)) = false) → (((decide (Cert.view (Cert.mk ((↑x_1.1 : Int) + (1 : Int)) (Prod.fst (newest l id ((↑x_1.1 : Int) + (1 : Int)) view x_1.2)) (Prod.snd (newest l id ((↑x_1.1 : Int) + (1 : Int)) view x_1.2))) ≥ (0 : Int)) = true) → ((List.length (certsTo l id view x_1.1) = List.length (certsTo l id view x_1.1)) ∧ ((List.length (certsTo l id view x_1.1) + 1 ≤ 1073741824) ∧ ((sizedL 3 1 (rowg (k49w_4 l id view x_1))) ∧ ((inK IntKind.i64 ((↑x_1.1 : Int) + (1 : Int) + (1 : Int))) ∧ (∃ y : Nat, ((SLe (AS.mk [(0, encL (encMsg 1) 1 l), (1, vi id), (2, vi view), (7, V.osl 32000512 (List.length (certsTo l id view x_1.1) + 1)), (8, vi ((↑x_1.1 : Int) + (1 : Int) + (1 : Int)))] [(32000512, Blk.arr 3 (List.length (certsTo l id view x_1.1) + 1) (appg (List.length (certsTo l id view x_1.1)) (gL (encCert 1) (certsTo l id view x_1.1)) (rowg (k49w_4 l id view x_1))) 100)]) (k49w_2 l id view y)) ∧ ((y ≤ 30) ∧ (30 - y < 30 - x))))))))) ∧ ((decide (Cert.view (Cert.mk ((↑x_1.1 : Int) + (1 : Int)) (Prod.fst (newest l id ((↑x_1.1 : Int) + (1 : Int)) view x_1.2)) (Prod.snd (newest l id ((↑x_1.1 : Int) + (1 : Int)) view x_1.2))) ≥ (0 : Int)) = false) → ((inK IntKind.i64 ((↑x_1.1 : Int) + (1 : Int) + (1 : Int))) ∧ (∃ y : Nat, ((SLe (AS.mk [(0, encL (encMsg 1) 1 l), (1, vi id), (2, vi view), (7, V.osl 32000512 (List.length (certsTo l id view x_1.1))), (8, vi ((↑x_1.1 : Int) + (1 : Int) + (1 : Int)))] [(32000512, Blk.arr 3 (List.length (certsTo l id view x_1.1)) (gL (encCert 1) (certsTo l id view x_1.1)) 100)]) (k49w_2 l id view y)) ∧ ((y ≤ 30) ∧ (30 - y < 30 - x))))))))))))))) ∧ ((decide ((↑x : Int) + (1 : Int) ≤ (30 : Int)) = false) → ((VLe (V.osl 0 (List.length (certsTo l id view x))) (V.osl 0 (List.length (ro49w l id view)))) ∧ ((BLe (Blk.arr 3 (List.length (certsTo l id view x)) (gL (encCert 1) (certsTo l id view x)) 100) (Blk.arr 3 (List.length (ro49w l id view)) (gL (encCert 1) (ro49w l id view)) 100)) ∧ (True)))))))) := by
    delta k49w_4; delta k49w_3; delta k49w_2; delta k49w_1; delta k49w_0; delta vi
    obtain ⟨h240, hl⟩ := hpre
    unfold ro49w
    refine ⟨⟨0, sle_of ⟨rfl, VLe.refl _, rfl, VLe.refl _, rfl, VLe.refl _, rfl, VLe.refl _, rfl, VLe.refl _, trivial⟩ ⟨rfl, ble_nilR _, trivial⟩, by omega⟩, fun s hs => ⟨fun h => ?_, fun h => ?_⟩⟩
    · have hs30 : s < 30 := by simp at h; omega
      have hcl := certsTo_len l id view s
      have hcs : certsTo l id view (s + 1) = certsTo l id view s ++ if 0 ≤ (newest l id (s + 1) view l.length).1 then [⟨s + 1, (newest l id (s + 1) view l.length).1, (newest l id (s + 1) view l.length).2⟩] else [] := rfl
      refine ⟨fun p => p.1 = s, ⟨(s, 0), ?_, ⟨hs30, by omega⟩, rfl⟩, ?_⟩
      · exact sle_of ⟨rfl, VLe.refl _, rfl, VLe.refl _, rfl, VLe.refl _, rfl, VLe.refl _, rfl, VLe.refl _, rfl, VLe.refl _, rfl, VLe.refl _, trivial⟩ ⟨rfl, BLe.refl _, rfl, ble_box ⟨VLe.refl _, VLe.refl _, VLe.refl _, trivial⟩, trivial⟩
      rintro ⟨s', i⟩ ⟨_, hi⟩ hR
      simp only at hR
      subst hR
      simp only at hi ⊢
      simp only [Int.toNat_natCast]
      refine ⟨fun h => ?_, fun h => ?_⟩
      · have hlt : i < l.length := by simpa using h
        have hsu := newest_succ (id := id) (slot := (s' : Int) + 1) (view := view) hlt
        refine ⟨by omega, ?_⟩
        repeat (first | (refine And.intro (fun h _ => h) ?_) | (refine And.intro (fun _ h => h) ?_) | (refine And.intro ?aa ?_; case aa => (exact trivial)) | (refine And.intro ?aa ?_; case aa => (intros; simp_all []; done)) | (refine And.intro ?aa ?_; case aa => (intros; exact inK64 (by omega))) | (refine And.intro ?aa ?_; case aa => (intros; simp only [decide_eq_true_eq] at *; omega)) | (intro q hq))
        have e0 : q = decide ((l.getD i default).kind = 3 ∧ (l.getD i default).sender = id ∧ (l.getD i default).slot = (s' : Int) + 1 ∧ (l.getD i default).view < view ∧ (newest l id ((s' : Int) + 1) view i).1 < (l.getD i default).view) := by
          subst_vars
          rw [Bool.eq_iff_iff, decide_eq_true_eq]
          simp [and_assoc]
        clear hq
        unfold newer at hsu
        refine ⟨fun h => ⟨inK64 (by omega), (s', i + 1), ?_, ⟨by omega, by omega⟩, rfl, by simp only; omega⟩, fun h => ⟨inK64 (by omega), (s', i + 1), ?_, ⟨by omega, by omega⟩, rfl, by simp only; omega⟩⟩
        · rw [e0] at h
          rw [if_pos (of_decide_eq_true h)] at hsu
          simp only [hsu]
          exact sle_of ⟨rfl, VLe.refl _, rfl, VLe.refl _, rfl, VLe.refl _, rfl, VLe.refl _, rfl, VLe.refl _, rfl, VLe.refl _, rfl, vle_int (by omega), trivial⟩ ⟨rfl, BLe.refl _, rfl, BLe.refl _, trivial⟩
        · rw [e0] at h
          rw [if_neg (of_decide_eq_false h)] at hsu
          simp only [hsu]
          exact sle_of ⟨rfl, VLe.refl _, rfl, VLe.refl _, rfl, VLe.refl _, rfl, VLe.refl _, rfl, VLe.refl _, rfl, VLe.refl _, rfl, vle_int (by omega), trivial⟩ ⟨rfl, BLe.refl _, rfl, BLe.refl _, trivial⟩
      · have hil : i = l.length := by simp at h; omega
        subst hil
        refine ⟨fun h => ⟨trivial, by omega, fun k hk => ?_, inK64 (by omega), s' + 1, ?_, by omega, by omega⟩, fun h => ⟨inK64 (by omega), s' + 1, ?_, by omega, by omega⟩⟩
        · have hk0 : k = 0 := by omega
          subst hk0
          exact ⟨rfl, rfl⟩
        · have h' : 0 ≤ (newest l id ((s' : Int) + 1) view l.length).1 := by simpa using h
          rw [if_pos h'] at hcs
          rw [hcs, List.length_append]
          exact sle_of ⟨rfl, VLe.refl _, rfl, VLe.refl _, rfl, VLe.refl _, rfl, VLe.refl _, rfl, vle_int (by omega), trivial⟩ ⟨rfl, ble_push rfl rfl, trivial⟩
        · have h' : ¬ 0 ≤ (newest l id ((s' : Int) + 1) view l.length).1 := by simpa using h
          rw [if_neg h', List.append_nil] at hcs
          rw [hcs]
          exact sle_of ⟨rfl, VLe.refl _, rfl, VLe.refl _, rfl, VLe.refl _, rfl, VLe.refl _, rfl, vle_int (by omega), trivial⟩ ⟨rfl, BLe.refl _, trivial⟩
    · have : s = 30 := by simp at h; omega
      subst this
      exact ⟨VLe.refl _, BLe.refl _, trivial⟩
  exact Eq.mp (by kernel_rfl) key
theorem so49w : Sound Tryz.prog 49 sp49w := by
  refine sound_of_bodyO hmix (tpl := [(0, 3)]) Tryz.func49 rfl (by kernel_rfl) fun args bin ob r bout hDe hob => ?_
  unfold sp49w at hDe
  split at hDe
  · rename_i a0 a1 a2
    cases hDe
    exact ⟨Nat.le_of_ble_eq_true (by kernel_rfl), cx49w ((decL decMsg) a0) a1 a2, Eq.mp (by kernel_rfl) htt, Eq.mp (by kernel_rfl) da49w, Eq.mp (by kernel_rfl) (noM_sound (P := Tryz.prog)), by kernel_rfl, [encL (encMsg 1) 1 (((decL decMsg) a0)), .int .i64 (a1), .int .i64 (a2)], [], args_of_vles (⟨hob.1, VLe.refl _, VLe.refl _, trivial⟩), trivial, Eq.mp (by kernel_rfl) (bd49w ((decL decMsg) a0) a1 a2 (hob.2))⟩
  · cases hDe

/-! ### spec.l10World -/
def pr58 (xs : List Int) (at_ : Int)  : Prop := okX xs at_ ∧ at_ ≤ 900000
noncomputable def ro58 (xs : List Int) (at_ : Int)  : List Msg := (world10 xs at_).1
noncomputable def rs58 (xs : List Int) (at_ : Int)  : V := .osl 1 (ro58 xs at_ ).length
noncomputable def rb58 (xs : List Int) (at_ : Int)  : List Blk := [(.arr 7 (ro58 xs at_ ).length (gL (encMsg 1) (ro58 xs at_ )) 2)]
noncomputable def ra58 (xs : List Int) (at_ : Int)  : Int := (world10 xs at_).2
noncomputable def in58_3 (xs : List Int) (at_ : Int)  : LoopInv :=
  ⟨Nat × Int × List Msg, fun p => ⟨[(0, .oref 0 0 0), (3, .osl (canonT 3) p.2.2.length), (4, .int .i64 (3 - p.1))], [(canonT 3, .arr 7 p.2.2.length (gL (encMsg 1) p.2.2) 2), (0, .box [encL encY 0 xs, .int .i64 p.2.1])]⟩,
    fun p => goW xs at_ p.1 p.2.1 p.2.2, fun p => p.1⟩
noncomputable def in58_7 (xs : List Int) (at_ : Int)  : LoopInv :=
  ⟨Int × Int × Nat × Int × List Msg, fun p => ⟨[(0, .oref 0 0 0), (3, .osl (canonT 3) p.2.2.2.2.length), (4, .int .i64 p.1), (5, .int .i64 p.2.1), (6, .int .i64 (5 - p.2.2.1))], [(canonT 3, .arr 7 p.2.2.2.2.length (gL (encMsg 1) p.2.2.2.2) 2), (0, .box [encL encY 0 xs, .int .i64 p.2.2.2.1])]⟩,
    fun p => p.2.2.1 ≤ 4 ∧ shortM 100 p.2.2.2.2, fun p => p.2.2.1⟩
noncomputable def in58_15 (xs : List Int) (at_ : Int)  : LoopInv :=
  ⟨Nat × Nat × Int × List Msg, fun p => ⟨[(0, .oref 0 0 0), (3, .osl (canonT 3) p.2.2.2.length), (7, .int .i64 p.1), (8, .int .i64 (5 - p.2.1))], [(canonT 3, .arr 7 p.2.2.2.length (gL (encMsg 1) p.2.2.2) 2), (0, .box [encL encY 0 xs, .int .i64 p.2.2.1])]⟩,
    fun p => goC xs at_ p.1 p.2.1 p.2.2.1 p.2.2.2, fun p => p.2.1⟩
noncomputable def in58_24 (xs : List Int) (at_ : Int)  : LoopInv :=
  ⟨Nat × Nat × Int × Int × List Msg, fun p => ⟨[(0, .oref 0 0 0), (3, .osl (canonT 3) p.2.2.2.2.length), (10, .oref 704 0 0), (11, .int .i64 ((p.2.1 + p.1 : Nat) : Int))], [(canonT 3, .arr 7 p.2.2.2.2.length (gL (encMsg 1) p.2.2.2.2) 2), (0, .box [encL encY 0 xs, .int .i64 p.2.2.2.1]), (704, .box [.int .i64 5, .int .i64 1, .int .i64 p.2.2.1, .int .i64 0, .int .i64 0, .nil, .osl (canonB 704 6) (refsUp p.2.1 p.1).length]), (canonB 704 6, .arr 1 (refsUp p.2.1 p.1).length (gL encI (refsUp p.2.1 p.1)) tagS)]⟩,
    fun p => goR xs at_ p.1 p.2.1 p.2.2.1 p.2.2.2.1 p.2.2.2.2, fun p => p.2.2.2.2.length - p.1⟩
noncomputable def in58_29 (xs : List Int) (at_ : Int)  : LoopInv :=
  ⟨Nat × Int × List Msg, fun p => ⟨[(0, .oref 0 0 0), (3, .osl (canonT 3) p.2.2.length), (12, .int .i64 (4 - p.1))], [(canonT 3, .arr 7 p.2.2.length (gL (encMsg 1) p.2.2) 2), (0, .box [encL encY 0 xs, .int .i64 p.2.1])]⟩,
    fun p => goP xs at_ p.1 p.2.1 p.2.2, fun p => p.1⟩
noncomputable def iv58 (xs : List Int) (at_ : Int)  : Nat → Option LoopInv := fun k0 => match k0 with
  | 3 => some (in58_3 xs at_ )
  | 7 => some (in58_7 xs at_ )
  | 15 => some (in58_15 xs at_ )
  | 24 => some (in58_24 xs at_ )
  | 29 => some (in58_29 xs at_ )
  | _ => none
noncomputable def D58 : Nat → Option (Bool × FSpec) := lk [(59, (true, sp59)), (52, (true, sp52)), (45, (true, sp45)), (49, (false, sp49w))]
theorem da58 : SoundAll Tryz.prog D58 := soundAll_cons so59 (soundAll_cons so52 (soundAll_cons so45 (soundAll_cons so49w (soundAll_nil))))
noncomputable def cx58 (xs : List Int) (at_ : Int)  : Cx := ⟨tt, D58, Tryz.f58.ntmps, [0, 2, 3, 4, 5, 6, 7, 8, 9, 10, 11, 12, 15, 22, 27, 36, 47, 52, 59, 78, 92], [(3, ⟨[(0, none), (3, some 7), (4, none)], [(0, [])]⟩), (7, ⟨[(0, none), (3, some 7), (4, none), (5, none), (6, none)], [(0, [])]⟩), (15, ⟨[(0, none), (3, some 7), (7, none), (8, none)], [(0, [])]⟩), (24, ⟨[(0, none), (3, some 7), (10, none), (11, none)], [(0, []), (704, [(6, 1)])]⟩), (29, ⟨[(0, none), (3, some 7), (12, none)], [(0, [])]⟩)], [], iv58 xs at_ , [], noM, [7]⟩
noncomputable def k58_0 (xs : List Int) : List Int := (decL decY (encL encY 1 (decL decY (encL encY 1 xs))))
noncomputable def k58_1 (xs : List Int) (x_3 : Nat × Int × List Msg) : Int := (ra45 (decL decY (encL encY 1 xs)) x_3.2.1 (List.map (fun (i : Nat) ↦ intA (vi (List.getD [(1 : Int), (1 : Int), (0 : Int)] i (0 : Int)))) (List.range 3)))
noncomputable def k58_2 (xs : List Int) (y : Int × Int × Nat × Int × List Msg) : AS := (AS.mk [(0, V.oref 0 0 0), (3, V.osl 32000256 (List.length y.2.2.2.2)), (4, vi y.1), (5, vi y.2.1), (6, vi ((5 : Int) - (↑y.2.2.1 : Int)))] [(32000256, Blk.arr 7 (List.length y.2.2.2.2) (gL (encMsg 1) y.2.2.2.2) 2), (0, Blk.box [encL encY 0 xs, vi y.2.2.2.1])])
noncomputable def k58_3 (xs : List Int) (x_3 : Nat × Int × List Msg) : List V := [V.agg [vi (1 : Int), vi (pickF (decL decY (encL encY 1 xs)) x_3.2.1 (List.map (fun (i : Nat) ↦ intA (vi (List.getD [(1 : Int), (1 : Int), (0 : Int)] i (0 : Int)))) (List.range 3))), vi (pickF (k58_0 xs) (k58_1 xs x_3) (List.map (fun (i : Nat) ↦ intA (vi (List.getD [(2 : Int), (2 : Int), (1 : Int)] i (0 : Int)))) (List.range 3))), vi ((4 : Int) - (↑x_3.1 : Int)), vi (nextF (decL decY (encL encY 1 (k58_0 xs))) (ra45 (k58_0 xs) (k58_1 xs x_3) (List.map (fun (i : Nat) ↦ intA (vi (List.getD [(2 : Int), (2 : Int), (1 : Int)] i (0 : Int)))) (List.range 3))) (3 : Int)), V.nil, V.nil]]
noncomputable def k58_4 (x_1 : Nat × Nat × Int × List Msg) : List V := [V.agg [vi (4 : Int), vi (1 : Int), vi ((5 : Int) - (↑x_1.2.1 : Int)), vi (0 : Int), vi (0 : Int), V.sl (List.length (ro49w (decL decMsg (encL (encMsg 1) 1 x_1.2.2.2)) ((5 : Int) - (↑x_1.2.1 : Int)) (1 : Int)) + 1) (appg (List.length (ro49w (decL decMsg (encL (encMsg 1) 1 x_1.2.2.2)) ((5 : Int) - (↑x_1.2.1 : Int)) (1 : Int))) (gL (encCert 1) (ro49w (decL decMsg (encL (encMsg 1) 1 x_1.2.2.2)) ((5 : Int) - (↑x_1.2.1 : Int)) (1 : Int))) (rowg [V.agg [vi (9 : Int), vi (0 : Int), vi (1 : Int)]])) 2, V.nil]]
noncomputable def k58_5 (xs : List Int) (y : Nat × Nat × Int × List Msg) : AS := (AS.mk [(0, V.oref 0 0 0), (3, V.osl 32000256 (List.length y.2.2.2)), (7, vi (↑y.1 : Int)), (8, vi ((5 : Int) - (↑y.2.1 : Int)))] [(32000256, Blk.arr 7 (List.length y.2.2.2) (gL (encMsg 1) y.2.2.2) 2), (0, Blk.box [encL encY 0 xs, vi y.2.2.1])])
noncomputable def k58_6 (xs : List Int) (x_1 : Int × Int × Nat × Int × List Msg) : Int := (ra52 (decL decY (encL encY 1 xs)) x_1.2.2.2.1 (8 : Int))
noncomputable def k58_7 (x_1 : Int × Int × Nat × Int × List Msg) : List V := [V.agg [vi (3 : Int), vi (0 : Int), vi ((5 : Int) - (↑x_1.2.2.1 : Int)), vi x_1.1, vi x_1.2.1, V.nil, V.nil]]
noncomputable def k58_8 (xs : List Int) : V := (encL encY 1 (decL decY (encL encY 1 xs)))
noncomputable def k58_9 (x_1 : Nat × Nat × Int × List Msg) : List V := [V.agg [vi (4 : Int), vi (1 : Int), vi ((5 : Int) - (↑x_1.2.1 : Int)), vi (0 : Int), vi (0 : Int), encL (encCert 1) 2 (ro49w (decL decMsg (encL (encMsg 1) 1 x_1.2.2.2)) ((5 : Int) - (↑x_1.2.1 : Int)) (1 : Int)), V.nil]]
noncomputable def k58_10 (x_1 : Int × Int × Nat × Int × List Msg) : List V := [V.agg [vi (2 : Int), vi (0 : Int), vi ((5 : Int) - (↑x_1.2.2.1 : Int)), vi x_1.1, vi x_1.2.1, V.nil, V.nil]]
noncomputable def k58_11 (xs : List Int) (x_1 : Nat × Nat × Int × List Msg) : Int := (ra52 (decL decY (encL encY 1 xs)) x_1.2.2.1 (6 : Int))
noncomputable def k58_12 (x_2 : Nat × Nat × Int × Int × List Msg) : Int := (↑(Prod.fst x_2.2 + Prod.fst x_2) : Int)
noncomputable def k58_13 (xs : List Int) (x_1 : Int × Int × Nat × Int × List Msg) : Nat × Blk := (0, Blk.box [encL encY 0 (k58_0 xs), vi (ra52 (k58_0 xs) (k58_6 xs x_1) (2 : Int))])
noncomputable def k58_14 (x_1 : Int × Int × Nat × Int × List Msg) : Prop := (inK IntKind.i64 ((5 : Int) - (↑x_1.2.2.1 : Int) + (1 : Int)))
noncomputable def k58_15 (x_1 : Int × Int × Nat × Int × List Msg) : List (Nat × V) := [(0, V.oref 0 0 0), (3, V.osl 32000256 (List.length x_1.2.2.2.2 + 1)), (4, vi x_1.1), (5, vi x_1.2.1), (6, vi ((5 : Int) - (↑x_1.2.2.1 : Int) + (1 : Int)))]
theorem bd58 (xs : List Int) (at_ : Int)  (hpre : pr58 xs at_ ) : bodyO (cx58 xs at_ ) Tryz.f58 [(0, 7)] [.oref 0 0 0] [(.box [encL encY 1 xs, .int .i64 at_])] (fun rr bs => VLe rr (rs58 xs at_ ) ∧ BinLe bs [(.box [encL encY 1 xs, .int .i64 (ra58 xs at_ )]), (.arr 7 (ro58 xs at_ ).length (gL (encMsg 1) (ro58 xs at_ )) 2)]) := by
  have key : ((∃ x : Nat × Int × List Msg, ((SLe (AS.mk [(0, V.oref 0 0 0), (3, V.osl 32000256 0), (4, vi (1 : Int))] [(32000256, Blk.arr 7 0 (rowg []) 2), (0, Blk.box [encL encY 1 xs, vi at_])]) (AS.mk [(0, V.oref 0 0 0), (3, V.osl 32000256 (List.length x.2.2)), (4, vi ((3 : Int) - (↑x.1 : Int)))] [(32000256, Blk.arr 7 (List.length x.2.2) (gL (encMsg 1) x.2.2) 2), (0, Blk.box [encL encY 0 xs, vi x.2.1])])) ∧ (goW xs at_ x.1 x.2.1 x.2.2))) ∧ (∀ x : Nat × Int × List Msg, ((goW xs at_ x.1 x.2.1 x.2.2) → (((decide ((3 : Int) - (↑x.1 : Int) ≤ (2 : Int)) = true) → ((((0 = 0) ∧ ((0 = 0) ∧ (0 = 0))) ∧ ((VLe (encL encY 1 xs) (k58_8 xs)) ∧ (pr59 (decL decY (encL encY 1 xs)) x.2.1 (2 : Int)))) ∧ ((inK IntKind.i64 ((1 : Int) + nextF (decL decY (encL encY 1 xs)) x.2.1 (2 : Int))) ∧ (∃ R : Int × Int × Nat × Int × List Msg → Prop, ((∃ x_1 : Int × Int × Nat × Int × List Msg, ((SLe (AS.mk [(0, V.oref 0 0 0), (3, V.osl 32000256 (List.length x.2.2)), (4, vi ((3 : Int) - (↑x.1 : Int))), (5, vi ((1 : Int) + nextF (decL decY (encL encY 1 xs)) x.2.1 (2 : Int))), (6, vi (1 : Int))] [(32000256, Blk.arr 7 (List.length x.2.2) (gL (encMsg 1) x.2.2) 2), (0, Blk.box [encL encY 0 (decL decY (encL encY 1 xs)), vi (ra59 (decL decY (encL encY 1 xs)) x.2.1 (2 : Int))])]) (AS.mk [(0, V.oref 0 0 0), (3, V.osl 32000256 (List.length x_1.2.2.2.2)), (4, vi x_1.1), (5, vi x_1.2.1), (6, vi ((5 : Int) - (↑x_1.2.2.1 : Int)))] [(32000256, Blk.arr 7 (List.length x_1.2.2.2.2) (gL (encMsg 1) x_1.2.2.2.2) 2), (0, Blk.box [encL encY 0 xs, vi x_1.2.2.2.1])])) ∧ (((Prod.fst x_1.2.2 ≤ 4) ∧ (shortM 100 x_1.2.2.2.2)) ∧ (R x_1)))) ∧ (∀ x_1 : Int × Int × Nat × Int × List Msg, (((Prod.fst x_1.2.2 ≤ 4) ∧ (shortM 100 x_1.2.2.2.2)) → ((R x_1) → (((decide ((5 : Int) - (↑x_1.2.2.1 : Int) ≤ (4 : Int)) = true) → ((((0 = 0) ∧ ((0 = 0) ∧ (0 = 0))) ∧ ((VLe (encL encY 1 xs) (k58_8 xs)) ∧ (pr52 (decL decY (encL encY 1 xs)) x_1.2.2.2.1 (8 : Int)))) ∧ ((((!decide (nextF (decL decY (encL encY 1 xs)) x_1.2.2.2.1 (8 : Int) = (0 : Int))) = true) → ((List.length x_1.2.2.2.2 = List.length x_1.2.2.2.2) ∧ ((List.length x_1.2.2.2.2 + 1 ≤ 1073741824) ∧ ((sizedL 7 1 (rowg (k58_10 x_1))) ∧ ((((0 = 0) ∧ ((0 = 0) ∧ (0 = 0))) ∧ ((VLe (k58_8 xs) (encL encY 1 (k58_0 xs))) ∧ (pr52 (k58_0 xs) (k58_6 xs x_1) (2 : Int)))) ∧ (((decide (nextF (k58_0 xs) (k58_6 xs x_1) (2 : Int) = (0 : Int)) = true) → ((List.length x_1.2.2.2.2 + 1 = List.length x_1.2.2.2.2 + 1) ∧ ((List.length x_1.2.2.2.2 + 1 + 1 ≤ 1073741824) ∧ ((sizedL 7 1 (rowg (k58_7 x_1))) ∧ ((k58_14 x_1) ∧ (∃ y : Int × Int × Nat × Int × List Msg, ((SLe (AS.mk [(0, V.oref 0 0 0), (3, V.osl 32000256 (List.length x_1.2.2.2.2 + 1 + 1)), (4, vi x_1.1), (5, vi x_1.2.1), (6, vi ((5 : Int) - (↑x_1.2.2.1 : Int) + (1 : Int)))] [(32000256, Blk.arr 7 (List.length x_1.2.2.2.2 + 1 + 1) (appg (List.length x_1.2.2.2.2 + 1) (appg (List.length x_1.2.2.2.2) (gL (encMsg 1) x_1.2.2.2.2) (rowg (k58_10 x_1))) (rowg (k58_7 x_1))) 2), (k58_13 xs x_1)]) (k58_2 xs y)) ∧ (((Prod.fst y.2.2 ≤ 4) ∧ (shortM 100 y.2.2.2.2)) ∧ ((R y) ∧ (Prod.fst y.2.2 < Prod.fst x_1.2.2)))))))))) ∧ ((decide (nextF (k58_0 xs) (k58_6 xs x_1) (2 : Int) = (0 : Int)) = false) → ((k58_14 x_1) ∧ (∃ y : Int × Int × Nat × Int × List Msg, ((SLe (AS.mk (k58_15 x_1) [(32000256, Blk.arr 7 (List.length x_1.2.2.2.2 + 1) (appg (List.length x_1.2.2.2.2) (gL (encMsg 1) x_1.2.2.2.2) (rowg (k58_10 x_1))) 2), (k58_13 xs x_1)]) (k58_2 xs y)) ∧ (((Prod.fst y.2.2 ≤ 4) ∧ (shortM 100 y.2.2.2.2)) ∧ ((R y) ∧ (Prod.fst y.2.2 < Prod.fst x_1.2.2))))))))))))) ∧ (((!decide (nextF (decL decY (encL encY 1 xs)) x_1.2.2.2.1 (8 : Int) = (0 : Int))) = false) → ((((0 = 0) ∧ ((0 = 0) ∧ (0 = 0))) ∧ ((VLe (k58_8 xs) (encL encY 1 (k58_0 xs))) ∧ (pr52 (k58_0 xs) (k58_6 xs x_1) (2 : Int)))) ∧ (((decide (nextF (k58_0 xs) (k58_6 xs x_1) (2 : Int) = (0 : Int)) = true) → ((List.length x_1.2.2.2.2 = List.length x_1.2.2.2.2) ∧ ((List.length x_1.2.2.2.2 + 1 ≤ 1073741824) ∧ ((sizedL 7 1 (rowg (k58_7 x_1))) ∧ ((k58_14 x_1) ∧ (∃ y : Int × Int × Nat × Int × List Msg, ((SLe (AS.mk (k58_15 x_1) [(32000256, Blk.arr 7 (List.length x_1.2.2.2.2 + 1) (appg (List.length x_1.2.2.2.2) (gL (encMsg 1) x_1.2.2.2.2) (rowg (k58_7 x_1))) 2), (k58_13 xs x_1)]) (k58_2 xs y)) ∧ (((Prod.fst y.2.2 ≤ 4) ∧ (shortM 100 y.2.2.2.2)) ∧ ((R y) ∧ (Prod.fst y.2.2 < Prod.fst x_1.2.2)))))))))) ∧ ((decide (nextF (k58_0 xs) (k58_6 xs x_1) (2 : Int) = (0 : Int)) = false) → ((k58_14 x_1) ∧ (∃ y : Int × Int × Nat × Int × List Msg, ((SLe (AS.mk [(0, V.oref 0 0 0), (3, V.osl 32000256 (List.length x_1.2.2.2.2)), (4, vi x_1.1), (5, vi x_1.2.1), (6, vi ((5 : Int) - (↑x_1.2.2.1 : Int) + (1 : Int)))] [(32000256, Blk.arr 7 (List.length x_1.2.2.2.2) (gL (encMsg 1) x_1.2.2.2.2) 2), (k58_13 xs x_1)]) (k58_2 xs y)) ∧ (((Prod.fst y.2.2 ≤ 4) ∧ (shortM 100 y.2.2.2.2)) ∧ ((R y) ∧ (Prod.fst y.2.2 < Prod.fst x_1.2.2))))))))))))) ∧ ((decide ((5 : Int) - (↑x_1.2.2.1 : Int) ≤ (4 : Int)) = false) → ((inK IntKind.i64 (Prod.fst x_1 + (1 : Int))) ∧ (∃ y : Nat × Int × List Msg, ((SLe (AS.mk [(0, V.oref 0 0 0), (3, V.osl 32000256 (List.length x_1.2.2.2.2)), (4, vi (Prod.fst x_1 + (1 : Int)))] [(32000256, Blk.arr 7 (List.length x_1.2.2.2.2) (gL (encMsg 1) x_1.2.2.2.2) 2), (0, Blk.box [encL encY 0 xs, vi x_1.2.2.2.1])]) (AS.mk [(0, V.oref 0 0 0), (3, V.osl 32000256 (List.length y.2.2)), (4, vi ((3 : Int) - (↑y.1 : Int)))] [(32000256, Blk.arr 7 (List.length y.2.2) (gL (encMsg 1) y.2.2) 2), (0, Blk.box [encL encY 0 xs, vi y.2.1])])) ∧ ((goW xs at_ y.1 y.2.1 y.2.2) ∧ (Prod.fst y < Prod.fst x))))))))))))))) ∧ ((decide ((3 : Int) - (↑x.1 : Int) ≤ (2 : Int)) = false) → ((∃ x_1 : Nat × Nat × Int × List Msg, ((SLe (AS.mk [(0, V.oref 0 0 0), (3, V.osl 32000256 (List.length x.2.2)), (7, vi (↑(List.length x.2.2) : Int)), (8, vi (1 : Int))] [(32000256, Blk.arr 7 (List.length x.2.2) (gL (encMsg 1) x.2.2) 2), (0, Blk.box [encL encY 0 xs, vi x.2.1])]) (AS.mk [(0, V.oref 0 0 0), (3, V.osl 32000256 (List.length x_1.2.2.2)), (7, vi (↑x_1.1 : Int)), (8, vi ((5 : Int) - (↑x_1.2.1 : Int)))] [(32000256, Blk.arr 7 (List.length x_1.2.2.2) (gL (encMsg 1) x_1.2.2.2) 2), (0, Blk.box [encL encY 0 xs, vi x_1.2.2.1])])) ∧ (goC xs at_ x_1.1 x_1.2.1 x_1.2.2.1 x_1.2.2.2))) ∧ (∀ x_1 : Nat × Nat × Int × List Msg, ((goC xs at_ x_1.1 x_1.2.1 x_1.2.2.1 x_1.2.2.2) → (((decide ((5 : Int) - (↑x_1.2.1 : Int) ≤ (4 : Int)) = true) → ((((0 = 0) ∧ ((0 = 0) ∧ (0 = 0))) ∧ ((VLe (encL encY 1 xs) (k58_8 xs)) ∧ (pr52 (decL decY (encL encY 1 xs)) x_1.2.2.1 (6 : Int)))) ∧ ((((!decide (nextF (decL decY (encL encY 1 xs)) x_1.2.2.1 (6 : Int) = (0 : Int))) = true) → (((VLe (encL (encMsg 1) 1 x_1.2.2.2) (encL (encMsg 1) 1 (decL decMsg (encL (encMsg 1) 1 x_1.2.2.2)))) ∧ (pr49w (decL decMsg (encL (encMsg 1) 1 x_1.2.2.2)) ((5 : Int) - (↑x_1.2.1 : Int)) (1 : Int))) ∧ ((((0 = 0) ∧ ((0 = 0) ∧ (0 = 0))) ∧ ((VLe (k58_8 xs) (encL encY 1 (k58_0 xs))) ∧ (pr52 (k58_0 xs) (k58_11 xs x_1) (8 : Int)))) ∧ (((decide (nextF (k58_0 xs) (k58_11 xs x_1) (8 : Int) = (0 : Int)) = true) → ((List.length (ro49w (decL decMsg (encL (encMsg 1) 1 x_1.2.2.2)) ((5 : Int) - (↑x_1.2.1 : Int)) (1 : Int)) = List.length (ro49w (decL decMsg (encL (encMsg 1) 1 x_1.2.2.2)) ((5 : Int) - (↑x_1.2.1 : Int)) (1 : Int))) ∧ ((List.length (ro49w (decL decMsg (encL (encMsg 1) 1 x_1.2.2.2)) ((5 : Int) - (↑x_1.2.1 : Int)) (1 : Int)) + 1 ≤ 1073741824) ∧ ((sizedL 3 1 (rowg [V.agg [vi (9 : Int), vi (0 : Int), vi (1 : Int)]])) ∧ ((List.length x_1.2.2.2 = List.length x_1.2.2.2) ∧ ((List.length x_1.2.2.2 + 1 ≤ 1073741824) ∧ ((sizedL 7 1 (rowg (k58_4 x_1))) ∧ ((inK IntKind.i64 ((5 : Int) - (↑x_1.2.1 : Int) + (1 : Int))) ∧ (∃ y : Nat × Nat × Int × List Msg, ((SLe (AS.mk [(0, V.oref 0 0 0), (3, V.osl 32000256 (List.length x_1.2.2.2 + 1)), (7, vi (↑x_1.1 : Int)), (8, vi ((5 : Int) - (↑x_1.2.1 : Int) + (1 : Int)))] [(32000256, Blk.arr 7 (List.length x_1.2.2.2 + 1) (appg (List.length x_1.2.2.2) (gL (encMsg 1) x_1.2.2.2) (rowg (k58_4 x_1))) 2), (0, Blk.box [encL encY 0 (k58_0 xs), vi (ra52 (k58_0 xs) (k58_11 xs x_1) (8 : Int))])]) (k58_5 xs y)) ∧ ((goC xs at_ y.1 y.2.1 y.2.2.1 y.2.2.2) ∧ (Prod.fst y.2 < Prod.fst x_1.2)))))))))))) ∧ ((decide (nextF (k58_0 xs) (k58_11 xs x_1) (8 : Int) = (0 : Int)) = false) → ((List.length x_1.2.2.2 = List.length x_1.2.2.2) ∧ ((List.length x_1.2.2.2 + 1 ≤ 1073741824) ∧ ((sizedL 7 1 (rowg (k58_9 x_1))) ∧ ((inK IntKind.i64 ((5 : Int) - (↑x_1.2.1 : Int) + (1 : Int))) ∧ (∃ y : Nat × Nat × Int × List Msg, ((SLe (AS.mk [(0, V.oref 0 0 0), (3, V.osl 32000256 (List.length x_1.2.2.2 + 1)), (7, vi (↑x_1.1 : Int)), (8, vi ((5 : Int) - (↑x_1.2.1 : Int) + (1 : Int)))] [(32000256, Blk.arr 7 (List.length x_1.2.2.2 + 1) (appg (List.length x_1.2.2.2) (gL (encMsg 1) x_1.2.2.2) (rowg (k58_9 x_1))) 2), (0, Blk.box [encL encY 0 (k58_0 xs), vi (ra52 (k58_0 xs) (k58_11 xs x_1) (8 : Int))])]) (k58_5 xs y)) ∧ ((goC xs at_ y.1 y.2.1 y.2.2.1 y.2.2.2) ∧ (Prod.fst y.2 < Prod.fst x_1.2))))))))))))) ∧ (((!decide (nextF (decL decY (encL encY 1 xs)) x_1.2.2.1 (6 : Int) = (0 : Int))) = false) → ((inK IntKind.i64 ((5 : Int) - (↑x_1.2.1 : Int) + (1 : Int))) ∧ (∃ y : Nat × Nat × Int × List Msg, ((SLe (AS.mk [(0, V.oref 0 0 0), (3, V.osl 32000256 (List.length x_1.2.2.2)), (7, vi (↑x_1.1 : Int)), (8, vi ((5 : Int) - (↑x_1.2.1 : Int) + (1 : Int)))] [(32000256, Blk.arr 7 (List.length x_1.2.2.2) (gL (encMsg 1) x_1.2.2.2) 2), (0, Blk.box [encL encY 0 (decL decY (encL encY 1 xs)), vi (k58_11 xs x_1)])]) (k58_5 xs y)) ∧ ((goC xs at_ y.1 y.2.1 y.2.2.1 y.2.2.2) ∧ (Prod.fst y.2 < Prod.fst x_1.2))))))))) ∧ ((decide ((5 : Int) - (↑x_1.2.1 : Int) ≤ (4 : Int)) = false) → ((((0 = 0) ∧ ((0 = 0) ∧ (0 = 0))) ∧ ((VLe (encL encY 1 xs) (k58_8 xs)) ∧ (((1 = 1) ∧ ((1 = 1) ∧ ((100 = 100) ∧ ((4 = 4) ∧ (∀ i : Nat, ((i < 4) → (ELe (vi (List.getD [(2 : Int), (2 : Int), (2 : Int), (1 : Int)] i (0 : Int))) (vi (intA (vi (List.getD [(2 : Int), (2 : Int), (2 : Int), (1 : Int)] i (0 : Int)))))))))))) ∧ (pr45 (decL decY (encL encY 1 xs)) x_1.2.2.1 (List.map (fun (i : Nat) ↦ intA (vi (List.getD [(2 : Int), (2 : Int), (2 : Int), (1 : Int)] i (0 : Int)))) (List.range 4)))))) ∧ ((4 = 4) ∧ ((∃ x_2 : Nat × Nat × Int × Int × List Msg, ((SLe (AS.mk [(0, V.oref 0 0 0), (3, V.osl 32000256 (List.length x_1.2.2.2)), (10, V.oref 704 0 0), (11, vi (↑x_1.1 : Int))] [(32000256, Blk.arr 7 (List.length x_1.2.2.2) (gL (encMsg 1) x_1.2.2.2) 2), (0, Blk.box [encL encY 0 (decL decY (encL encY 1 xs)), vi (ra45 (decL decY (encL encY 1 xs)) x_1.2.2.1 (List.map (fun (i : Nat) ↦ intA (vi (List.getD [(2 : Int), (2 : Int), (2 : Int), (1 : Int)] i (0 : Int)))) (List.range 4)))]), (704, Blk.box [vi (5 : Int), vi (1 : Int), vi (pickF (decL decY (encL encY 1 xs)) x_1.2.2.1 (List.map (fun (i : Nat) ↦ intA (vi (List.getD [(2 : Int), (2 : Int), (2 : Int), (1 : Int)] i (0 : Int)))) (List.range 4))), vi (0 : Int), vi (0 : Int), V.nil, V.osl 66883968 0]), (66883968, Blk.arr 1 0 (fun (x : Nat) ↦ V.undef) 100)]) (AS.mk [(0, V.oref 0 0 0), (3, V.osl 32000256 (List.length x_2.2.2.2.2)), (10, V.oref 704 0 0), (11, vi (k58_12 x_2))] [(32000256, Blk.arr 7 (List.length x_2.2.2.2.2) (gL (encMsg 1) x_2.2.2.2.2) 2), (0, Blk.box [encL encY 0 xs, vi x_2.2.2.2.1]), (704, Blk.box [vi (5 : Int), vi (1 : Int), vi x_2.2.2.1, vi (0 : Int), vi (0 : Int), V.nil, V.osl 66883968 (List.length (refsUp x_2.2.1 x_2.1))]), (66883968, Blk.arr 1 (List.length (refsUp x_2.2.1 x_2.1)) (gL encI (refsUp x_2.2.1 x_2.1)) 100)])) ∧ (goR xs at_ x_2.1 x_2.2.1 x_2.2.2.1 x_2.2.2.2.1 x_2.2.2.2.2))) ∧ (∀ x_2 : Nat × Nat × Int × Int × List Msg, ((goR xs at_ x_2.1 x_2.2.1 x_2.2.2.1 x_2.2.2.2.1 x_2.2.2.2.2) → (((decide ((k58_12 x_2) < (↑(List.length x_2.2.2.2.2) : Int)) = true) → ((List.length (refsUp x_2.2.1 x_2.1) = List.length (refsUp x_2.2.1 x_2.1)) ∧ ((List.length (refsUp x_2.2.1 x_2.1) + 1 ≤ 1073741824) ∧ ((sizedL 1 1 (rowg [vi (k58_12 x_2)])) ∧ ((inK IntKind.i64 ((k58_12 x_2) + (1 : Int))) ∧ (∃ y : Nat × Nat × Int × Int × List Msg, ((SLe (AS.mk [(0, V.oref 0 0 0), (3, V.osl 32000256 (List.length x_2.2.2.2.2)), (10, V.oref 704 0 0), (11, vi ((k58_12 x_2) + (1 : Int)))] [(32000256, Blk.arr 7 (List.length x_2.2.2.2.2) (gL (encMsg 1) x_2.2.2.2.2) 2), (0, Blk.box [encL encY 0 xs, vi x_2.2.2.2.1]), (704, Blk.box [vi (5 : Int), vi (1 : Int), vi x_2.2.2.1, vi (0 : Int), vi (0 : Int), V.nil, V.osl 66883968 (List.length (refsUp x_2.2.1 x_2.1) + 1)]), (66883968, Blk.arr 1 (List.length (refsUp x_2.2.1 x_2.1) + 1) (appg (List.length (refsUp x_2.2.1 x_2.1)) (gL encI (refsUp x_2.2.1 x_2.1)) (rowg [vi (k58_12 x_2)])) 100)]) (AS.mk [(0, V.oref 0 0 0), (3, V.osl 32000256 (List.length y.2.2.2.2)), (10, V.oref 704 0 0), (11, vi (↑(Prod.fst y.2 + Prod.fst y) : Int))] [(32000256, Blk.arr 7 (List.length y.2.2.2.2) (gL (encMsg 1) y.2.2.2.2) 2), (0, Blk.box [encL encY 0 xs, vi y.2.2.2.1]), (704, Blk.box [vi (5 : Int), vi (1 : Int), vi y.2.2.1, vi (0 : Int), vi (0 : Int), V.nil, V.osl 66883968 (List.length (refsUp y.2.1 y.1))]), (66883968, Blk.arr 1 (List.length (refsUp y.2.1 y.1)) (gL encI (refsUp y.2.1 y.1)) 100)])) ∧ ((goR xs at_ y.1 y.2.1 y.2.2.1 y.2.2.2.1 y.2.2.2.2) ∧ (List.length y.2.2.2.2 - Prod.fst y < List.length x_2.2.2.2.2 - Prod.fst x_2))))))))) ∧ ((decide ((k58_12 x_2) < (↑(List.length x_2.2.2.2.2) : Int)) = false) → ((List.length x_2.2.2.2.2 = List.length x_2.2.2.2.2) ∧ ((List.length x_2.2.2.2.2 + 1 ≤ 1073741824) ∧ ((sizedL 7 1 (rowg [V.agg [vi (5 : Int), vi (1 : Int), vi x_2.2.2.1, vi (0 : Int), vi (0 : Int), V.nil, encL encI 2 (refsUp x_2.2.1 x_2.1)]])) ∧ ((∃ x_3 : Nat × Int × List Msg, ((SLe (AS.mk [(0, V.oref 0 0 0), (3, V.osl 32000256 (List.length x_2.2.2.2.2 + 1)), (12, vi (1 : Int))] [(32000256, Blk.arr 7 (List.length x_2.2.2.2.2 + 1) (appg (List.length x_2.2.2.2.2) (gL (encMsg 1) x_2.2.2.2.2) (rowg [V.agg [vi (5 : Int), vi (1 : Int), vi x_2.2.2.1, vi (0 : Int), vi (0 : Int), V.nil, encL encI 2 (refsUp x_2.2.1 x_2.1)]])) 2), (0, Blk.box [encL encY 0 xs, vi x_2.2.2.2.1])]) (AS.mk [(0, V.oref 0 0 0), (3, V.osl 32000256 (List.length x_3.2.2)), (12, vi ((4 : Int) - (↑x_3.1 : Int)))] [(32000256, Blk.arr 7 (List.length x_3.2.2) (gL (encMsg 1) x_3.2.2) 2), (0, Blk.box [encL encY 0 xs, vi x_3.2.1])])) ∧ (goP xs at_ x_3.1 x_3.2.1 x_3.2.2))) ∧ (∀ x_3 : Nat × Int × List Msg, ((goP xs at_ x_3.1 x_3.2.1 x_3.2.2) → (((decide ((4 : Int) - (↑x_3.1 : Int) ≤ (3 : Int)) = true) → ((((0 = 0) ∧ ((0 = 0) ∧ (0 = 0))) ∧ ((VLe (encL encY 1 xs) (k58_8 xs)) ∧ (((1 = 1) ∧ ((1 = 1) ∧ ((100 = 100) ∧ ((3 = 3) ∧ (∀ i : Nat, ((i < 3) → (ELe (vi (List.getD [(1 : Int), (1 : Int), (0 : Int)] i (0 : Int))) (vi (intA (vi (List.getD [(1 : Int), (1 : Int), (0 : Int)] i (0 : Int)))))))))))) ∧ (pr45 (decL decY (encL encY 1 xs)) x_3.2.1 (List.map (fun (i : Nat) ↦ intA (vi (List.getD [(1 : Int), (1 : Int), (0 : Int)] i (0 : Int)))) (List.range 3)))))) ∧ ((3 = 3) ∧ ((((0 = 0) ∧ ((0 = 0) ∧ (0 = 0))) ∧ ((VLe (k58_8 xs) (encL encY 1 (k58_0 xs))) ∧ (((1 = 1) ∧ ((1 = 1) ∧ ((100 = 100) ∧ ((3 = 3) ∧ (∀ i : Nat, ((i < 3) → (ELe (vi (List.getD [(2 : Int), (2 : Int), (1 : Int)] i (0 : Int))) (vi (intA (vi (List.getD [(2 : Int), (2 : Int), (1 : Int)] i (0 : Int)))))))))))) ∧ (pr45 (k58_0 xs) (k58_1 xs x_3) (List.map (fun (i : Nat) ↦ intA (vi (List.getD [(2 : Int), (2 : Int), (1 : Int)] i (0 : Int)))) (List.range 3)))))) ∧ ((3 = 3) ∧ ((((0 = 0) ∧ ((0 = 0) ∧ (0 = 0))) ∧ ((VLe (encL encY 1 (k58_0 xs)) (encL encY 1 (decL decY (encL encY 1 (k58_0 xs))))) ∧ (pr59 (decL decY (encL encY 1 (k58_0 xs))) (ra45 (k58_0 xs) (k58_1 xs x_3) (List.map (fun (i : Nat) ↦ intA (vi (List.getD [(2 : Int), (2 : Int), (1 : Int)] i (0 : Int)))) (List.range 3))) (3 : Int)))) ∧ ((List.length x_3.2.2 = List.length x_3.2.2) ∧ ((List.length x_3.2.2 + 1 ≤ 1073741824) ∧ ((sizedL 7 1 (rowg (k58_3 xs x_3))) ∧ ((inK IntKind.i64 ((4 : Int) - (↑x_3.1 : Int) + (1 : Int))) ∧ (∃ y : Nat × Int × List Msg, ((SLe (AS.mk [(0, V.oref 0 0 0), (3, V.osl 32000256 (List.length x_3.2.2 + 1)), (12, vi ((4 : Int) - (↑x_3.1 : Int) + (1 : Int)))] [(32000256, Blk.arr 7 (List.length x_3.2.2 + 1) (appg (List.length x_3.2.2) (gL (encMsg 1) x_3.2.2) (rowg (k58_3 xs x_3))) 2), (0, Blk.box [encL encY 0 (decL decY (encL encY 1 (k58_0 xs))), vi (ra59 (decL decY (encL encY 1 (k58_0 xs))) (ra45 (k58_0 xs) (k58_1 xs x_3) (List.map (fun (i : Nat) ↦ intA (vi (List.getD [(2 : Int), (2 : Int), (1 : Int)] i (0 : Int)))) (List.range 3))) (3 : Int))])]) (AS.mk [(0, V.oref 0 0 0), (3, V.osl 32000256 (List.length y.2.2)), (12, vi ((4 : Int) - (↑y.1 : Int)))] [(32000256, Blk.arr 7 (List.length y.2.2) (gL (encMsg 1) y.2.2) 2), (0, Blk.box [encL encY 0 xs, vi y.2.1])])) ∧ ((goP xs at_ y.1 y.2.1 y.2.2) ∧ (Prod.fst y < Prod.fst x_3)))))))))))))) ∧ ((decide ((4 : Int) - (↑x_3.1 : Int) ≤ (3 : Int)) = false) → ((VLe (V.osl 1 (List.length x_3.2.2)) (V.osl 1 (List.length (ro58 xs at_)))) ∧ ((BLe (Blk.box [encL encY 1 xs, vi x_3.2.1]) (Blk.box [encL encY 1 xs, vi (ra58 xs at_)])) ∧ ((BLe (Blk.arr 7 (List.length x_3.2.2) (gL (encMsg 1) x_3.2.2) 2) (Blk.arr 7 (List.length (ro58 xs at_)) (gL (encMsg 1) (ro58 xs at_)) 2)) ∧ (True))))))))))))))))))))))))))))) := by
    delta k58_15; delta k58_14; delta k58_13; delta k58_12; delta k58_11; delta k58_10; delta k58_9; delta k58_8; delta k58_7; delta k58_6; delta k58_5; delta k58_4; delta k58_3; delta k58_2; delta k58_1; delta k58_0; delta vi
    obtain ⟨h0, h1⟩ := hpre
    have h3 := h0.2.2.1
    simp only [decL_bytes, decL_Msg, pk5, pk6, pk7, ra45, ra59, ra52, ro49w, Int.add_assoc, Int.reduceAdd]
    have e32 : (3 : Int) - ((2 : Nat) : Int) = 1 := rfl
    have e54 : (5 : Int) - ((4 : Nat) : Int) = 1 := rfl
    have e43 : (4 : Int) - ((3 : Nat) : Int) = 1 := rfl
    refine ⟨⟨(2, at_, []), sle_of ⟨rfl, VLe.refl _, rfl, VLe.refl _, rfl, VLe.refl _, trivial⟩ ⟨rfl, ble_nilR _, rfl, src0, trivial⟩, Nat.le_refl _, by simp only [e32], by simp only; omega, by simp only [List.length_nil]; omega, shortM_nil _⟩, ?_⟩
    rintro ⟨F, A, L⟩ ⟨hF, hS, hA, hl, hs⟩
    simp only at hF hS hA hl hs ⊢
    refine ⟨fun h => ?_, fun h => ?_⟩
    · cases F with
      | zero => exact absurd (of_decide_eq_true h) (by decide)
      | succ F =>
        have a0 : okX xs A := h0.to (by omega) (by omega)
        have n2 := nextF_bd a0 2
        refine ⟨srcO a0, inK64 (by omega), fun p => p.1 = 3 - ((F + 1 : Nat) : Int) ∧ p.2.1 = 1 + nextF xs A 2 ∧
          wIdD xs (3 - ((F + 1 : Nat) : Int)) (1 + nextF xs A 2) p.2.2.1 (5 - p.2.2.1) p.2.2.2.1 p.2.2.2.2 = wIdD xs (3 - ((F + 1 : Nat) : Int)) (1 + nextF xs A 2) 4 1 (A + 1) L ∧
          p.2.2.2.1 = A + 1 + 2 * (4 - p.2.2.1) ∧ p.2.2.2.2.length + 2 * p.2.2.1 ≤ L.length + 8,
          ⟨(3 - ((F + 1 : Nat) : Int), 1 + nextF xs A 2, 4, A + 1, L), sle_of ⟨rfl, VLe.refl _, rfl, VLe.refl _, rfl, VLe.refl _, rfl, VLe.refl _, rfl, VLe.refl _, trivial⟩ ⟨rfl, BLe.refl _, rfl, BLe.refl _, trivial⟩, ⟨Nat.le_refl _, hs⟩, rfl, rfl, by simp only [e54], by simp only; omega, by simp only; omega⟩, ?_⟩
        rintro ⟨s, v, G, B, M⟩ ⟨hG, hm⟩ ⟨r1, r2, r4, r5, r6⟩
        simp only at hG hm r1 r2 r4 r5 r6 ⊢
        subst r1 r2
        refine ⟨fun h => ?_, fun h => ?_⟩
        · cases G with
          | zero => exact absurd (of_decide_eq_true h) (by decide)
          | succ G =>
            have e5 : (5 : Int) - ((G + 1 : Nat) : Int) + 1 = 5 - (G : Int) := by omega
            have b0 : okX xs B := h0.to (by omega) (by omega)
            have b1 : okX xs (B + 1) := h0.to (by omega) (by omega)
            have st : ∀ l' : List Msg, l' = (M ++ if nextF xs B 8 = 0 then [] else [⟨2, 0, 5 - ((G + 1 : Nat) : Int), 3 - ((F + 1 : Nat) : Int), 1 + nextF xs A 2, [], []⟩]) ++ (if nextF xs (B + 1) 2 = 0 then [⟨3, 0, 5 - ((G + 1 : Nat) : Int), 3 - ((F + 1 : Nat) : Int), 1 + nextF xs A 2, [], []⟩] else []) →
                wIdD xs (3 - ((F + 1 : Nat) : Int)) (1 + nextF xs A 2) G (5 - (G : Int)) (B + 2) l' = wIdD xs (3 - ((F + 1 : Nat) : Int)) (1 + nextF xs A 2) 4 1 (A + 1) L := fun l' hl' => by
              rw [← r4, wIdD_e hl', e5]
            refine ⟨srcO b0, fun c => ⟨trivial, by omega, sizedL_agg rfl rfl, srcO b1, fun d => ⟨trivial, ?_, sizedL_agg rfl rfl, inK64 (by omega), (3 - ((F + 1 : Nat) : Int), 1 + nextF xs A 2, G, B + 2, M ++ [⟨2, 0, 5 - ((G + 1 : Nat) : Int), 3 - ((F + 1 : Nat) : Int), 1 + nextF xs A 2, [], []⟩] ++ [⟨3, 0, 5 - ((G + 1 : Nat) : Int), 3 - ((F + 1 : Nat) : Int), 1 + nextF xs A 2, [], []⟩]), ?_, ⟨by simp only; omega, (hm.app (Nat.zero_le _) (Nat.zero_le _)).app (Nat.zero_le _) (Nat.zero_le _)⟩, ⟨rfl, rfl, st _ ?_, by simp only; omega, ?_⟩, by simp only; omega⟩,
                fun d => ⟨inK64 (by omega), (3 - ((F + 1 : Nat) : Int), 1 + nextF xs A 2, G, B + 2, M ++ [⟨2, 0, 5 - ((G + 1 : Nat) : Int), 3 - ((F + 1 : Nat) : Int), 1 + nextF xs A 2, [], []⟩]), ?_, ⟨by simp only; omega, hm.app (Nat.zero_le _) (Nat.zero_le _)⟩, ⟨rfl, rfl, st _ ?_, by simp only; omega, ?_⟩, by simp only; omega⟩⟩,
              fun c => ⟨srcO b1, fun d => ⟨trivial, by omega, sizedL_agg rfl rfl, inK64 (by omega), (3 - ((F + 1 : Nat) : Int), 1 + nextF xs A 2, G, B + 2, M ++ [⟨3, 0, 5 - ((G + 1 : Nat) : Int), 3 - ((F + 1 : Nat) : Int), 1 + nextF xs A 2, [], []⟩]), ?_, ⟨by simp only; omega, hm.app (Nat.zero_le _) (Nat.zero_le _)⟩, ⟨rfl, rfl, st _ ?_, by simp only; omega, ?_⟩, by simp only; omega⟩,
                fun d => ⟨inK64 (by omega), (3 - ((F + 1 : Nat) : Int), 1 + nextF xs A 2, G, B + 2, M), ?_, ⟨by simp only; omega, hm⟩, ⟨rfl, rfl, st _ ?_, by simp only; omega, by simp only; omega⟩, by simp only; omega⟩⟩⟩
            all_goals (try have hc1 : ¬ nextF xs B 8 = 0 := by simpa using c)
            all_goals (try have hc2 : nextF xs B 8 = 0 := by simpa using c)
            all_goals (try have hd1 := of_decide_eq_true d)
            all_goals (try have hd2 := of_decide_eq_false d)
            · omega
            · simp only [List.length_append, List.length_singleton]
              exact sle_of ⟨rfl, VLe.refl _, rfl, VLe.refl _, rfl, VLe.refl _, rfl, VLe.refl _, rfl, vle_int e5, trivial⟩ ⟨rfl, ble_push2E (ele_bare _ _ _ _ _) (ele_bare _ _ _ _ _), rfl, BLe.refl _, trivial⟩
            · rw [if_neg hc1, if_pos hd1]
            · simp only [List.length_append, List.length_singleton]; omega
            · simp only [List.length_append, List.length_singleton]
              exact sle_of ⟨rfl, VLe.refl _, rfl, VLe.refl _, rfl, VLe.refl _, rfl, VLe.refl _, rfl, vle_int e5, trivial⟩ ⟨rfl, ble_pushE (ele_bare _ _ _ _ _), rfl, BLe.refl _, trivial⟩
            · rw [if_neg hc1, if_neg hd2, List.append_nil]
            · simp only [List.length_append, List.length_singleton]; omega
            · simp only [List.length_append, List.length_singleton]
              exact sle_of ⟨rfl, VLe.refl _, rfl, VLe.refl _, rfl, VLe.refl _, rfl, VLe.refl _, rfl, vle_int e5, trivial⟩ ⟨rfl, ble_pushE (ele_bare _ _ _ _ _), rfl, BLe.refl _, trivial⟩
            · rw [if_pos hc2, if_pos hd1, List.append_nil]
            · simp only [List.length_append, List.length_singleton]; omega
            · exact sle_of ⟨rfl, VLe.refl _, rfl, VLe.refl _, rfl, VLe.refl _, rfl, VLe.refl _, rfl, vle_int e5, trivial⟩ ⟨rfl, BLe.refl _, rfl, BLe.refl _, trivial⟩
            · rw [if_pos hc2, if_neg hd2, List.append_nil, List.append_nil]
        · have hG0 : G = 0 := by have := of_decide_eq_false h; omega
          subst hG0
          have e3 : (3 : Int) - ((F + 1 : Nat) : Int) + 1 = 3 - (F : Int) := by omega
          refine ⟨inK64 (by omega), (F, B, M), sle_of ⟨rfl, VLe.refl _, rfl, VLe.refl _, rfl, vle_int e3, trivial⟩ ⟨rfl, BLe.refl _, rfl, BLe.refl _, trivial⟩, ⟨by simp only; omega, ?_, by simp only; omega, by simp only; omega, hm⟩, by simp only; omega⟩
          simp only
          rw [← hS, wSlotD, ← r4, wIdD, e3]
    · have hF0 : F = 0 := by have := of_decide_eq_false h; omega
      subst hF0
      have hS' : wSlotD xs 2 1 at_ [] = (L, A) := hS.symm
      refine ⟨⟨(L.length, 4, A, L), sle_of ⟨rfl, VLe.refl _, rfl, VLe.refl _, rfl, VLe.refl _, rfl, vle_int e54.symm, trivial⟩ ⟨rfl, BLe.refl _, rfl, BLe.refl _, trivial⟩, Nat.le_refl _, by simp only; rw [hS'], by simp only; unfold chS; rw [hS', e54], by simp only; omega, by simp only; omega, Nat.le_refl _, by simp only; omega, by simp only; omega, hs⟩, ?_⟩
      rintro ⟨first, f, a, l⟩ ⟨g1, g2, g3, g4, g5, g6, g7, g8, g9⟩
      simp only at g1 g2 g3 g4 g5 g6 g7 g8 g9 ⊢
      have ao : okX xs a := h0.to (by omega) (by omega)
      refine ⟨fun h => ?_, fun h => ?_⟩
      · cases f with
        | zero => exact absurd (of_decide_eq_true h) (by decide)
        | succ f =>
          have e5 : (5 : Int) - ((f + 1 : Nat) : Int) + 1 = 5 - (f : Int) := by omega
          have hcl := certsTo_len l (5 - ((f + 1 : Nat) : Int)) 1 30
          have hcl2 : (certsL l (5 - ((f + 1 : Nat) : Int)) 1).length ≤ 30 := hcl
          refine ⟨srcO ao, fun c => ⟨⟨VLe.refl _, by omega, bdL_short g9 (by omega) (by omega)⟩, srcO (h0.to (by omega) (by omega)),
            fun d => ⟨trivial, by omega, sizedL_agg rfl rfl, trivial, by omega, sizedL_agg rfl rfl, inK64 (by omega), (first, f, a + 2, l ++ [⟨4, 1, 5 - ((f + 1 : Nat) : Int), 0, 0, certsL l (5 - ((f + 1 : Nat) : Int)) 1 ++ [⟨9, 0, 1⟩], []⟩]), ?_, ⟨by simp only; omega, g2, ?_, by simp only; omega, by simp only; omega, ?_, ?_, g8, ?_⟩, by simp only; omega⟩,
            fun d => ⟨trivial, by omega, sizedL_agg rfl rfl, inK64 (by omega), (first, f, a + 2, l ++ [⟨4, 1, 5 - ((f + 1 : Nat) : Int), 0, 0, certsL l (5 - ((f + 1 : Nat) : Int)) 1, []⟩]), ?_, ⟨by simp only; omega, g2, ?_, by simp only; omega, by simp only; omega, ?_, ?_, g8, ?_⟩, by simp only; omega⟩⟩,
            fun c => ⟨inK64 (by omega), (first, f, a + 1, l), sle_of ⟨rfl, VLe.refl _, rfl, VLe.refl _, rfl, VLe.refl _, rfl, vle_int e5, trivial⟩ ⟨rfl, BLe.refl _, rfl, BLe.refl _, trivial⟩, ⟨by simp only; omega, g2, ?_, by simp only; omega, by simp only; omega, g6, by simp only; omega, g8, g9⟩, by simp only; omega⟩⟩
          · simp only [List.length_append, List.length_singleton]
            exact sle_of ⟨rfl, VLe.refl _, rfl, VLe.refl _, rfl, VLe.refl _, rfl, vle_int e5, trivial⟩ ⟨rfl, ble_pushE (ele_ch1 _ _), rfl, BLe.refl _, trivial⟩
          · have hc1 : ¬ nextF xs a 6 = 0 := by simpa using c
            simp only
            rw [← g3, wChD, if_neg hc1, if_pos (of_decide_eq_true d), e5]
          · simp only [List.length_append, List.length_singleton]; omega
          · simp only [List.length_append, List.length_singleton]; omega
          · exact g9.app (by simp only [List.length_append, List.length_singleton]; omega) (Nat.zero_le _)
          · simp only [List.length_append, List.length_singleton]
            exact sle_of ⟨rfl, VLe.refl _, rfl, VLe.refl _, rfl, VLe.refl _, rfl, vle_int e5, trivial⟩ ⟨rfl, ble_pushE (ele_ch2 _ _), rfl, BLe.refl _, trivial⟩
          · have hc1 : ¬ nextF xs a 6 = 0 := by simpa using c
            simp only
            rw [← g3, wChD, if_neg hc1, if_neg (of_decide_eq_false d), e5]
          · simp only [List.length_append, List.length_singleton]; omega
          · simp only [List.length_append, List.length_singleton]; omega
          · exact g9.app (by simp only; omega) (Nat.zero_le _)
          · have hc1 : nextF xs a 6 = 0 := by simpa using c
            simp only
            rw [← g3, wChD, if_pos hc1, e5]
      · have hf0 : f = 0 := by have := of_decide_eq_false h; omega
        subst hf0
        have hch : chS xs at_ = (l, a) := g3.symm
        have ea : a + 1 - 1 = a := by omega
        refine ⟨pickO ⟨ao, by decide, by decide⟩, trivial, ⟨(0, first, pickF xs a [2, 2, 2, 1], a + 1, l), sle_of ⟨rfl, VLe.refl _, rfl, VLe.refl _, rfl, VLe.refl _, rfl, vle_int (by simp), trivial⟩ ⟨rfl, BLe.refl _, rfl, BLe.refl _, rfl, BLe.refl _, rfl, ble_arr (fun i hi => absurd hi (Nat.not_lt_zero i)) (Or.inl rfl), trivial⟩, by simp only [ea]; exact hch, g2, by simp only [ea], by simp only; omega⟩, ?_⟩
        rintro ⟨i, fi, fr, b, M⟩ ⟨k1, k2, k3, k4⟩
        simp only at k1 k2 k3 k4 ⊢
        rw [hch] at k1
        simp only [Prod.mk.injEq] at k1
        obtain ⟨rfl, k5⟩ := k1
        have k6 : b = a + 1 := by omega
        subst k6
        have k7 : fi = first := k2.trans g2.symm
        subst k7
        refine ⟨fun h => ?_, fun h => ?_⟩
        · have hlt := of_decide_eq_true h
          have hrl := refsUp_len fi i
          refine ⟨trivial, by omega, sizedL_int, inK64 (by omega), (i + 1, fi, fr, a + 1, l), ?_, ⟨by simp only [ea]; exact hch, k2, k3, by simp only; omega⟩, by simp only; omega⟩
          simp only [refsUp_succ, List.length_append, List.length_singleton]
          exact sle_of ⟨rfl, VLe.refl _, rfl, VLe.refl _, rfl, VLe.refl _, rfl, vle_int (by omega), trivial⟩ ⟨rfl, BLe.refl _, rfl, BLe.refl _, rfl, BLe.refl _, rfl, ble_push rfl rfl, trivial⟩
        · have hge := of_decide_eq_false h
          have hi2 : l.length - fi = i := by omega
          have en : newS xs at_ = ⟨5, 1, fr, 0, 0, [], refsUp fi i⟩ := by
            unfold newS
            rw [hch, ← k2, k3, ea]
            simp only [hi2]
          have hri := refsUp_len fi i
          refine ⟨trivial, by omega, sizedL_agg rfl rfl, ⟨(3, a + 1, l ++ [⟨5, 1, fr, 0, 0, [], refsUp fi i⟩]), ?_, Nat.le_refl _, ?_, by simp only; omega, by simp only; omega, ?_, ?_⟩, ?_⟩
          · simp only [List.length_append, List.length_singleton]
            exact sle_of ⟨rfl, VLe.refl _, rfl, VLe.refl _, rfl, vle_int e43.symm, trivial⟩ ⟨rfl, ble_pushE (ele_new _ _), rfl, BLe.refl _, trivial⟩
          · simp only
            unfold world10
            rw [en, hch, e43]
          · simp only [List.length_append, List.length_singleton]; omega
          · exact g9.app (Nat.zero_le _) (by simp only; omega)
          rintro ⟨f, a, l⟩ ⟨p1, p2, p3, p4, p5⟩
          simp only at p1 p2 p3 p4 p5 ⊢
          refine ⟨fun h => ?_, fun h => ?_⟩
          · cases f with
            | zero => exact absurd (of_decide_eq_true h) (by decide)
            | succ f =>
              have e4 : (4 : Int) - ((f + 1 : Nat) : Int) + 1 = 4 - (f : Int) := by omega
              refine ⟨pickO ⟨h0.to (by omega) (by omega), by decide, by decide⟩, trivial, pickO ⟨h0.to (by omega) (by omega), by decide, by decide⟩, trivial, srcO (h0.to (by omega) (by omega)), trivial, by omega, sizedL_agg rfl rfl, inK64 (by omega), (f, a + 3, l ++ [⟨1, pickF xs a [1, 1, 0], pickF xs (a + 1) [2, 2, 1], 4 - ((f + 1 : Nat) : Int), nextF xs (a + 2) 3, [], []⟩]), ?_, ⟨by simp only; omega, ?_, by simp only; omega, by simp only; omega, ?_, p5.2.app (Nat.zero_le _) (Nat.zero_le _)⟩, by simp only; omega⟩
              · simp only [List.length_append, List.length_singleton]
                exact sle_of ⟨rfl, VLe.refl _, rfl, VLe.refl _, rfl, vle_int e4, trivial⟩ ⟨rfl, ble_pushE (ele_bare _ _ _ _ _), rfl, BLe.refl _, trivial⟩
              · simp only
                rw [← p2, wPrD, e4]
              · simp only [List.length_append, List.length_singleton]; omega
          · have hf : f = 0 := by have := of_decide_eq_false h; omega
            subst hf
            have ew : world10 xs at_ = (l, a) := p2.symm
            have st : ∀ (m : List Msg) (b : Int), world10 xs at_ = (m, b) → ro58 xs at_ = m ∧ b = ra58 xs at_ := fun m b e => by
              unfold ro58 ra58
              rw [e]
              exact ⟨rfl, rfl⟩
            obtain ⟨q1, q2⟩ := st _ _ ew
            rw [q1]
            exact ⟨VLe.refl _, ble_src q2, BLe.refl _, trivial⟩
  exact Eq.mp (by kernel_rfl) key
noncomputable def sp58 : FSpec := fun args bin => match args, bin with
  | [.oref i0 j0 o0], [.box [v0, .int .i64 p0]] => some ((i0 = 0 ∧ j0 = 0 ∧ o0 = 0) ∧ VLe v0 (encL encY 1 (decL decY v0)) ∧ pr58 (decL decY v0) p0, rs58 (decL decY v0) p0, [.box [encL encY 1 (decL decY v0), .int .i64 (ra58 (decL decY v0) p0)]] ++ rb58 (decL decY v0) p0)
  | _, _ => none
theorem so58 : Sound Tryz.prog 58 sp58 := by
  refine sound_of_bodyO hmix (tpl := [(0, 7)]) Tryz.func58 rfl (by kernel_rfl) fun args bin ob r bout hDe hob => ?_
  unfold sp58 at hDe
  split at hDe
  · rename_i i0 j0 o0 v0 p0
    cases hDe
    obtain ⟨⟨rfl, rfl, rfl⟩, h0, hpre⟩ := hob
    have hb := bd58 (decL decY v0) p0 hpre
    exact ⟨Nat.le_of_ble_eq_true (by kernel_rfl), cx58 (decL decY v0) p0, Eq.mp (by kernel_rfl) htt, Eq.mp (by kernel_rfl) da58, Eq.mp (by kernel_rfl) (noM_sound (P := Tryz.prog)), by kernel_rfl, [.oref 0 0 0], [(.box [encL encY 1 (decL decY v0), .int .i64 p0])], args_of_vles (l' := [.oref 0 0 0]) ⟨VLe.refl _, trivial⟩, ⟨ble_box ⟨h0, VLe.refl _, trivial⟩, trivial⟩, Eq.mp (by kernel_rfl) hb⟩
  · cases hDe

end Go.Av
