/- Two messages are the same. -/
import Derived.Test.YtakcaanpnmkccaaGreatE1
namespace Go.Av
open Go.Proofs
set_option maxRecDepth 100000
set_option linter.unusedVariables false
set_option linter.unusedSimpArgs false


/-! ### slices.Equal(()loop.example/g00369/impl.Cert,loop.example/g00369/impl.Cert) -/
def pr100 (xs : List Cert) (ys : List Cert) : Prop := xs.length ≤ maxLen
noncomputable def rs100 (xs : List Cert) (ys : List Cert) : V := .bool (decide (xs = ys))
noncomputable def sp100 : FSpec := fun args bin => match args, bin with
  | [a0, a1], [] => some (VLe a0 (encL (encCert 1) 1 (((decL decCert) a0))) ∧ VLe a1 (encL (encCert 1) 1 (((decL decCert) a1))) ∧ pr100 ((decL decCert) a0) ((decL decCert) a1), rs100 ((decL decCert) a0) ((decL decCert) a1), [])
  | _, _ => none
noncomputable def in100_4 (xs : List Cert) (ys : List Cert) : LoopInv :=
  ⟨Nat, fun i => ⟨[(0, encL (encCert 1) 1 xs), (1, encL (encCert 1) 1 ys), (12, .int .i64 xs.length), (13, .int .i64 i)], []⟩,
    fun i => i ≤ xs.length ∧ xs.length = ys.length ∧ ∀ j, j < i → xs.getD j default = ys.getD j default, fun i => xs.length - i⟩
noncomputable def iv100 (xs : List Cert) (ys : List Cert) : Nat → Option LoopInv := fun rg_ => match rg_ with
  | 4 => some (in100_4 xs ys)
  | _ => none
noncomputable def D100 : Nat → Option (Bool × FSpec) := lk []
theorem da100 : SoundAll Tryz.prog D100 := soundAll_nil
noncomputable def cx100 (xs : List Cert) (ys : List Cert) : Cx := ⟨tt, D100, Tryz.f100.ntmps, [0, 1, 4, 5, 10, 12, 13, 14, 24], [(4, ⟨[(0, none), (1, none), (12, none), (13, none)], []⟩)], [], iv100 xs ys, [], noM, []⟩
theorem bd100 (xs : List Cert) (ys : List Cert) (hpre : pr100 xs ys) : bodyP (cx100 xs ys) Tryz.f100 0 [encL (encCert 1) 1 (xs), encL (encCert 1) 1 (ys)] (fun rr => VLe rr (rs100 xs ys)) := by
  have key : (((((↑(List.length xs) : Int) != (↑(List.length ys) : Int)) = true) → (VLe (V.bool false) (V.bool (decide (xs = ys))))) ∧ ((((↑(List.length xs) : Int) != (↑(List.length ys) : Int)) = false) → ((∃ x : Nat, ((SLe (AS.mk [(0, encL (encCert 1) 1 xs), (1, encL (encCert 1) 1 ys), (12, vi (↑(List.length xs) : Int)), (13, vi (0 : Int))] []) (AS.mk [(0, encL (encCert 1) 1 xs), (1, encL (encCert 1) 1 ys), (12, vi (↑(List.length xs) : Int)), (13, vi (↑x : Int))] [])) ∧ ((x ≤ List.length xs) ∧ ((List.length xs = List.length ys) ∧ (∀ j : Nat, ((j < x) → (List.getD xs j default = List.getD ys j default))))))) ∧ (∀ x : Nat, (((x ≤ List.length xs) ∧ ((List.length xs = List.length ys) ∧ (∀ j : Nat, ((j < x) → (List.getD xs j default = List.getD ys j default))))) → (((decide ((↑x : Int) < (↑(List.length xs) : Int)) = true) → ((((0 : Int) ≤ (↑x : Int)) ∧ ((↑x : Int) < (↑(List.length xs) : Int))) ∧ ((((0 : Int) ≤ (↑x : Int)) ∧ ((↑x : Int) < (↑(List.length ys) : Int))) ∧ ((((!(Cert.slot (List.getD xs (Int.toNat (↑x : Int)) default) == Cert.slot (List.getD ys (Int.toNat (↑x : Int)) default) && (Cert.view (List.getD xs (Int.toNat (↑x : Int)) default) == Cert.view (List.getD ys (Int.toNat (↑x : Int)) default) && Cert.value (List.getD xs (Int.toNat (↑x : Int)) default) == Cert.value (List.getD ys (Int.toNat (↑x : Int)) default)))) = true) → (VLe (V.bool false) (V.bool (decide (xs = ys))))) ∧ (((!(Cert.slot (List.getD xs (Int.toNat (↑x : Int)) default) == Cert.slot (List.getD ys (Int.toNat (↑x : Int)) default) && (Cert.view (List.getD xs (Int.toNat (↑x : Int)) default) == Cert.view (List.getD ys (Int.toNat (↑x : Int)) default) && Cert.value (List.getD xs (Int.toNat (↑x : Int)) default) == Cert.value (List.getD ys (Int.toNat (↑x : Int)) default)))) = false) → ((inK IntKind.i64 ((↑x : Int) + (1 : Int))) ∧ (∃ y : Nat, ((SLe (AS.mk [(0, encL (encCert 1) 1 xs), (1, encL (encCert 1) 1 ys), (12, vi (↑(List.length xs) : Int)), (13, vi ((↑x : Int) + (1 : Int)))] []) (AS.mk [(0, encL (encCert 1) 1 xs), (1, encL (encCert 1) 1 ys), (12, vi (↑(List.length xs) : Int)), (13, vi (↑y : Int))] [])) ∧ (((y ≤ List.length xs) ∧ ((List.length xs = List.length ys) ∧ (∀ j : Nat, ((j < y) → (List.getD xs j default = List.getD ys j default))))) ∧ (List.length xs - y < List.length xs - x)))))))))) ∧ ((decide ((↑x : Int) < (↑(List.length xs) : Int)) = false) → (VLe (V.bool true) (V.bool (decide (xs = ys))))))))))) := by
    delta vi
    unfold pr100 maxLen at hpre
    refine ⟨fun h => ?_, fun h => ?_⟩
    · refine vle_bool ?_
      have hne : xs ≠ ys := fun e => by subst e; simp at h
      simp [hne]
    · have hlen : xs.length = ys.length := by simp at h; omega
      refine ⟨⟨0, SLe.refl _, by omega, hlen, fun j hj => absurd hj (Nat.not_lt_zero j)⟩, ?_⟩
      rintro i ⟨hi, _, hj⟩
      refine ⟨fun h => ?_, fun h => ?_⟩
      · have hlt : i < xs.length := by simpa using h
        simp only [Int.toNat_natCast]
        refine ⟨⟨by omega, by omega⟩, ⟨by omega, by omega⟩, fun h2 => ?_, fun h2 => ⟨inK64 (by omega), i + 1, SLe.refl _, ⟨by omega, hlen, fun j h3 => ?_⟩, by omega⟩⟩
        · refine vle_bool ?_
          have hne : xs ≠ ys := fun e => by subst e; simp at h2
          simp [hne]
        · rcases Nat.lt_or_ge j i with h4 | h4
          · exact hj j h4
          · have : j = i := by omega
            subst this
            rw [eq_Cert]; simpa [and_assoc] using h2
      · refine vle_bool ?_
        have hge : i = xs.length := by simp at h; omega
        have heq : xs = ys := by
          refine List.ext_getElem hlen fun k h1 h2 => ?_
          have := hj k (by omega)
          simpa [h1, h2] using this
        simp [heq]
  exact Eq.mp (by kernel_rfl) key
theorem so100 : Sound Tryz.prog 100 sp100 := by
  refine sound_of_body hmix (pol := 0) Tryz.func100 rfl (by kernel_rfl) fun args bin ob r bout hDe hob => ?_
  unfold sp100 at hDe
  split at hDe
  · rename_i a0 a1
    cases hDe
    exact ⟨rfl, rfl, Nat.le_of_ble_eq_true (by kernel_rfl), cx100 ((decL decCert) a0) ((decL decCert) a1), Eq.mp (by kernel_rfl) htt, Eq.mp (by kernel_rfl) da100, Eq.mp (by kernel_rfl) (noM_sound (P := Tryz.prog)), by kernel_rfl, [encL (encCert 1) 1 (((decL decCert) a0)), encL (encCert 1) 1 (((decL decCert) a1))], args_of_vles (⟨hob.1, hob.2.1, trivial⟩), Eq.mp (by kernel_rfl) (bd100 ((decL decCert) a0) ((decL decCert) a1) (hob.2.2))⟩
  · cases hDe

/-! ### slices.Equal(()int64,int64) -/
def pr101 (xs : List Int) (ys : List Int) : Prop := xs.length ≤ maxLen
noncomputable def rs101 (xs : List Int) (ys : List Int) : V := .bool (decide (xs = ys))
noncomputable def sp101 : FSpec := fun args bin => match args, bin with
  | [a0, a1], [] => some (VLe a0 (encL encI 1 (((decL decI) a0))) ∧ VLe a1 (encL encI 1 (((decL decI) a1))) ∧ pr101 ((decL decI) a0) ((decL decI) a1), rs101 ((decL decI) a0) ((decL decI) a1), [])
  | _, _ => none
noncomputable def in101_4 (xs : List Int) (ys : List Int) : LoopInv :=
  ⟨Nat, fun i => ⟨[(0, encL encI 1 xs), (1, encL encI 1 ys), (12, .int .i64 xs.length), (13, .int .i64 i)], []⟩,
    fun i => i ≤ xs.length ∧ xs.length = ys.length ∧ ∀ j, j < i → xs.getD j default = ys.getD j default, fun i => xs.length - i⟩
noncomputable def iv101 (xs : List Int) (ys : List Int) : Nat → Option LoopInv := fun rg_ => match rg_ with
  | 4 => some (in101_4 xs ys)
  | _ => none
noncomputable def D101 : Nat → Option (Bool × FSpec) := lk []
theorem da101 : SoundAll Tryz.prog D101 := soundAll_nil
noncomputable def cx101 (xs : List Int) (ys : List Int) : Cx := ⟨tt, D101, Tryz.f101.ntmps, [0, 1, 4, 5, 10, 12, 13, 14, 24], [(4, ⟨[(0, none), (1, none), (12, none), (13, none)], []⟩)], [], iv101 xs ys, [], noM, []⟩
theorem bd101 (xs : List Int) (ys : List Int) (hpre : pr101 xs ys) : bodyP (cx101 xs ys) Tryz.f101 0 [encL encI 1 (xs), encL encI 1 (ys)] (fun rr => VLe rr (rs101 xs ys)) := by
  have key : (((((↑(List.length xs) : Int) != (↑(List.length ys) : Int)) = true) → (VLe (V.bool false) (V.bool (decide (xs = ys))))) ∧ ((((↑(List.length xs) : Int) != (↑(List.length ys) : Int)) = false) → ((∃ x : Nat, ((SLe (AS.mk [(0, encL encI 1 xs), (1, encL encI 1 ys), (12, vi (↑(List.length xs) : Int)), (13, vi (0 : Int))] []) (AS.mk [(0, encL encI 1 xs), (1, encL encI 1 ys), (12, vi (↑(List.length xs) : Int)), (13, vi (↑x : Int))] [])) ∧ ((x ≤ List.length xs) ∧ ((List.length xs = List.length ys) ∧ (∀ j : Nat, ((j < x) → (List.getD xs j default = List.getD ys j default))))))) ∧ (∀ x : Nat, (((x ≤ List.length xs) ∧ ((List.length xs = List.length ys) ∧ (∀ j : Nat, ((j < x) → (List.getD xs j default = List.getD ys j default))))) → (((decide ((↑x : Int) < (↑(List.length xs) : Int)) = true) → ((((0 : Int) ≤ (↑x : Int)) ∧ ((↑x : Int) < (↑(List.length xs) : Int))) ∧ ((((0 : Int) ≤ (↑x : Int)) ∧ ((↑x : Int) < (↑(List.length ys) : Int))) ∧ ((((List.getD xs (Int.toNat (↑x : Int)) default != List.getD ys (Int.toNat (↑x : Int)) default) = true) → (VLe (V.bool false) (V.bool (decide (xs = ys))))) ∧ (((List.getD xs (Int.toNat (↑x : Int)) default != List.getD ys (Int.toNat (↑x : Int)) default) = false) → ((inK IntKind.i64 ((↑x : Int) + (1 : Int))) ∧ (∃ y : Nat, ((SLe (AS.mk [(0, encL encI 1 xs), (1, encL encI 1 ys), (12, vi (↑(List.length xs) : Int)), (13, vi ((↑x : Int) + (1 : Int)))] []) (AS.mk [(0, encL encI 1 xs), (1, encL encI 1 ys), (12, vi (↑(List.length xs) : Int)), (13, vi (↑y : Int))] [])) ∧ (((y ≤ List.length xs) ∧ ((List.length xs = List.length ys) ∧ (∀ j : Nat, ((j < y) → (List.getD xs j default = List.getD ys j default))))) ∧ (List.length xs - y < List.length xs - x)))))))))) ∧ ((decide ((↑x : Int) < (↑(List.length xs) : Int)) = false) → (VLe (V.bool true) (V.bool (decide (xs = ys))))))))))) := by
    delta vi
    unfold pr101 maxLen at hpre
    refine ⟨fun h => ?_, fun h => ?_⟩
    · refine vle_bool ?_
      have hne : xs ≠ ys := fun e => by subst e; simp at h
      simp [hne]
    · have hlen : xs.length = ys.length := by simp at h; omega
      refine ⟨⟨0, SLe.refl _, by omega, hlen, fun j hj => absurd hj (Nat.not_lt_zero j)⟩, ?_⟩
      rintro i ⟨hi, _, hj⟩
      refine ⟨fun h => ?_, fun h => ?_⟩
      · have hlt : i < xs.length := by simpa using h
        simp only [Int.toNat_natCast]
        refine ⟨⟨by omega, by omega⟩, ⟨by omega, by omega⟩, fun h2 => ?_, fun h2 => ⟨inK64 (by omega), i + 1, SLe.refl _, ⟨by omega, hlen, fun j h3 => ?_⟩, by omega⟩⟩
        · refine vle_bool ?_
          have hne : xs ≠ ys := fun e => by subst e; simp at h2
          simp [hne]
        · rcases Nat.lt_or_ge j i with h4 | h4
          · exact hj j h4
          · have : j = i := by omega
            subst this
            simpa using h2
      · refine vle_bool ?_
        have hge : i = xs.length := by simp at h; omega
        have heq : xs = ys := by
          refine List.ext_getElem hlen fun k h1 h2 => ?_
          have := hj k (by omega)
          simpa [h1, h2] using this
        simp [heq]
  exact Eq.mp (by kernel_rfl) key
theorem so101 : Sound Tryz.prog 101 sp101 := by
  refine sound_of_body hmix (pol := 0) Tryz.func101 rfl (by kernel_rfl) fun args bin ob r bout hDe hob => ?_
  unfold sp101 at hDe
  split at hDe
  · rename_i a0 a1
    cases hDe
    exact ⟨rfl, rfl, Nat.le_of_ble_eq_true (by kernel_rfl), cx101 ((decL decI) a0) ((decL decI) a1), Eq.mp (by kernel_rfl) htt, Eq.mp (by kernel_rfl) da101, Eq.mp (by kernel_rfl) (noM_sound (P := Tryz.prog)), by kernel_rfl, [encL encI 1 (((decL decI) a0)), encL encI 1 (((decL decI) a1))], args_of_vles (⟨hob.1, hob.2.1, trivial⟩), Eq.mp (by kernel_rfl) (bd101 ((decL decI) a0) ((decL decI) a1) (hob.2.2))⟩
  · cases hDe

/-! ### spec.l8Same -/
def pr104 (a : Msg) (b : Msg) : Prop := a.bd
noncomputable def rs104 (a : Msg) (b : Msg) : V := .bool (decide (a = b))
noncomputable def sp104 : FSpec := fun args bin => match args, bin with
  | [a0, a1], [] => some (VLe a0 (encPMsg 1 ((decPMsg a0))) ∧ VLe a1 (encPMsg 1 ((decPMsg a1))) ∧ pr104 (decPMsg a0) (decPMsg a1), rs104 (decPMsg a0) (decPMsg a1), [])
  | _, _ => none
noncomputable def in104_4 (a : Msg) (b : Msg) : LoopInv :=
  ⟨Nat, fun i => ⟨[(0, encPMsg 1 a), (1, encPMsg 1 b), (5, .int .i64 i)], []⟩,
    fun i => i ≤ a.certs.length ∧ ∀ j, j < i → a.certs.getD j default = b.certs.getD j default, fun i => a.certs.length - i⟩
noncomputable def in104_9 (a : Msg) (b : Msg) : LoopInv :=
  ⟨Nat, fun i => ⟨[(0, encPMsg 1 a), (1, encPMsg 1 b), (6, .int .i64 i)], []⟩,
    fun i => i ≤ a.refs.length ∧ ∀ j, j < i → a.refs.getD j default = b.refs.getD j default, fun i => a.refs.length - i⟩
noncomputable def iv104 (a : Msg) (b : Msg) : Nat → Option LoopInv := fun rg_ => match rg_ with
  | 4 => some (in104_4 a b)
  | 9 => some (in104_9 a b)
  | _ => none
noncomputable def D104 : Nat → Option (Bool × FSpec) := lk []
theorem da104 : SoundAll Tryz.prog D104 := soundAll_nil
noncomputable def cx104 (a : Msg) (b : Msg) : Cx := ⟨tt, D104, Tryz.f104.ntmps, [0, 1, 4, 5, 6, 85, 92, 109, 116, 133], [(4, ⟨[(0, none), (1, none), (5, none)], []⟩), (9, ⟨[(0, none), (1, none), (6, none)], []⟩)], [], iv104 a b, [], noM, []⟩
theorem bd104 (a : Msg) (b : Msg) (hpre : pr104 a b) : bodyP (cx104 a b) Tryz.f104 0 [encPMsg 1 (a), encPMsg 1 (b)] (fun rr => VLe rr (rs104 a b)) := by
  have key : ((tq (!Msg.kind a != Msg.kind b)) ∧ ((tq (!Msg.kind a != Msg.kind b)) ∧ ((tq (!Msg.kind a != Msg.kind b)) ∧ ((tq (!Msg.kind a != Msg.kind b)) ∧ ((tq (!Msg.kind a != Msg.kind b)) ∧ ((tq (!Msg.kind a != Msg.kind b)) ∧ ((tq (!Msg.kind a != Msg.kind b)) ∧ ((tq (!Msg.kind a != Msg.kind b)) ∧ (((true = true) → (((Msg.kind a != Msg.kind b) = false) → ((!Msg.kind a != Msg.kind b) = true))) ∧ (∀ b_1 : Bool, ((b_1 = bif Msg.kind a != Msg.kind b then true else Msg.view a != Msg.view b) → ((tq (!b_1)) ∧ ((tq (!b_1)) ∧ ((tq (!b_1)) ∧ ((tq (!b_1)) ∧ ((tq (!b_1)) ∧ ((tq (!b_1)) ∧ ((tq (!b_1)) ∧ ((tq (!b_1)) ∧ (((true = true) → ((b_1 = false) → ((!b_1) = true))) ∧ (∀ b_2 : Bool, ((b_2 = bif b_1 then true else Msg.sender a != Msg.sender b) → ((tq (!b_2)) ∧ ((tq (!b_2)) ∧ ((tq (!b_2)) ∧ ((tq (!b_2)) ∧ ((tq (!b_2)) ∧ ((tq (!b_2)) ∧ ((tq (!b_2)) ∧ ((tq (!b_2)) ∧ (((true = true) → ((b_2 = false) → ((!b_2) = true))) ∧ (∀ b_3 : Bool, ((b_3 = bif b_2 then true else Msg.slot a != Msg.slot b) → ((tq (!b_3)) ∧ ((tq (!b_3)) ∧ ((tq (!b_3)) ∧ ((tq (!b_3)) ∧ ((tq (!b_3)) ∧ ((tq (!b_3)) ∧ ((tq (!b_3)) ∧ ((tq (!b_3)) ∧ (((true = true) → ((b_3 = false) → ((!b_3) = true))) ∧ (∀ b_4 : Bool, ((b_4 = bif b_3 then true else Msg.value a != Msg.value b) → ((tq (!b_4)) ∧ ((tq (!b_4)) ∧ ((tq (!b_4)) ∧ ((tq (!b_4)) ∧ ((tq (!b_4)) ∧ ((tq (!b_4)) ∧ ((tq (!b_4)) ∧ ((tq (!b_4)) ∧ ((tq (!b_4)) ∧ ((tq (!b_4)) ∧ (((true = true) → ((b_4 = false) → ((!b_4) = true))) ∧ (∀ b_5 : Bool, ((b_5 = bif b_4 then true else (↑(List.length (Msg.certs a)) : Int) != (↑(List.length (Msg.certs b)) : Int)) → ((tq (!b_5)) ∧ ((tq (!b_5)) ∧ ((tq (!b_5)) ∧ ((tq (!b_5)) ∧ ((tq (!b_5)) ∧ ((tq (!b_5)) ∧ ((tq (!b_5)) ∧ ((tq (!b_5)) ∧ ((tq (!b_5)) ∧ ((tq (!b_5)) ∧ (((true = true) → ((b_5 = false) → ((!b_5) = true))) ∧ (∀ b_6 : Bool, ((b_6 = bif b_5 then true else (↑(List.length (Msg.refs a)) : Int) != (↑(List.length (Msg.refs b)) : Int)) → (((b_6 = true) → (VLe (V.bool false) (V.bool (decide (a = b))))) ∧ ((b_6 = false) → ((∃ x : Nat, ((SLe (AS.mk [(0, encPMsg 1 a), (1, encPMsg 1 b), (5, vi (0 : Int))] []) (AS.mk [(0, encPMsg 1 a), (1, encPMsg 1 b), (5, vi (↑x : Int))] [])) ∧ ((x ≤ List.length (Msg.certs a)) ∧ (∀ j : Nat, ((j < x) → (List.getD (Msg.certs a) j default = List.getD (Msg.certs b) j default)))))) ∧ (∀ x : Nat, (((x ≤ List.length (Msg.certs a)) ∧ (∀ j : Nat, ((j < x) → (List.getD (Msg.certs a) j default = List.getD (Msg.certs b) j default)))) → (((decide ((↑x : Int) < (↑(List.length (Msg.certs a)) : Int)) = true) → ((((0 : Int) ≤ (↑x : Int)) ∧ ((↑x : Int) < (↑(List.length (Msg.certs a)) : Int))) ∧ ((((0 : Int) ≤ (↑x : Int)) ∧ ((↑x : Int) < (↑(List.length (Msg.certs b)) : Int))) ∧ ((((!(Cert.slot (List.getD (Msg.certs a) (Int.toNat (↑x : Int)) default) == Cert.slot (List.getD (Msg.certs b) (Int.toNat (↑x : Int)) default) && (Cert.view (List.getD (Msg.certs a) (Int.toNat (↑x : Int)) default) == Cert.view (List.getD (Msg.certs b) (Int.toNat (↑x : Int)) default) && Cert.value (List.getD (Msg.certs a) (Int.toNat (↑x : Int)) default) == Cert.value (List.getD (Msg.certs b) (Int.toNat (↑x : Int)) default)))) = true) → (VLe (V.bool false) (V.bool (decide (a = b))))) ∧ (((!(Cert.slot (List.getD (Msg.certs a) (Int.toNat (↑x : Int)) default) == Cert.slot (List.getD (Msg.certs b) (Int.toNat (↑x : Int)) default) && (Cert.view (List.getD (Msg.certs a) (Int.toNat (↑x : Int)) default) == Cert.view (List.getD (Msg.certs b) (Int.toNat (↑x : Int)) default) && Cert.value (List.getD (Msg.certs a) (Int.toNat (↑x : Int)) default) == Cert.value (List.getD (Msg.certs b) (Int.toNat (↑x : Int)) default)))) = false) → ((inK IntKind.i64 ((↑x : Int) + (1 : Int))) ∧ (∃ y : Nat, ((SLe (AS.mk [(0, encPMsg 1 a), (1, encPMsg 1 b), (5, vi ((↑x : Int) + (1 : Int)))] []) (AS.mk [(0, encPMsg 1 a), (1, encPMsg 1 b), (5, vi (↑y : Int))] [])) ∧ (((y ≤ List.length (Msg.certs a)) ∧ (∀ j : Nat, ((j < y) → (List.getD (Msg.certs a) j default = List.getD (Msg.certs b) j default)))) ∧ (List.length (Msg.certs a) - y < List.length (Msg.certs a) - x)))))))))) ∧ ((decide ((↑x : Int) < (↑(List.length (Msg.certs a)) : Int)) = false) → ((∃ x_1 : Nat, ((SLe (AS.mk [(0, encPMsg 1 a), (1, encPMsg 1 b), (6, vi (0 : Int))] []) (AS.mk [(0, encPMsg 1 a), (1, encPMsg 1 b), (6, vi (↑x_1 : Int))] [])) ∧ ((x_1 ≤ List.length (Msg.refs a)) ∧ (∀ j : Nat, ((j < x_1) → (List.getD (Msg.refs a) j default = List.getD (Msg.refs b) j default)))))) ∧ (∀ x_1 : Nat, (((x_1 ≤ List.length (Msg.refs a)) ∧ (∀ j : Nat, ((j < x_1) → (List.getD (Msg.refs a) j default = List.getD (Msg.refs b) j default)))) → (((decide ((↑x_1 : Int) < (↑(List.length (Msg.refs a)) : Int)) = true) → ((((0 : Int) ≤ (↑x_1 : Int)) ∧ ((↑x_1 : Int) < (↑(List.length (Msg.refs a)) : Int))) ∧ ((((0 : Int) ≤ (↑x_1 : Int)) ∧ ((↑x_1 : Int) < (↑(List.length (Msg.refs b)) : Int))) ∧ ((((List.getD (Msg.refs a) (Int.toNat (↑x_1 : Int)) default != List.getD (Msg.refs b) (Int.toNat (↑x_1 : Int)) default) = true) → (VLe (V.bool false) (V.bool (decide (a = b))))) ∧ (((List.getD (Msg.refs a) (Int.toNat (↑x_1 : Int)) default != List.getD (Msg.refs b) (Int.toNat (↑x_1 : Int)) default) = false) → ((inK IntKind.i64 ((↑x_1 : Int) + (1 : Int))) ∧ (∃ y : Nat, ((SLe (AS.mk [(0, encPMsg 1 a), (1, encPMsg 1 b), (6, vi ((↑x_1 : Int) + (1 : Int)))] []) (AS.mk [(0, encPMsg 1 a), (1, encPMsg 1 b), (6, vi (↑y : Int))] [])) ∧ (((y ≤ List.length (Msg.refs a)) ∧ (∀ j : Nat, ((j < y) → (List.getD (Msg.refs a) j default = List.getD (Msg.refs b) j default)))) ∧ (List.length (Msg.refs a) - y < List.length (Msg.refs a) - x_1)))))))))) ∧ ((decide ((↑x_1 : Int) < (↑(List.length (Msg.refs a)) : Int)) = false) → (VLe (V.bool true) (V.bool (decide (a = b)))))))))))))))))))))))))))))))))))))))))))))))))))))))))))))))))))))))))))))))))))))) := by
    delta vi
    unfold pr104 Msg.bd maxLen at hpre
    repeat (first | (refine And.intro ?aa ?_; case aa => (simp; done)) | (intro q hq))
    subst_vars
    refine ⟨fun h => ?_, fun h => ?_⟩
    · refine vle_bool ?_
      have hne : a ≠ b := fun e => by subst e; simp at h
      simp [hne]
    · have hs : a.kind = b.kind ∧ a.view = b.view ∧ a.sender = b.sender ∧ a.slot = b.slot ∧ a.value = b.value ∧ a.certs.length = b.certs.length ∧ a.refs.length = b.refs.length := by
        simp at h; omega
      clear h
      obtain ⟨e1, e2, e3, e4, e5, lc, lr⟩ := hs
      simp only [Int.toNat_natCast]
      refine ⟨⟨0, SLe.refl _, by omega, fun j hj => absurd hj (Nat.not_lt_zero j)⟩, ?_⟩
      rintro i ⟨hi, hj⟩
      refine ⟨fun h => ?_, fun h => ?_⟩
      · have hlt : i < a.certs.length := by simpa using h
        refine ⟨⟨by omega, by omega⟩, ⟨by omega, by omega⟩, fun h2 => ?_, fun h2 => ⟨inK64 (by omega), i + 1, SLe.refl _, ⟨by omega, fun j h3 => ?_⟩, by omega⟩⟩
        · refine vle_bool ?_
          have hne : a ≠ b := fun e => by subst e; simp at h2
          simp [hne]
        · rcases Nat.lt_or_ge j i with h4 | h4
          · exact hj j h4
          · have : j = i := by omega
            subst this
            rw [eq_Cert]; simpa [and_assoc] using h2
      · have hge : i = a.certs.length := by simp at h; omega
        have hc : a.certs = b.certs := by
          refine List.ext_getElem lc fun k h1 h2 => ?_
          have := hj k (by omega)
          simpa [h1, h2] using this
        refine ⟨⟨0, SLe.refl _, by omega, fun j hj => absurd hj (Nat.not_lt_zero j)⟩, ?_⟩
        rintro i ⟨hi, hj⟩
        refine ⟨fun h => ?_, fun h => ?_⟩
        · have hlt : i < a.refs.length := by simpa using h
          refine ⟨⟨by omega, by omega⟩, ⟨by omega, by omega⟩, fun h2 => ?_, fun h2 => ⟨inK64 (by omega), i + 1, SLe.refl _, ⟨by omega, fun j h3 => ?_⟩, by omega⟩⟩
          · refine vle_bool ?_
            have hne : a ≠ b := fun e => by subst e; simp at h2
            simp [hne]
          · rcases Nat.lt_or_ge j i with h4 | h4
            · exact hj j h4
            · have : j = i := by omega
              subst this
              simpa using h2
        · refine vle_bool ?_
          have hge : i = a.refs.length := by simp at h; omega
          have hr : a.refs = b.refs := by
            refine List.ext_getElem lr fun k h1 h2 => ?_
            have := hj k (by omega)
            simpa [h1, h2] using this
          simp [eq_Msg, e1, e2, e3, e4, e5, hc, hr]
  exact Eq.mp (by kernel_rfl) key
theorem so104 : Sound Tryz.prog 104 sp104 := by
  refine sound_of_body hmix (pol := 0) Tryz.func104 rfl (by kernel_rfl) fun args bin ob r bout hDe hob => ?_
  unfold sp104 at hDe
  split at hDe
  · rename_i a0 a1
    cases hDe
    exact ⟨rfl, rfl, Nat.le_of_ble_eq_true (by kernel_rfl), cx104 (decPMsg a0) (decPMsg a1), Eq.mp (by kernel_rfl) htt, Eq.mp (by kernel_rfl) da104, Eq.mp (by kernel_rfl) (noM_sound (P := Tryz.prog)), by kernel_rfl, [encPMsg 1 ((decPMsg a0)), encPMsg 1 ((decPMsg a1))], args_of_vles (⟨hob.1, hob.2.1, trivial⟩), Eq.mp (by kernel_rfl) (bd104 (decPMsg a0) (decPMsg a1) (hob.2.2))⟩
  · cases hDe

/-! ### impl.SameMsgs -/
def pr87 (a : Msg) (b : Msg) : Prop := a.bd
noncomputable def rs87 (a : Msg) (b : Msg) : V := .bool (decide (a = b))
noncomputable def sp87 : FSpec := fun args bin => match args, bin with
  | [a0, a1], [] => some (VLe a0 (encMsg 1 ((decMsg a0))) ∧ VLe a1 (encMsg 1 ((decMsg a1))) ∧ pr87 (decMsg a0) (decMsg a1), rs87 (decMsg a0) (decMsg a1), [])
  | _, _ => none
noncomputable def D87 : Nat → Option (Bool × FSpec) := lk [(100, (false, sp100)), (101, (false, sp101))]
theorem da87 : SoundAll Tryz.prog D87 := soundAll_cons so100 (soundAll_cons so101 (soundAll_nil))
noncomputable def cx87 (a : Msg) (b : Msg) : Cx := ⟨tt, D87, Tryz.f87.ntmps, [0, 1, 2, 3, 4], [], [], fun _ => none, [], noM, []⟩
theorem bd87 (a : Msg) (b : Msg) (hpre : pr87 a b) : bodyP (cx87 a b) Tryz.f87 0 [encMsg 1 (a), encMsg 1 (b)] (fun rr => VLe rr (rs87 a b)) := by
  have key : ((tq (Msg.kind a == Msg.kind b)) ∧ ((tq (Msg.kind a == Msg.kind b)) ∧ ((tq (Msg.kind a == Msg.kind b)) ∧ ((tq (Msg.kind a == Msg.kind b)) ∧ (((true = true) → (((Msg.kind a == Msg.kind b) = true) → ((Msg.kind a == Msg.kind b) = true))) ∧ (∀ b_1 : Bool, ((b_1 = bif Msg.kind a == Msg.kind b then Msg.view a == Msg.view b else false) → ((tq (b_1)) ∧ ((tq (b_1)) ∧ ((tq (b_1)) ∧ ((tq (b_1)) ∧ (((true = true) → ((b_1 = true) → (b_1 = true))) ∧ (∀ b_2 : Bool, ((b_2 = bif b_1 then Msg.sender a == Msg.sender b else false) → ((tq (b_2)) ∧ ((tq (b_2)) ∧ ((tq (b_2)) ∧ ((tq (b_2)) ∧ (((true = true) → ((b_2 = true) → (b_2 = true))) ∧ (∀ b_3 : Bool, ((b_3 = bif b_2 then Msg.slot a == Msg.slot b else false) → ((tq (b_3)) ∧ ((tq (b_3)) ∧ ((tq (b_3)) ∧ ((tq (b_3)) ∧ (((true = true) → ((b_3 = true) → (b_3 = true))) ∧ (∀ b_4 : Bool, ((b_4 = bif b_3 then Msg.value a == Msg.value b else false) → ((tq (b_4)) ∧ ((tq (b_4)) ∧ ((tq (b_4)) ∧ ((tq (b_4)) ∧ (((b_4 = true) → ((VLe (encL (encCert 1) 1 (Msg.certs a)) (encL (encCert 1) 1 (decL decCert (encL (encCert 1) 1 (Msg.certs a))))) ∧ ((VLe (encL (encCert 1) 1 (Msg.certs b)) (encL (encCert 1) 1 (decL decCert (encL (encCert 1) 1 (Msg.certs b))))) ∧ (pr100 (decL decCert (encL (encCert 1) 1 (Msg.certs a))) (decL decCert (encL (encCert 1) 1 (Msg.certs b))))))) ∧ (((true = true) → ((b_4 = true) → (b_4 = true))) ∧ (∀ b_5 : Bool, ((b_5 = bif b_4 then decide (decL decCert (encL (encCert 1) 1 (Msg.certs a)) = decL decCert (encL (encCert 1) 1 (Msg.certs b))) else false) → ((tq (b_5)) ∧ ((tq (b_5)) ∧ ((tq (b_5)) ∧ ((tq (b_5)) ∧ (((b_5 = true) → ((VLe (encL encI 1 (Msg.refs a)) (encL encI 1 (decL decI (encL encI 1 (Msg.refs a))))) ∧ ((VLe (encL encI 1 (Msg.refs b)) (encL encI 1 (decL decI (encL encI 1 (Msg.refs b))))) ∧ (pr101 (decL decI (encL encI 1 (Msg.refs a))) (decL decI (encL encI 1 (Msg.refs b))))))) ∧ (((true = true) → ((b_5 = true) → (b_5 = true))) ∧ (∀ b_6 : Bool, ((b_6 = bif b_5 then decide (decL decI (encL encI 1 (Msg.refs a)) = decL decI (encL encI 1 (Msg.refs b))) else false) → (VLe (V.bool b_6) (V.bool (decide (a = b)))))))))))))))))))))))))))))))))))))))))))))))) := by
    unfold pr87 Msg.bd at hpre
    simp only [decL_Cert, decL_ints]
    repeat (first | (refine And.intro ?aa ?_; case aa => (simp; done)) | refine ⟨fun _ => ⟨VLe.refl _, VLe.refl _, by simp [pr100, pr101, hpre]⟩, ?_⟩ | (intro q hq))
    subst_vars
    refine vle_bool ?_
    rw [Bool.eq_iff_iff]
    simp [eq_Msg, and_assoc]
  exact Eq.mp (by kernel_rfl) key
theorem so87 : Sound Tryz.prog 87 sp87 := by
  refine sound_of_body hmix (pol := 0) Tryz.func87 rfl (by kernel_rfl) fun args bin ob r bout hDe hob => ?_
  unfold sp87 at hDe
  split at hDe
  · rename_i a0 a1
    cases hDe
    exact ⟨rfl, rfl, Nat.le_of_ble_eq_true (by kernel_rfl), cx87 (decMsg a0) (decMsg a1), Eq.mp (by kernel_rfl) htt, Eq.mp (by kernel_rfl) da87, Eq.mp (by kernel_rfl) (noM_sound (P := Tryz.prog)), by kernel_rfl, [encMsg 1 ((decMsg a0)), encMsg 1 ((decMsg a1))], args_of_vles (⟨hob.1, hob.2.1, trivial⟩), Eq.mp (by kernel_rfl) (bd87 (decMsg a0) (decMsg a1) (hob.2.2))⟩
  · cases hDe

theorem szLen_eq {n : Nat} {left : Int} (h : ¬ szLen n left < 0) : szLen n left = left - n := by
  unfold szLen at h ⊢; split at h <;> split <;> omega
theorem szMsgF_eq {m : Msg} {left : Int} (h : ¬ szMsgF m left < 0) : m.certs.length + m.refs.length + szMsgF m left = left ∧ 0 ≤ szMsgF m left := by
  unfold szMsgF at h ⊢
  split at h
  · omega
  · rename_i h1
    rw [if_neg h1]
    split at h
    · omega
    · rename_i h2
      rw [if_neg h2]
      have e1 := szLen_eq h1
      have e2 := szLen_eq h2
      omega
theorem szMsgF_le {m : Msg} {left : Int} (h : -1 ≤ left) : szMsgF m left ≤ left := by
  unfold szMsgF
  split
  · exact h
  · rename_i h1
    have := szLen_eq h1
    split
    · exact h
    · rename_i h2
      have := szLen_eq h2
      omega
theorem szMsgF_bd {m : Msg} {left : Int} (h : 0 ≤ szMsgF m left) : m.certs.length ≤ left ∧ m.refs.length ≤ left := by
  have := szMsgF_eq (m := m) (left := left) (by omega)
  omega

end Go.Av
