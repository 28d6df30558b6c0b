/- Does a replica stand among those of some places? -/
import Derived.Test.YtakcaanpnmkccaaGreatE1
import Derived.Test.YtakcaanpnmkccaaGreatP10
namespace Go.Av
open Go.Proofs
set_option maxRecDepth 100000
set_option linter.unusedVariables false
set_option linter.unusedSimpArgs false


/-! ### spec.l10From -/
def pr68 (l : List Msg) (ps : List Int) (who : Int) : Prop := ps.length ≤ maxLen ∧ ∀ p ∈ ps, inL l p
noncomputable def rs68 (l : List Msg) (ps : List Int) (who : Int) : V := .bool (decide (standsIn l ps who))
noncomputable def sp68 : FSpec := fun args bin => match args, bin with
  | [a0, a1, .int .i64 a2], [] => some (VLe a0 (encL (encMsg 1) 1 (((decL decMsg) a0))) ∧ VLe a1 (encL encI 1 (((decL decI) a1))) ∧ pr68 ((decL decMsg) a0) ((decL decI) a1) a2, rs68 ((decL decMsg) a0) ((decL decI) a1) a2, [])
  | _, _ => none
noncomputable def in68_2 (l : List Msg) (ps : List Int) (who : Int) : LoopInv :=
  ⟨Nat, fun i => ⟨[(0, encL (encMsg 1) 1 l), (1, encL encI 1 ps), (2, .int .i64 who), (7, .int .i64 i)], []⟩,
    fun i => i ≤ ps.length ∧ ∀ j, j < i → (atM l (ps.getD j default)).sender ≠ who, fun i => ps.length - i⟩
noncomputable def iv68 (l : List Msg) (ps : List Int) (who : Int) : Nat → Option LoopInv := fun rg_ => match rg_ with
  | 2 => some (in68_2 l ps who)
  | _ => none
noncomputable def D68 : Nat → Option (Bool × FSpec) := lk []
theorem da68 : SoundAll Tryz.prog D68 := soundAll_nil
noncomputable def cx68 (l : List Msg) (ps : List Int) (who : Int) : Cx := ⟨tt, D68, Tryz.f68.ntmps, [0, 1, 2, 6, 7, 11, 23], [(2, ⟨[(0, none), (1, none), (2, none), (7, none)], []⟩)], [], iv68 l ps who, [], noM, []⟩
theorem bd68 (l : List Msg) (ps : List Int) (who : Int) (hpre : pr68 l ps who) : bodyP (cx68 l ps who) Tryz.f68 0 [encL (encMsg 1) 1 (l), encL encI 1 (ps), .int .i64 (who)] (fun rr => VLe rr (rs68 l ps who)) := by
  have key : ((∃ x : Nat, ((SLe (AS.mk [(0, encL (encMsg 1) 1 l), (1, encL encI 1 ps), (2, vi who), (7, vi (0 : Int))] []) (AS.mk [(0, encL (encMsg 1) 1 l), (1, encL encI 1 ps), (2, vi who), (7, vi (↑x : Int))] [])) ∧ ((x ≤ List.length ps) ∧ (∀ j : Nat, ((j < x) → (Msg.sender (atM l (List.getD ps j default)) ≠ who)))))) ∧ (∀ x : Nat, (((x ≤ List.length ps) ∧ (∀ j : Nat, ((j < x) → (Msg.sender (atM l (List.getD ps j default)) ≠ who)))) → (((decide ((↑x : Int) < (↑(List.length ps) : Int)) = true) → ((((0 : Int) ≤ (↑x : Int)) ∧ ((↑x : Int) < (↑(List.length ps) : Int))) ∧ ((((0 : Int) ≤ List.getD ps (Int.toNat (↑x : Int)) default) ∧ (List.getD ps (Int.toNat (↑x : Int)) default < (↑(List.length l) : Int))) ∧ ((((Msg.sender (List.getD l (Int.toNat (List.getD ps (Int.toNat (↑x : Int)) default)) default) == who) = true) → (VLe (V.bool true) (V.bool (decide (standsIn l ps who))))) ∧ (((Msg.sender (List.getD l (Int.toNat (List.getD ps (Int.toNat (↑x : Int)) default)) default) == who) = false) → ((inK IntKind.i64 ((↑x : Int) + (1 : Int))) ∧ (∃ y : Nat, ((SLe (AS.mk [(0, encL (encMsg 1) 1 l), (1, encL encI 1 ps), (2, vi who), (7, vi ((↑x : Int) + (1 : Int)))] []) (AS.mk [(0, encL (encMsg 1) 1 l), (1, encL encI 1 ps), (2, vi who), (7, vi (↑y : Int))] [])) ∧ (((y ≤ List.length ps) ∧ (∀ j : Nat, ((j < y) → (Msg.sender (atM l (List.getD ps j default)) ≠ who)))) ∧ (List.length ps - y < List.length ps - x)))))))))) ∧ ((decide ((↑x : Int) < (↑(List.length ps) : Int)) = false) → (VLe (V.bool false) (V.bool (decide (standsIn l ps who))))))))) := by
    delta vi
    obtain ⟨hlen, hp⟩ := hpre
    unfold maxLen at hlen
    refine ⟨⟨0, SLe.refl _, by omega, fun j hj => absurd hj (Nat.not_lt_zero j)⟩, ?_⟩
    rintro i ⟨hi, hj⟩
    refine ⟨fun h => ?_, fun h => ?_⟩
    · have hlt : i < ps.length := by simpa using h
      have hin : ps.getD i default ∈ ps := by simp [hlt]
      have h1 := hp _ hin
      unfold inL inR at h1
      simp only [Int.toNat_natCast]
      refine ⟨⟨by omega, by omega⟩, by omega, fun h2 => ?_, fun h2 => ⟨inK64 (by omega), i + 1, SLe.refl _, ⟨by omega, fun j h3 => ?_⟩, by omega⟩⟩
      · have : standsIn l ps who := ⟨_, hin, by simpa [atM] using h2⟩
        exact vle_bool (by simp [this])
      · rcases Nat.lt_or_ge j i with h4 | h4
        · exact hj j h4
        · have : j = i := by omega
          subst this
          simpa [atM] using h2
    · have hge : i = ps.length := by simp at h; omega
      have : ¬ standsIn l ps who := by
        rintro ⟨p, hp, he⟩
        obtain ⟨j, hj', rfl⟩ := List.getElem_of_mem hp
        have := hj j (by omega)
        apply this
        simpa [hj'] using he
      exact vle_bool (by simp [this])
  exact Eq.mp (by kernel_rfl) key
theorem so68 : Sound Tryz.prog 68 sp68 := by
  refine sound_of_body hmix (pol := 0) Tryz.func68 rfl (by kernel_rfl) fun args bin ob r bout hDe hob => ?_
  unfold sp68 at hDe
  split at hDe
  · rename_i a0 a1 a2
    cases hDe
    exact ⟨rfl, rfl, Nat.le_of_ble_eq_true (by kernel_rfl), cx68 ((decL decMsg) a0) ((decL decI) a1) a2, Eq.mp (by kernel_rfl) htt, Eq.mp (by kernel_rfl) da68, Eq.mp (by kernel_rfl) (noM_sound (P := Tryz.prog)), by kernel_rfl, [encL (encMsg 1) 1 (((decL decMsg) a0)), encL encI 1 (((decL decI) a1)), .int .i64 (a2)], args_of_vles (⟨hob.1, hob.2.1, VLe.refl _, trivial⟩), Eq.mp (by kernel_rfl) (bd68 ((decL decMsg) a0) ((decL decI) a1) a2 (hob.2.2))⟩
  · cases hDe

end Go.Av
