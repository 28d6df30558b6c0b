/- Votes and certificates: program and reference. -/
import Derived.Test.YtakcaanpnmkccaaGreatE5
import Derived.Test.YtakcaanpnmkccaaGreatD1
namespace Go.Av
open Go.Proofs
set_option maxRecDepth 100000
set_option linter.unusedVariables false
set_option linter.unusedSimpArgs false

/-- A message without lists. -/
def bareMsg (kind : Int) (c : Cert) (id : Int) : Msg := ⟨kind, c.view, id, c.slot, c.value, [], []⟩
noncomputable def votesTo (l : List Msg) (kind : Int) (c : Cert) (n : Nat) : List Int := ((List.range n).map fun k : Nat => (k : Int) + 1).filter fun id => decide (bareMsg kind c id ∈ l)
noncomputable def votesF (f : Int) (l : List Msg) (kind : Int) (c : Cert) : List Int := votesTo l kind c (3 * f + 1).toNat
theorem votesTo_len (l : List Msg) (kind : Int) (c : Cert) (n : Nat) : (votesTo l kind c n).length ≤ n := by
  unfold votesTo
  refine Nat.le_trans (List.length_filter_le _ _) (by simp)
theorem votesTo_succ (l : List Msg) (kind : Int) (c : Cert) (n : Nat) : votesTo l kind c (n + 1) = votesTo l kind c n ++ if bareMsg kind c (n + 1) ∈ l then [((n : Int) + 1)] else [] := by
  unfold votesTo
  rw [List.range_succ, List.map_append, List.filter_append]
  congr 1
  by_cases h : bareMsg kind c ((n : Int) + 1) ∈ l <;> simp [h]
/-- Who sent such a message, as the program lists them. -/
noncomputable def senders (l : List Msg) (kind view slot value : Int) : List Int := (l.filter fun m => decide (m.kind = kind ∧ m.view = view ∧ m.slot = slot ∧ m.value = value)).map (·.sender)
noncomputable def votersF (l : List Msg) (kind view slot value : Int) : List Int := Lib.compact (sortI (senders l kind view slot value))


/-! ### spec.l9Need -/
def pr56 (f : Int) : Prop := okF f
noncomputable def rs56 (f : Int) : V := .int .i64 (2 * f + 1)
noncomputable def sp56 : FSpec := fun args bin => match args, bin with
  | [.int .i64 a0], [] => some (pr56 a0, rs56 a0, [])
  | _, _ => none
noncomputable def D56 : Nat → Option (Bool × FSpec) := lk []
theorem da56 : SoundAll Tryz.prog D56 := soundAll_nil
noncomputable def cx56 (f : Int) : Cx := ⟨tt, D56, Tryz.f56.ntmps, [0, 2], [], [], fun _ => none, [], noM, []⟩
theorem bd56 (f : Int) (hpre : pr56 f) : bodyP (cx56 f) Tryz.f56 0 [.int .i64 (f)] (fun rr => VLe rr (rs56 f)) := by
  have key : ((inK IntKind.i64 ((2 : Int) * f)) ∧ ((inK IntKind.i64 ((2 : Int) * f + (1 : Int))) ∧ (VLe (vi ((2 : Int) * f + (1 : Int))) (vi ((2 : Int) * f + (1 : Int)))))) := by
    delta vi
    unfold pr56 okF at hpre
    exact ⟨inK64 (by omega), inK64 (by omega), VLe.refl _⟩
  exact Eq.mp (by kernel_rfl) key
theorem so56 : Sound Tryz.prog 56 sp56 := by
  refine sound_of_body hmix (pol := 0) Tryz.func56 rfl (by kernel_rfl) fun args bin ob r bout hDe hob => ?_
  unfold sp56 at hDe
  split at hDe
  · rename_i a0
    cases hDe
    exact ⟨rfl, rfl, Nat.le_of_ble_eq_true (by kernel_rfl), cx56 a0, Eq.mp (by kernel_rfl) htt, Eq.mp (by kernel_rfl) da56, Eq.mp (by kernel_rfl) (noM_sound (P := Tryz.prog)), by kernel_rfl, [.int .i64 (a0)], args_of_vles (⟨VLe.refl _, trivial⟩), Eq.mp (by kernel_rfl) (bd56 a0 (hob))⟩
  · cases hDe

/-! ### spec.l9Votes -/
def pr105 (f : Int) (l : List Msg) (kind : Int) (c : Cert) : Prop := okF f ∧ bdL l
noncomputable def rs105 (f : Int) (l : List Msg) (kind : Int) (c : Cert) : V := encL encI 2 (votesF f l kind c)
noncomputable def sp105 : FSpec := fun args bin => match args, bin with
  | [.int .i64 a0, a1, .int .i64 a2, a3], [] => some (VLe a1 (encL (encMsg 1) 1 (((decL decMsg) a1))) ∧ VLe a3 (encCert 1 ((decCert a3))) ∧ pr105 a0 ((decL decMsg) a1) a2 (decCert a3), rs105 a0 ((decL decMsg) a1) a2 (decCert a3), [])
  | _, _ => none
noncomputable def in105_3 (f : Int) (l : List Msg) (kind : Int) (c : Cert) : LoopInv :=
  ⟨Nat, fun i => ⟨[(0, .int .i64 f), (1, encL (encMsg 1) 1 l), (2, .int .i64 kind), (7, .oref 512 0 0), (9, .osl (canonT 9) (votesTo l kind c i).length), (10, .int .i64 ((i : Int) + 1))], [(canonT 9, .arr 1 (votesTo l kind c i).length (gL encI (votesTo l kind c i)) tagS), (512, .box (encCert 1 c).cells)]⟩,
    fun i => (i : Int) ≤ 3 * f + 1, fun i => (3 * f + 1).toNat - i⟩
noncomputable def iv105 (f : Int) (l : List Msg) (kind : Int) (c : Cert) : Nat → Option LoopInv := fun rg_ => match rg_ with
  | 3 => some (in105_3 f l kind c)
  | _ => none
noncomputable def D105 : Nat → Option (Bool × FSpec) := lk [(91, (false, sp91))]
theorem da105 : SoundAll Tryz.prog D105 := soundAll_cons so91 (soundAll_nil)
noncomputable def cx105 (f : Int) (l : List Msg) (kind : Int) (c : Cert) : Cx := ⟨tt, D105, Tryz.f105.ntmps, [0, 1, 2, 3, 7, 8, 9, 10, 11, 17, 31], [(3, ⟨[(0, none), (1, none), (2, none), (7, none), (9, some 1), (10, none)], [(512, [])]⟩)], [], iv105 f l kind c, [], noM, []⟩
noncomputable def k105_0 (kind : Int) (c : Cert) (x : Nat) : V := (V.ptr [vi kind, vi (Cert.view c), vi ((↑x : Int) + (1 : Int)), vi (Cert.slot c), vi (Cert.value c), V.nil, V.nil] 0 1)
noncomputable def k105_1 (c : Cert) : Nat × Blk := (512, Blk.box [vi (Cert.slot c), vi (Cert.view c), vi (Cert.value c)])
noncomputable def k105_2 (f : Int) (l : List Msg) (kind : Int) (c : Cert) (y : Nat) : AS := (AS.mk [(0, vi f), (1, encL (encMsg 1) 1 l), (2, vi kind), (7, V.oref 512 0 0), (9, V.osl 32000640 (List.length (votesTo l kind c y))), (10, vi ((↑y : Int) + (1 : Int)))] [(32000640, Blk.arr 1 (List.length (votesTo l kind c y)) (gL encI (votesTo l kind c y)) 100), (k105_1 c)])
theorem bd105 (f : Int) (l : List Msg) (kind : Int) (c : Cert) (hpre : pr105 f l kind c) : bodyP (cx105 f l kind c) Tryz.f105 1 [.int .i64 (f), encL (encMsg 1) 1 (l), .int .i64 (kind), encCert 1 (c)] (fun rr => VLe rr (rs105 f l kind c)) := by
  have key : ((∃ x : Nat, ((SLe (AS.mk [(0, vi f), (1, encL (encMsg 1) 1 l), (2, vi kind), (7, V.oref 512 0 0), (9, V.osl 32000640 0), (10, vi (1 : Int))] [(32000640, Blk.arr 1 0 (rowg []) 100), (k105_1 c)]) (AS.mk [(0, vi f), (1, encL (encMsg 1) 1 l), (2, vi kind), (7, V.oref 512 0 0), (9, V.osl 32000640 (List.length (votesTo l kind c x))), (10, vi ((↑x : Int) + (1 : Int)))] [(32000640, Blk.arr 1 (List.length (votesTo l kind c x)) (gL encI (votesTo l kind c x)) 100), (k105_1 c)])) ∧ ((↑x : Int) ≤ (3 : Int) * f + (1 : Int)))) ∧ (∀ x : Nat, (((↑x : Int) ≤ (3 : Int) * f + (1 : Int)) → ((inK IntKind.i64 ((3 : Int) * f)) ∧ ((inK IntKind.i64 ((3 : Int) * f + (1 : Int))) ∧ (((decide ((↑x : Int) + (1 : Int) ≤ (3 : Int) * f + (1 : Int)) = true) → (((VLe (encL (encMsg 1) 1 l) (encL (encMsg 1) 1 (decL decMsg (encL (encMsg 1) 1 l)))) ∧ ((VLe (k105_0 kind c x) (encPMsg 1 (decPMsg (k105_0 kind c x)))) ∧ (pr91 (decL decMsg (encL (encMsg 1) 1 l)) (decPMsg (k105_0 kind c x))))) ∧ (((decide (msgAt (decL decMsg (encL (encMsg 1) 1 l)) (decPMsg (k105_0 kind c x)) ≥ (0 : Int)) = true) → ((List.length (votesTo l kind c x) = List.length (votesTo l kind c x)) ∧ ((List.length (votesTo l kind c x) + 1 ≤ 1073741824) ∧ ((sizedL 1 1 (rowg [vi ((↑x : Int) + (1 : Int))])) ∧ ((inK IntKind.i64 ((↑x : Int) + (1 : Int) + (1 : Int))) ∧ (∃ y : Nat, ((SLe (AS.mk [(0, vi f), (1, encL (encMsg 1) 1 l), (2, vi kind), (7, V.oref 512 0 0), (9, V.osl 32000640 (List.length (votesTo l kind c x) + 1)), (10, vi ((↑x : Int) + (1 : Int) + (1 : Int)))] [(32000640, Blk.arr 1 (List.length (votesTo l kind c x) + 1) (appg (List.length (votesTo l kind c x)) (gL encI (votesTo l kind c x)) (rowg [vi ((↑x : Int) + (1 : Int))])) 100), (k105_1 c)]) (k105_2 f l kind c y)) ∧ (((↑y : Int) ≤ (3 : Int) * f + (1 : Int)) ∧ (Int.toNat ((3 : Int) * f + (1 : Int)) - y < Int.toNat ((3 : Int) * f + (1 : Int)) - x))))))))) ∧ ((decide (msgAt (decL decMsg (encL (encMsg 1) 1 l)) (decPMsg (k105_0 kind c x)) ≥ (0 : Int)) = false) → ((inK IntKind.i64 ((↑x : Int) + (1 : Int) + (1 : Int))) ∧ (∃ y : Nat, ((SLe (AS.mk [(0, vi f), (1, encL (encMsg 1) 1 l), (2, vi kind), (7, V.oref 512 0 0), (9, V.osl 32000640 (List.length (votesTo l kind c x))), (10, vi ((↑x : Int) + (1 : Int) + (1 : Int)))] [(32000640, Blk.arr 1 (List.length (votesTo l kind c x)) (gL encI (votesTo l kind c x)) 100), (k105_1 c)]) (k105_2 f l kind c y)) ∧ (((↑y : Int) ≤ (3 : Int) * f + (1 : Int)) ∧ (Int.toNat ((3 : Int) * f + (1 : Int)) - y < Int.toNat ((3 : Int) * f + (1 : Int)) - x))))))))) ∧ ((decide ((↑x : Int) + (1 : Int) ≤ (3 : Int) * f + (1 : Int)) = false) → (VLe (encL encI 2 (votesTo l kind c x)) (encL encI 2 (votesF f l kind c)))))))))) := by
    delta k105_2; delta k105_1; delta k105_0; delta vi
    obtain ⟨hf, hl⟩ := hpre
    have hf' : 1 ≤ f ∧ f ≤ 2 := by unfold okF at hf; omega
    refine ⟨⟨0, ?_, by omega⟩, ?_⟩
    · refine sle_of ⟨rfl, VLe.refl _, rfl, VLe.refl _, rfl, VLe.refl _, rfl, VLe.refl _, rfl, VLe.refl _, rfl, VLe.refl _, trivial⟩ ⟨rfl, ?_, rfl, BLe.refl _, trivial⟩
      exact ble_arr (fun i hi => by simp at hi) (Or.inl rfl)
    · intro i hi
      have hd : decPMsg (.ptr [.int .i64 kind, .int .i64 c.view, .int .i64 ((i : Int) + 1), .int .i64 c.slot, .int .i64 c.value, .nil, .nil] 0 1) = bareMsg kind c (i + 1) := rfl
      have hv : VLe (.ptr [.int .i64 kind, .int .i64 c.view, .int .i64 ((i : Int) + 1), .int .i64 c.slot, .int .i64 c.value, .nil, .nil] 0 1) (encPMsg 1 (bareMsg kind c (i + 1))) :=
        vle_ptr rfl (PLes.at (a := [.int .i64 kind, .int .i64 c.view, .int .i64 ((i : Int) + 1), .int .i64 c.slot, .int .i64 c.value, .nil, .nil]) (b := (encMsg 1 (bareMsg kind c (i + 1))).cells)
          ⟨PLe.refl _, PLe.refl _, PLe.refl _, PLe.refl _, PLe.refl _, ple_nil _ _, ple_nil _ _, trivial⟩) (Or.inl rfl)
      have hlen := votesTo_len l kind c i
      simp only [hd, decL_Msg]
      refine ⟨inK64 (by omega), inK64 (by omega), fun h => ?_, fun h => ?_⟩
      · have h' := of_decide_eq_true h
        have hs := votesTo_succ l kind c i
        refine ⟨⟨VLe.refl _, hv, hl⟩, fun h2 => ⟨trivial, by omega, fun k hk => ?_, inK64 (by omega), i + 1, ?_, by omega, by omega⟩, fun h2 => ⟨inK64 (by omega), i + 1, ?_, by omega, by omega⟩⟩
        · have hk0 : k = 0 := by omega
          subst hk0
          exact ⟨rfl, rfl⟩
        · have hm : bareMsg kind c (i + 1) ∈ l := msgAt_nonneg.1 (of_decide_eq_true h2)
          rw [if_pos hm] at hs
          rw [hs]
          simp only [List.length_append, List.length_singleton]
          refine sle_of ⟨rfl, VLe.refl _, rfl, VLe.refl _, rfl, VLe.refl _, rfl, VLe.refl _, rfl, VLe.refl _, rfl, vle_int (by omega), trivial⟩ ⟨rfl, ?_, rfl, BLe.refl _, trivial⟩
          refine ble_arr (fun k hk => ELe.of_eq ?_) (Or.inl rfl)
          simp only [appg, gL]
          by_cases hk' : k < (votesTo l kind c i).length
          · rw [if_pos hk']
            simp [List.getElem?_append_left hk']
          · have hk0 : k = (votesTo l kind c i).length := by omega
            subst hk0
            rw [if_neg (Nat.lt_irrefl _)]
            simp [rowg, allInt, encI]
        · have hm : bareMsg kind c (i + 1) ∉ l := fun hm => (of_decide_eq_false h2) (msgAt_nonneg.2 hm)
          rw [if_neg hm, List.append_nil] at hs
          rw [hs]
          exact sle_of ⟨rfl, VLe.refl _, rfl, VLe.refl _, rfl, VLe.refl _, rfl, VLe.refl _, rfl, VLe.refl _, rfl, vle_int (by omega), trivial⟩ ⟨rfl, BLe.refl _, rfl, BLe.refl _, trivial⟩
      · have h' := of_decide_eq_false h
        have he : i = (3 * f + 1).toNat := by omega
        subst he
        exact vle_sl_eq (fun _ _ => rfl) (Or.inl rfl)
  exact Eq.mp (by kernel_rfl) key
theorem so105 : Sound Tryz.prog 105 sp105 := by
  refine sound_of_body hmix (pol := 1) Tryz.func105 rfl (by kernel_rfl) fun args bin ob r bout hDe hob => ?_
  unfold sp105 at hDe
  split at hDe
  · rename_i a0 a1 a2 a3
    cases hDe
    exact ⟨rfl, rfl, Nat.le_of_ble_eq_true (by kernel_rfl), cx105 a0 ((decL decMsg) a1) a2 (decCert a3), Eq.mp (by kernel_rfl) htt, Eq.mp (by kernel_rfl) da105, Eq.mp (by kernel_rfl) (noM_sound (P := Tryz.prog)), by kernel_rfl, [.int .i64 (a0), encL (encMsg 1) 1 (((decL decMsg) a1)), .int .i64 (a2), encCert 1 ((decCert a3))], args_of_vles (⟨VLe.refl _, hob.1, VLe.refl _, hob.2.1, trivial⟩), Eq.mp (by kernel_rfl) (bd105 a0 ((decL decMsg) a1) a2 (decCert a3) (hob.2.2))⟩
  · cases hDe

/-! ### spec.l9Enough -/
def pr92 (f : Int) (l : List Msg) (kind : Int) (c : Cert) : Prop := okF f ∧ bdL l
noncomputable def rs92 (f : Int) (l : List Msg) (kind : Int) (c : Cert) : V := .bool (decide (2 * f + 1 ≤ ((votesF f l kind c).length : Int)))
noncomputable def sp92 : FSpec := fun args bin => match args, bin with
  | [.int .i64 a0, a1, .int .i64 a2, a3], [] => some (VLe a1 (encL (encMsg 1) 1 (((decL decMsg) a1))) ∧ VLe a3 (encCert 1 ((decCert a3))) ∧ pr92 a0 ((decL decMsg) a1) a2 (decCert a3), rs92 a0 ((decL decMsg) a1) a2 (decCert a3), [])
  | _, _ => none
noncomputable def D92 : Nat → Option (Bool × FSpec) := lk [(105, (false, sp105)), (56, (false, sp56))]
theorem da92 : SoundAll Tryz.prog D92 := soundAll_cons so105 (soundAll_cons so56 (soundAll_nil))
noncomputable def cx92 (f : Int) (l : List Msg) (kind : Int) (c : Cert) : Cx := ⟨tt, D92, Tryz.f92.ntmps, [0, 1, 2, 3, 7, 8], [], [], fun _ => none, [], noM, []⟩
theorem bd92 (f : Int) (l : List Msg) (kind : Int) (c : Cert) (hpre : pr92 f l kind c) : bodyP (cx92 f l kind c) Tryz.f92 0 [.int .i64 (f), encL (encMsg 1) 1 (l), .int .i64 (kind), encCert 1 (c)] (fun rr => VLe rr (rs92 f l kind c)) := by
  have key : (((VLe (encL (encMsg 1) 1 l) (encL (encMsg 1) 1 (decL decMsg (encL (encMsg 1) 1 l)))) ∧ ((VLe (encCert 1 c) (encCert 1 (decCert (encCert 1 c)))) ∧ (pr105 f (decL decMsg (encL (encMsg 1) 1 l)) kind (decCert (encCert 1 c))))) ∧ ((pr56 f) ∧ (VLe (V.bool (decide ((↑(List.length (votesF f (decL decMsg (encL (encMsg 1) 1 l)) kind (decCert (encCert 1 c)))) : Int) ≥ (2 : Int) * f + (1 : Int)))) (V.bool (decide ((2 : Int) * f + (1 : Int) ≤ (↑(List.length (votesF f l kind c)) : Int))))))) := by
    obtain ⟨hf, hl⟩ := hpre
    simp only [decL_Msg, dec_encCert]
    exact ⟨⟨VLe.refl _, VLe.refl _, hf, hl⟩, hf, vle_bool rfl⟩
  exact Eq.mp (by kernel_rfl) key
theorem so92 : Sound Tryz.prog 92 sp92 := by
  refine sound_of_body hmix (pol := 0) Tryz.func92 rfl (by kernel_rfl) fun args bin ob r bout hDe hob => ?_
  unfold sp92 at hDe
  split at hDe
  · rename_i a0 a1 a2 a3
    cases hDe
    exact ⟨rfl, rfl, Nat.le_of_ble_eq_true (by kernel_rfl), cx92 a0 ((decL decMsg) a1) a2 (decCert a3), Eq.mp (by kernel_rfl) htt, Eq.mp (by kernel_rfl) da92, Eq.mp (by kernel_rfl) (noM_sound (P := Tryz.prog)), by kernel_rfl, [.int .i64 (a0), encL (encMsg 1) 1 (((decL decMsg) a1)), .int .i64 (a2), encCert 1 ((decCert a3))], args_of_vles (⟨VLe.refl _, hob.1, VLe.refl _, hob.2.1, trivial⟩), Eq.mp (by kernel_rfl) (bd92 a0 ((decL decMsg) a1) a2 (decCert a3) (hob.2.2))⟩
  · cases hDe

end Go.Av
