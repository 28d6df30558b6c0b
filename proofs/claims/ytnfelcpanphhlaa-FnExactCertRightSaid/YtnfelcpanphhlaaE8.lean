/- The law on certificates. -/
import Derived.Test.YtnfelcpanphhlaaM9
namespace Go.Av
open Go.Proofs
set_option maxRecDepth 100000
set_option linter.unusedVariables false
set_option linter.unusedSimpArgs false

theorem cert_eq (f : Int) (l : List Msg) (c : Cert) : decide (ledgerFault f l = 0 ∧ certOk f l c) = decide (ledgerFault f l = 0 ∧ inR c.slot 1 30 ∧ inR c.view 0 20 ∧ inR c.value 0 12 ∧ 2 * f + 1 ≤ ((votesF f l 2 c).length : Int)) := by
  rw [decide_eq_decide]
  constructor
  · rintro ⟨h0, h1, h2, h3, h4⟩
    rw [votes_eq (right_of h0) (Or.inl rfl) c] at h4
    exact ⟨h0, h1, h2, h3, h4⟩
  · rintro ⟨h0, h1, h2, h3, h4⟩
    rw [← votes_eq (right_of h0) (Or.inl rfl) c] at h4
    exact ⟨h0, h1, h2, h3, h4⟩


/-! ### laws.FnExactCertRight -/
def pr12 (f : Int) (l : List Msg) (c : Cert) : Prop := (Lit.int .i64 f).wf = true ∧ bdL l ∧ True
noncomputable def rs12 (f : Int) (l : List Msg) (c : Cert) : V := .bool (true)
def Q12 (vs : List V) : Prop := ∃ (f : Int) (l : List Msg) (c : Cert), ArgsLe vs [.int .i64 (f), encL (encMsg 1) 1 (l), encCert 1 (c)] ∧ pr12 f l c
noncomputable def D12 : Nat → Option (Bool × FSpec) := lk [(34, (false, sp34)), (36, (false, sp36)), (58, (false, sp58)), (38, (false, sp38)), (57, (false, sp57)), (59, (false, sp59))]
theorem da12 : SoundAll Try.prog D12 := soundAll_cons so34 (soundAll_cons so36 (soundAll_cons so58 (soundAll_cons so38 (soundAll_cons so57 (soundAll_cons so59 (soundAll_nil))))))
noncomputable def cx12 (f : Int) (l : List Msg) (c : Cert) : Cx := ⟨tt, D12, Try.f12.ntmps, [0, 1, 2, 5, 6, 7, 8, 9, 10, 15, 31, 36], [], [], fun _ => none⟩
theorem bd12 (f : Int) (l : List Msg) (c : Cert) (hpre : pr12 f l c) : bodyP (cx12 f l c) Try.f12 0 [.int .i64 (f), encL (encMsg 1) 1 (l), encCert 1 (c)] (fun rr => VLe rr (rs12 f l c)) := by
  have key :
      (((VLe (encL (encMsg (1 : Nat)) (1 : Nat) l)
  (encL (encMsg (1 : Nat)) (1 : Nat) (decL decMsg (encL (encMsg (1 : Nat)) (1 : Nat) l)))) ∧
        (pr34 (decL decMsg (encL (encMsg (1 : Nat)) (1 : Nat) l)) (1048576 : Int))) ∧
       (((decide (szMsgSF (decL decMsg (encL (encMsg (1 : Nat)) (1 : Nat) l)) (1048576 : Int) < (0 : Int)) = true) →
          (VLe (V.bool true) (V.bool true))) ∧
        ((decide (szMsgSF (decL decMsg (encL (encMsg (1 : Nat)) (1 : Nat) l)) (1048576 : Int) < (0 : Int)) = false) →
          (((VLe (encL (encMsg (1 : Nat)) (1 : Nat) l)
  (encL (encMsg (1 : Nat)) (1 : Nat) (decL decMsg (encL (encMsg (1 : Nat)) (1 : Nat) l)))) ∧
            (pr36 (decL decMsg (encL (encMsg (1 : Nat)) (1 : Nat) l)))) ∧
           (((VLe (encCert (1 : Nat) c) (encCert (1 : Nat) (decCert (encCert (1 : Nat) c)))) ∧
             (pr58 (decCert (encCert (1 : Nat) c)))) ∧
            (((VLe (encL (encMsg (1 : Nat)) (1 : Nat) (decL decMsg (encL (encMsg (1 : Nat)) (1 : Nat) l)))
  (encL (encMsg (1 : Nat)) (1 : Nat)
    (decL decMsg (encL (encMsg (1 : Nat)) (1 : Nat) (decL decMsg (encL (encMsg (1 : Nat)) (1 : Nat) l)))))) ∧
              ((VLe (encCert (1 : Nat) (decCert (encCert (1 : Nat) c)))
  (encCert (1 : Nat) (decCert (encCert (1 : Nat) (decCert (encCert (1 : Nat) c)))))) ∧
               (pr57 f (decL decMsg (encL (encMsg (1 : Nat)) (1 : Nat) (decL decMsg (encL (encMsg (1 : Nat)) (1 : Nat) l))))
  (decCert (encCert (1 : Nat) (decCert (encCert (1 : Nat) c))))))) ∧
             (((VLe (encL (encMsg (1 : Nat)) (1 : Nat) l)
  (encL (encMsg (1 : Nat)) (1 : Nat) (decL decMsg (encL (encMsg (1 : Nat)) (1 : Nat) l)))) ∧
               (pr36 (decL decMsg (encL (encMsg (1 : Nat)) (1 : Nat) l)))) ∧
              (((VLe (encCert (1 : Nat) c) (encCert (1 : Nat) (decCert (encCert (1 : Nat) c)))) ∧
                (pr58 (decCert (encCert (1 : Nat) c)))) ∧
               (((VLe (encL (encMsg (1 : Nat)) (1 : Nat) (decL decMsg (encL (encMsg (1 : Nat)) (1 : Nat) l)))
  (encL (encMsg (1 : Nat)) (1 : Nat)
    (decL decMsg (encL (encMsg (1 : Nat)) (1 : Nat) (decL decMsg (encL (encMsg (1 : Nat)) (1 : Nat) l)))))) ∧
                 ((VLe (encCert (1 : Nat) (decCert (encCert (1 : Nat) c)))
  (encCert (1 : Nat) (decCert (encCert (1 : Nat) (decCert (encCert (1 : Nat) c)))))) ∧
                  (pr59 f (decL decMsg (encL (encMsg (1 : Nat)) (1 : Nat) (decL decMsg (encL (encMsg (1 : Nat)) (1 : Nat) l))))
  (decCert (encCert (1 : Nat) (decCert (encCert (1 : Nat) c))))))) ∧
                ((((!decide
        (ledgerFault f
              (decL decMsg (encL (encMsg (1 : Nat)) (1 : Nat) (decL decMsg (encL (encMsg (1 : Nat)) (1 : Nat) l)))) =
            (0 : Int) ∧
          certOk f (decL decMsg (encL (encMsg (1 : Nat)) (1 : Nat) (decL decMsg (encL (encMsg (1 : Nat)) (1 : Nat) l))))
            (decCert (encCert (1 : Nat) (decCert (encCert (1 : Nat) c))))) ==
      decide
        (ledgerFault f
              (decL decMsg (encL (encMsg (1 : Nat)) (1 : Nat) (decL decMsg (encL (encMsg (1 : Nat)) (1 : Nat) l)))) =
            (0 : Int) ∧
          inR (Cert.slot (decCert (encCert (1 : Nat) (decCert (encCert (1 : Nat) c))))) (1 : Int) (30 : Int) ∧
            inR (Cert.view (decCert (encCert (1 : Nat) (decCert (encCert (1 : Nat) c))))) (0 : Int) (20 : Int) ∧
              inR (Cert.value (decCert (encCert (1 : Nat) (decCert (encCert (1 : Nat) c))))) (0 : Int) (12 : Int) ∧
                (2 : Int) * f + (1 : Int) ≤
                  (↑(List.length
                        (votesF f
                          (decL decMsg
                            (encL (encMsg (1 : Nat)) (1 : Nat) (decL decMsg (encL (encMsg (1 : Nat)) (1 : Nat) l))))
                          (2 : Int) (decCert (encCert (1 : Nat) (decCert (encCert (1 : Nat) c)))))) :
                    Int))) =
  true) →
                   (VLe (V.bool false) (V.bool true))) ∧
                 (((!decide
        (ledgerFault f
              (decL decMsg (encL (encMsg (1 : Nat)) (1 : Nat) (decL decMsg (encL (encMsg (1 : Nat)) (1 : Nat) l)))) =
            (0 : Int) ∧
          certOk f (decL decMsg (encL (encMsg (1 : Nat)) (1 : Nat) (decL decMsg (encL (encMsg (1 : Nat)) (1 : Nat) l))))
            (decCert (encCert (1 : Nat) (decCert (encCert (1 : Nat) c))))) ==
      decide
        (ledgerFault f
              (decL decMsg (encL (encMsg (1 : Nat)) (1 : Nat) (decL decMsg (encL (encMsg (1 : Nat)) (1 : Nat) l)))) =
            (0 : Int) ∧
          inR (Cert.slot (decCert (encCert (1 : Nat) (decCert (encCert (1 : Nat) c))))) (1 : Int) (30 : Int) ∧
            inR (Cert.view (decCert (encCert (1 : Nat) (decCert (encCert (1 : Nat) c))))) (0 : Int) (20 : Int) ∧
              inR (Cert.value (decCert (encCert (1 : Nat) (decCert (encCert (1 : Nat) c))))) (0 : Int) (12 : Int) ∧
                (2 : Int) * f + (1 : Int) ≤
                  (↑(List.length
                        (votesF f
                          (decL decMsg
                            (encL (encMsg (1 : Nat)) (1 : Nat) (decL decMsg (encL (encMsg (1 : Nat)) (1 : Nat) l))))
                          (2 : Int) (decCert (encCert (1 : Nat) (decCert (encCert (1 : Nat) c)))))) :
                    Int))) =
  false) →
                   (((VLe (encL (encMsg (1 : Nat)) (1 : Nat) l)
  (encL (encMsg (1 : Nat)) (1 : Nat) (decL decMsg (encL (encMsg (1 : Nat)) (1 : Nat) l)))) ∧
                     (pr36 (decL decMsg (encL (encMsg (1 : Nat)) (1 : Nat) l)))) ∧
                    (((VLe (encL (encMsg (1 : Nat)) (1 : Nat) (decL decMsg (encL (encMsg (1 : Nat)) (1 : Nat) l)))
  (encL (encMsg (1 : Nat)) (1 : Nat)
    (decL decMsg (encL (encMsg (1 : Nat)) (1 : Nat) (decL decMsg (encL (encMsg (1 : Nat)) (1 : Nat) l)))))) ∧
                      ((VLe (encL (encMsg (1 : Nat)) (1 : Nat) (decL decMsg (encL (encMsg (1 : Nat)) (1 : Nat) l)))
  (encL (encMsg (1 : Nat)) (1 : Nat)
    (decL decMsg (encL (encMsg (1 : Nat)) (1 : Nat) (decL decMsg (encL (encMsg (1 : Nat)) (1 : Nat) l)))))) ∧
                       (pr38 (decL decMsg (encL (encMsg (1 : Nat)) (1 : Nat) (decL decMsg (encL (encMsg (1 : Nat)) (1 : Nat) l))))
  (decL decMsg (encL (encMsg (1 : Nat)) (1 : Nat) (decL decMsg (encL (encMsg (1 : Nat)) (1 : Nat) l))))))) ∧
                     ((((!decide
      (decL decMsg (encL (encMsg (1 : Nat)) (1 : Nat) (decL decMsg (encL (encMsg (1 : Nat)) (1 : Nat) l))) =
        decL decMsg (encL (encMsg (1 : Nat)) (1 : Nat) (decL decMsg (encL (encMsg (1 : Nat)) (1 : Nat) l))))) =
  true) →
                        (VLe (V.bool false) (V.bool true))) ∧
                      (((!decide
      (decL decMsg (encL (encMsg (1 : Nat)) (1 : Nat) (decL decMsg (encL (encMsg (1 : Nat)) (1 : Nat) l))) =
        decL decMsg (encL (encMsg (1 : Nat)) (1 : Nat) (decL decMsg (encL (encMsg (1 : Nat)) (1 : Nat) l))))) =
  false) →
                        (VLe (V.bool true) (V.bool true))))))))))))))))) := by
    obtain ⟨_, hm, _⟩ := hpre
    have f1 := @szMsgSF_bd l 1048576
    have f3 := @szMsgSF_le l 1048576 (by omega)
    obtain ⟨hl, hb⟩ := hm
    have hce := cert_eq f l c
    simp only [decL_Msg, dec_encCert]
    refine ⟨⟨VLe.refl _, by omega, by unfold most; omega, hl, hb⟩, fun h => VLe.refl _, fun h => ?_⟩
    have h0 := of_decide_eq_false h
    obtain ⟨g1, g2⟩ := f1 (by omega)
    have p1 : pr36 l := ⟨by unfold most; omega, fun x hx => ⟨by have := g2 x hx; unfold most; omega, by have := g2 x hx; unfold most; omega⟩⟩
    have p2 : pr38 l l := ⟨hl, fun x hx y => hb x hx⟩
    rw [hce]
    repeat' (first | exact VLe.refl _ | exact p1 | exact p2 | exact ⟨hl, hb⟩ | exact trivial | apply And.intro | intro _)
    all_goals simp_all
  exact Eq.mp (by kernel_rfl) key
theorem so12 : Sound Try.prog 12 (lawD Q12) := by
  refine sound_of_body hmix (pol := 0) Try.func12 rfl (by kernel_rfl) fun args bin ob r bout hDe hob => ?_
  unfold lawD at hDe
  split at hDe
  · cases hDe
    obtain ⟨f, l, c, hle, hpre⟩ := hob
    have hlen : args.length = 3 := hle.1.symm
    exact ⟨rfl, rfl, by rw [hlen]; exact Nat.le_of_ble_eq_true (by kernel_rfl), cx12 f l c, Eq.mp (by kernel_rfl) htt, Eq.mp (by kernel_rfl) da12, by kernel_rfl, _, hle, Eq.mp (by kernel_rfl) (bd12 f l c hpre)⟩
  · cases hDe

end Go.Av
