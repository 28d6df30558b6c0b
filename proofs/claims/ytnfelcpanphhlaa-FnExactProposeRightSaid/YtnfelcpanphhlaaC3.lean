/- The laws' parameters as typed data: what the law's opening gives. Printed by wip/gen/types.py. -/
import Derived.Test.YtnfelcpanphhlaaE0
namespace Go.Av
open Go.Proofs
set_option maxRecDepth 100000
set_option linter.unusedVariables false

theorem ty_Cert_9 : Tyd Try.prog 9 73 true (encCert 1) (fun _ => True) :=
  tyd_struct Try.underlying73 (tydF_cons (tyd_int Try.underlying2) (tydF_cons (tyd_int Try.underlying2) (tydF_cons (tyd_int Try.underlying2) tydF_nil))) (fun y => ⟨y.1, y.2.1, y.2.2.1⟩) (fun _ => rfl) (fun y h => trivial) (fun x => ⟨_, rfl⟩)
theorem ta_Cert : Tyd Try.prog 9 73 true (encCert 1) (fun _ => True) := ty_Cert_9
theorem ty_Cert_7 : Tyd Try.prog 7 73 true (encCert 1) (fun _ => True) :=
  tyd_struct Try.underlying73 (tydF_cons (tyd_int Try.underlying2) (tydF_cons (tyd_int Try.underlying2) (tydF_cons (tyd_int Try.underlying2) tydF_nil))) (fun y => ⟨y.1, y.2.1, y.2.2.1⟩) (fun _ => rfl) (fun y h => trivial) (fun x => ⟨_, rfl⟩)
theorem ty_Msg_9 : Tyd Try.prog 9 32 true (encMsg 1) Msg.bd :=
  tyd_struct Try.underlying32 (tydF_cons (tyd_int Try.underlying2) (tydF_cons (tyd_int Try.underlying2) (tydF_cons (tyd_int Try.underlying2) (tydF_cons (tyd_int Try.underlying2) (tydF_cons (tyd_int Try.underlying2) (tydF_cons (tyd_slice Try.underlying29 (by kernel_rfl) ty_Cert_7) (tydF_cons (tyd_slice Try.underlying30 (by kernel_rfl) (tyd_int Try.underlying2)) tydF_nil))))))) (fun y => ⟨y.1, y.2.1, y.2.2.1, y.2.2.2.1, y.2.2.2.2.1, y.2.2.2.2.2.1, y.2.2.2.2.2.2.1⟩) (fun _ => rfl) (fun y h => ⟨h.2.2.2.2.2.1.1, h.2.2.2.2.2.2.1.1⟩) (fun x => ⟨_, rfl⟩)
theorem ta_Msg : Tyd Try.prog 9 32 true (encMsg 1) Msg.bd := ty_Msg_9
theorem ty_Cert_8 : Tyd Try.prog 8 73 true (encCert 1) (fun _ => True) :=
  tyd_struct Try.underlying73 (tydF_cons (tyd_int Try.underlying2) (tydF_cons (tyd_int Try.underlying2) (tydF_cons (tyd_int Try.underlying2) tydF_nil))) (fun y => ⟨y.1, y.2.1, y.2.2.1⟩) (fun _ => rfl) (fun y h => trivial) (fun x => ⟨_, rfl⟩)
theorem ta_LCert : Tyd Try.prog 9 29 false (encL (encCert 1) 1) (fun xs => xs.length ≤ maxLen ∧ ∀ x ∈ xs, (fun _ => True) x) := (tyd_slice Try.underlying29 (by kernel_rfl) ty_Cert_8)
theorem ty_Cert_6 : Tyd Try.prog 6 73 true (encCert 1) (fun _ => True) :=
  tyd_struct Try.underlying73 (tydF_cons (tyd_int Try.underlying2) (tydF_cons (tyd_int Try.underlying2) (tydF_cons (tyd_int Try.underlying2) tydF_nil))) (fun y => ⟨y.1, y.2.1, y.2.2.1⟩) (fun _ => rfl) (fun y h => trivial) (fun x => ⟨_, rfl⟩)
theorem ty_Msg_8 : Tyd Try.prog 8 32 true (encMsg 1) Msg.bd :=
  tyd_struct Try.underlying32 (tydF_cons (tyd_int Try.underlying2) (tydF_cons (tyd_int Try.underlying2) (tydF_cons (tyd_int Try.underlying2) (tydF_cons (tyd_int Try.underlying2) (tydF_cons (tyd_int Try.underlying2) (tydF_cons (tyd_slice Try.underlying29 (by kernel_rfl) ty_Cert_6) (tydF_cons (tyd_slice Try.underlying30 (by kernel_rfl) (tyd_int Try.underlying2)) tydF_nil))))))) (fun y => ⟨y.1, y.2.1, y.2.2.1, y.2.2.2.1, y.2.2.2.2.1, y.2.2.2.2.2.1, y.2.2.2.2.2.2.1⟩) (fun _ => rfl) (fun y h => ⟨h.2.2.2.2.2.1.1, h.2.2.2.2.2.2.1.1⟩) (fun x => ⟨_, rfl⟩)
theorem ta_LMsg : Tyd Try.prog 9 42 false (encL (encMsg 1) 1) (fun xs => xs.length ≤ maxLen ∧ ∀ x ∈ xs, Msg.bd x) := (tyd_slice Try.underlying42 (by kernel_rfl) ty_Msg_8)
theorem ta_Lint : Tyd Try.prog 9 30 false (encL encI 1) (fun xs => xs.length ≤ maxLen ∧ ∀ x ∈ xs, (fun x => (Lit.int .i64 x).wf = true) x) := (tyd_slice Try.underlying30 (by kernel_rfl) (tyd_int Try.underlying2))
theorem ta_int : Tyd Try.prog 9 2 false (fun x : Int => .int .i64 x) (fun x => (Lit.int .i64 x).wf = true) := (tyd_int Try.underlying2)

end Go.Av
