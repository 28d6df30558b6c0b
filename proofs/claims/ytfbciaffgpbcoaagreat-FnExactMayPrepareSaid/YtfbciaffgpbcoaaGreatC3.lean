/- The laws' parameters as typed data: what the law's opening gives. Printed by wip/gen/types.py. -/
import Derived.Test.YtfbciaffgpbcoaaGreatE0
namespace Go.Av
open Go.Proofs
set_option maxRecDepth 100000
set_option linter.unusedVariables false

theorem ty_Replica_9 : Tyd Tryz.prog 9 24 true (encReplica 1) (fun _ => True) :=
  tyd_struct Tryz.underlying24 (tydF_cons (tyd_int Tryz.underlying2) (tydF_cons (tyd_int Tryz.underlying2) (tydF_cons (tyd_int Tryz.underlying2) (tydF_cons (tyd_int Tryz.underlying2) tydF_nil)))) (fun y => ⟨y.1, y.2.1, y.2.2.1, y.2.2.2.1⟩) (fun _ => rfl) (fun y h => trivial) (fun x => ⟨_, rfl⟩)
theorem ta_Replica : Tyd Tryz.prog 9 24 true (encReplica 1) (fun _ => True) := ty_Replica_9
theorem ty_Cert_9 : Tyd Tryz.prog 9 69 true (encCert 1) (fun _ => True) :=
  tyd_struct Tryz.underlying69 (tydF_cons (tyd_int Tryz.underlying2) (tydF_cons (tyd_int Tryz.underlying2) (tydF_cons (tyd_int Tryz.underlying2) tydF_nil))) (fun y => ⟨y.1, y.2.1, y.2.2.1⟩) (fun _ => rfl) (fun y h => trivial) (fun x => ⟨_, rfl⟩)
theorem ta_Cert : Tyd Tryz.prog 9 69 true (encCert 1) (fun _ => True) := ty_Cert_9
theorem ty_Cert_7 : Tyd Tryz.prog 7 69 true (encCert 1) (fun _ => True) :=
  tyd_struct Tryz.underlying69 (tydF_cons (tyd_int Tryz.underlying2) (tydF_cons (tyd_int Tryz.underlying2) (tydF_cons (tyd_int Tryz.underlying2) tydF_nil))) (fun y => ⟨y.1, y.2.1, y.2.2.1⟩) (fun _ => rfl) (fun y h => trivial) (fun x => ⟨_, rfl⟩)
theorem ty_Msg_9 : Tyd Tryz.prog 9 37 true (encMsg 1) Msg.bd :=
  tyd_struct Tryz.underlying37 (tydF_cons (tyd_int Tryz.underlying2) (tydF_cons (tyd_int Tryz.underlying2) (tydF_cons (tyd_int Tryz.underlying2) (tydF_cons (tyd_int Tryz.underlying2) (tydF_cons (tyd_int Tryz.underlying2) (tydF_cons (tyd_slice Tryz.underlying34 (by kernel_rfl) ty_Cert_7) (tydF_cons (tyd_slice Tryz.underlying35 (by kernel_rfl) (tyd_int Tryz.underlying2)) tydF_nil))))))) (fun y => ⟨y.1, y.2.1, y.2.2.1, y.2.2.2.1, y.2.2.2.2.1, y.2.2.2.2.2.1, y.2.2.2.2.2.2.1⟩) (fun _ => rfl) (fun y h => ⟨h.2.2.2.2.2.1.1, h.2.2.2.2.2.2.1.1⟩) (fun x => ⟨_, rfl⟩)
theorem ta_Msg : Tyd Tryz.prog 9 37 true (encMsg 1) Msg.bd := ty_Msg_9
theorem ty_Cert_8 : Tyd Tryz.prog 8 69 true (encCert 1) (fun _ => True) :=
  tyd_struct Tryz.underlying69 (tydF_cons (tyd_int Tryz.underlying2) (tydF_cons (tyd_int Tryz.underlying2) (tydF_cons (tyd_int Tryz.underlying2) tydF_nil))) (fun y => ⟨y.1, y.2.1, y.2.2.1⟩) (fun _ => rfl) (fun y h => trivial) (fun x => ⟨_, rfl⟩)
theorem ta_LCert : Tyd Tryz.prog 9 34 false (encL (encCert 1) 1) (fun xs => xs.length ≤ maxLen ∧ ∀ x ∈ xs, (fun _ => True) x) := (tyd_slice Tryz.underlying34 (by kernel_rfl) ty_Cert_8)
theorem ty_Cert_6 : Tyd Tryz.prog 6 69 true (encCert 1) (fun _ => True) :=
  tyd_struct Tryz.underlying69 (tydF_cons (tyd_int Tryz.underlying2) (tydF_cons (tyd_int Tryz.underlying2) (tydF_cons (tyd_int Tryz.underlying2) tydF_nil))) (fun y => ⟨y.1, y.2.1, y.2.2.1⟩) (fun _ => rfl) (fun y h => trivial) (fun x => ⟨_, rfl⟩)
theorem ty_Msg_8 : Tyd Tryz.prog 8 37 true (encMsg 1) Msg.bd :=
  tyd_struct Tryz.underlying37 (tydF_cons (tyd_int Tryz.underlying2) (tydF_cons (tyd_int Tryz.underlying2) (tydF_cons (tyd_int Tryz.underlying2) (tydF_cons (tyd_int Tryz.underlying2) (tydF_cons (tyd_int Tryz.underlying2) (tydF_cons (tyd_slice Tryz.underlying34 (by kernel_rfl) ty_Cert_6) (tydF_cons (tyd_slice Tryz.underlying35 (by kernel_rfl) (tyd_int Tryz.underlying2)) tydF_nil))))))) (fun y => ⟨y.1, y.2.1, y.2.2.1, y.2.2.2.1, y.2.2.2.2.1, y.2.2.2.2.2.1, y.2.2.2.2.2.2.1⟩) (fun _ => rfl) (fun y h => ⟨h.2.2.2.2.2.1.1, h.2.2.2.2.2.2.1.1⟩) (fun x => ⟨_, rfl⟩)
theorem ta_LMsg : Tyd Tryz.prog 9 22 false (encL (encMsg 1) 1) (fun xs => xs.length ≤ maxLen ∧ ∀ x ∈ xs, Msg.bd x) := (tyd_slice Tryz.underlying22 (by kernel_rfl) ty_Msg_8)
theorem ta_Lint : Tyd Tryz.prog 9 35 false (encL encI 1) (fun xs => xs.length ≤ maxLen ∧ ∀ x ∈ xs, (fun x => (Lit.int .i64 x).wf = true) x) := (tyd_slice Tryz.underlying35 (by kernel_rfl) (tyd_int Tryz.underlying2))
theorem ta_int : Tyd Tryz.prog 9 2 false (fun x : Int => .int .i64 x) (fun x => (Lit.int .i64 x).wf = true) := (tyd_int Tryz.underlying2)

end Go.Av
