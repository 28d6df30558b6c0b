/- The laws' parameters as typed data: what the law's opening gives. Printed by wip/gen/types.py. -/
import Derived.Test.YtendmninanhmiaaDoorE0
namespace Go.Av
open Go.Proofs
set_option maxRecDepth 100000
set_option linter.unusedVariables false

theorem ty_Watch_8 : Tyd Tryd.prog 8 40 true (encWatch 1) Watch.bd :=
  tyd_struct Tryd.underlying40 (tydF_cons (tyd_int Tryd.underlying2) (tydF_cons (tyd_str Tryd.underlying9) tydF_nil)) (fun y => ⟨y.1, y.2.1⟩) (fun _ => rfl) (fun y h => h.2.1) (fun x => ⟨_, rfl⟩)
theorem ta_LWatch : Tyd Tryd.prog 9 22 false (encL (encWatch 1) 1) (fun xs => xs.length ≤ maxLen ∧ ∀ x ∈ xs, Watch.bd x) := (tyd_slice Tryd.underlying22 (by kernel_rfl) ty_Watch_8)
theorem ty_Watch_9 : Tyd Tryd.prog 9 40 true (encWatch 1) Watch.bd :=
  tyd_struct Tryd.underlying40 (tydF_cons (tyd_int Tryd.underlying2) (tydF_cons (tyd_str Tryd.underlying9) tydF_nil)) (fun y => ⟨y.1, y.2.1⟩) (fun _ => rfl) (fun y h => h.2.1) (fun x => ⟨_, rfl⟩)
theorem ta_Watch : Tyd Tryd.prog 9 40 true (encWatch 1) Watch.bd := ty_Watch_9
theorem ty_Znode_8 : Tyd Tryd.prog 8 103 true (encZnode 1) Znode.bd :=
  tyd_struct Tryd.underlying103 (tydF_cons (tyd_str Tryd.underlying9) (tydF_cons (tyd_int Tryd.underlying2) (tydF_cons (tyd_int Tryd.underlying2) (tydF_cons (tyd_int Tryd.underlying2) (tydF_cons (tyd_int Tryd.underlying2) tydF_nil))))) (fun y => ⟨y.1, y.2.1, y.2.2.1, y.2.2.2.1, y.2.2.2.2.1⟩) (fun _ => rfl) (fun y h => h.1) (fun x => ⟨_, rfl⟩)
theorem ta_LZnode : Tyd Tryd.prog 9 52 false (encL (encZnode 1) 1) (fun xs => xs.length ≤ maxLen ∧ ∀ x ∈ xs, Znode.bd x) := (tyd_slice Tryd.underlying52 (by kernel_rfl) ty_Znode_8)
theorem ty_Znode_7 : Tyd Tryd.prog 7 103 true (encZnode 1) Znode.bd :=
  tyd_struct Tryd.underlying103 (tydF_cons (tyd_str Tryd.underlying9) (tydF_cons (tyd_int Tryd.underlying2) (tydF_cons (tyd_int Tryd.underlying2) (tydF_cons (tyd_int Tryd.underlying2) (tydF_cons (tyd_int Tryd.underlying2) tydF_nil))))) (fun y => ⟨y.1, y.2.1, y.2.2.1, y.2.2.2.1, y.2.2.2.2.1⟩) (fun _ => rfl) (fun y h => h.1) (fun x => ⟨_, rfl⟩)
theorem ty_Session_7 : Tyd Tryd.prog 7 153 true (encSession 1) (fun _ => True) :=
  tyd_struct Tryd.underlying153 (tydF_cons (tyd_int Tryd.underlying2) (tydF_cons (tyd_int Tryd.underlying2) tydF_nil)) (fun y => ⟨y.1, y.2.1⟩) (fun _ => rfl) (fun y h => trivial) (fun x => ⟨_, rfl⟩)
theorem ty_Reply_6 : Tyd Tryd.prog 6 144 true (encReply 1) Reply.bd :=
  tyd_struct Tryd.underlying144 (tydF_cons (tyd_int Tryd.underlying2) (tydF_cons (tyd_int Tryd.underlying2) (tydF_cons (tyd_str Tryd.underlying9) tydF_nil))) (fun y => ⟨y.1, y.2.1, y.2.2.1⟩) (fun _ => rfl) (fun y h => h.2.2.1) (fun x => ⟨_, rfl⟩)
theorem ty_TMark_7 : Tyd Tryd.prog 7 146 true (encTMark 1) TMark.bd :=
  tyd_struct Tryd.underlying146 (tydF_cons (tyd_int Tryd.underlying2) (tydF_cons (tyd_int Tryd.underlying2) (tydF_cons ty_Reply_6 tydF_nil))) (fun y => ⟨y.1, y.2.1, y.2.2.1⟩) (fun _ => rfl) (fun y h => h.2.2.1) (fun x => ⟨_, rfl⟩)
theorem ty_TState_9 : Tyd Tryd.prog 9 65 true (encTState 1) TState.bd :=
  tyd_struct Tryd.underlying65 (tydF_cons (tyd_slice Tryd.underlying52 (by kernel_rfl) ty_Znode_7) (tydF_cons (tyd_slice Tryd.underlying62 (by kernel_rfl) ty_Session_7) (tydF_cons (tyd_int Tryd.underlying2) (tydF_cons (tyd_slice Tryd.underlying63 (by kernel_rfl) ty_TMark_7) tydF_nil)))) (fun y => ⟨y.1, y.2.1, y.2.2.1, y.2.2.2.1⟩) (fun _ => rfl) (fun y h => ⟨h.1, h.2.1.1, h.2.2.2.1⟩) (fun x => ⟨_, rfl⟩)
theorem ta_TState : Tyd Tryd.prog 9 65 true (encTState 1) TState.bd := ty_TState_9
theorem ty_TEvent_9 : Tyd Tryd.prog 9 30 true (encTEvent 1) TEvent.bd :=
  tyd_struct Tryd.underlying30 (tydF_cons (tyd_int Tryd.underlying2) (tydF_cons (tyd_str Tryd.underlying9) (tydF_cons (tyd_int Tryd.underlying2) tydF_nil))) (fun y => ⟨y.1, y.2.1, y.2.2.1⟩) (fun _ => rfl) (fun y h => h.2.1) (fun x => ⟨_, rfl⟩)
theorem ta_TEvent : Tyd Tryd.prog 9 30 true (encTEvent 1) TEvent.bd := ty_TEvent_9
theorem ta_str : Tyd Tryd.prog 9 9 false encS (fun s => s.size ≤ maxLen) := (tyd_str Tryd.underlying9)
theorem ta_int : Tyd Tryd.prog 9 2 false (fun x : Int => .int .i64 x) (fun x => (Lit.int .i64 x).wf = true) := (tyd_int Tryd.underlying2)

end Go.Av
