/- The program's structs as typed data: encodings and decodings. Printed by wip/gen/types.py. -/
import Derived.Test.YtakcaanpnmkccaaGreatC1
namespace Go.Av
set_option linter.unusedVariables false
set_option linter.unusedSimpArgs false

structure Cert where
  slot : Int
  view : Int
  value : Int
instance : Inhabited Cert := ⟨⟨0, 0, 0⟩⟩
noncomputable instance : DecidableEq Cert := fun _ _ => Classical.propDecidable _
def encCert (t : Nat) (x : Cert) : V := .agg [.int .i64 (x.slot), .int .i64 (x.view), .int .i64 (x.value)]
def decCert : V → Cert
  | .agg [c0, c1, c2] => ⟨decI c0, decI c1, decI c2⟩
  | _ => default
@[simp] theorem dec_encCert (t : Nat) (x : Cert) : decCert (encCert t x) = x := by
  simp only [decCert, encCert, decI_int, decB_bool, decS_str]
theorem eq_Cert {x y : Cert} : x = y ↔ x.slot = y.slot ∧ x.view = y.view ∧ x.value = y.value := by
  cases x; cases y; simp
theorem ele_Cert (t t' : Nat) (x : Cert) : ELe (encCert t x) (encCert t' x) := ele_of ⟨PLe.refl _, PLe.refl _, PLe.refl _, trivial⟩
theorem vle0_Cert (t : Nat) (x : Cert) : VLe (encCert t x) (encCert 0 x) := vle_agg ⟨VLe.refl _, VLe.refl _, VLe.refl _, trivial⟩
def encPCert (t : Nat) (x : Cert) : V := .ptr (encCert t x).cells 0 t
def decPCert : V → Cert
  | .ptr cs _ _ => decCert (.agg cs)
  | _ => default
@[simp] theorem dec_encPCert (t : Nat) (x : Cert) : decPCert (encPCert t x) = x := dec_encCert t x

structure Msg where
  kind : Int
  view : Int
  sender : Int
  slot : Int
  value : Int
  certs : List Cert
  refs : List Int
instance : Inhabited Msg := ⟨⟨0, 0, 0, 0, 0, [], []⟩⟩
noncomputable instance : DecidableEq Msg := fun _ _ => Classical.propDecidable _
def encMsg (t : Nat) (x : Msg) : V := .agg [.int .i64 (x.kind), .int .i64 (x.view), .int .i64 (x.sender), .int .i64 (x.slot), .int .i64 (x.value), encL (encCert 1) t (x.certs), encL encI t (x.refs)]
def decMsg : V → Msg
  | .agg [c0, c1, c2, c3, c4, c5, c6] => ⟨decI c0, decI c1, decI c2, decI c3, decI c4, (decL decCert) c5, (decL decI) c6⟩
  | _ => default
@[simp] theorem dec_encMsg (t : Nat) (x : Msg) : decMsg (encMsg t x) = x := by
  simp only [decMsg, encMsg, decI_int, decB_bool, decS_str, decL_encL (enc := (encCert 1)) (dec := decCert) (dec_encCert 1), decL_encL (enc := encI) (dec := decI) decI_encI]
/-- The bounds that the law's opening gives. -/
def Msg.bd (x : Msg) : Prop := (x.certs.length ≤ maxLen) ∧ (x.refs.length ≤ maxLen)
theorem eq_Msg {x y : Msg} : x = y ↔ x.kind = y.kind ∧ x.view = y.view ∧ x.sender = y.sender ∧ x.slot = y.slot ∧ x.value = y.value ∧ x.certs = y.certs ∧ x.refs = y.refs := by
  cases x; cases y; simp
theorem ele_Msg (t t' : Nat) (x : Msg) : ELe (encMsg t x) (encMsg t' x) := ele_of ⟨PLe.refl _, PLe.refl _, PLe.refl _, PLe.refl _, PLe.refl _, ple_encL _ _ _ _, ple_encL _ _ _ _, trivial⟩
theorem vle0_Msg (t : Nat) (x : Msg) : VLe (encMsg t x) (encMsg 0 x) := vle_agg ⟨VLe.refl _, VLe.refl _, VLe.refl _, VLe.refl _, VLe.refl _, vle_tag0 _ _ _, vle_tag0 _ _ _, trivial⟩
def encPMsg (t : Nat) (x : Msg) : V := .ptr (encMsg t x).cells 0 t
def decPMsg : V → Msg
  | .ptr cs _ _ => decMsg (.agg cs)
  | _ => default
@[simp] theorem dec_encPMsg (t : Nat) (x : Msg) : decPMsg (encPMsg t x) = x := dec_encMsg t x

structure IntResult where
  code : Int
  value : Int
instance : Inhabited IntResult := ⟨⟨0, 0⟩⟩
noncomputable instance : DecidableEq IntResult := fun _ _ => Classical.propDecidable _
def encIntResult (t : Nat) (x : IntResult) : V := .agg [.int .i64 (x.code), .int .i64 (x.value)]
def decIntResult : V → IntResult
  | .agg [c0, c1] => ⟨decI c0, decI c1⟩
  | _ => default
@[simp] theorem dec_encIntResult (t : Nat) (x : IntResult) : decIntResult (encIntResult t x) = x := by
  simp only [decIntResult, encIntResult, decI_int, decB_bool, decS_str]
theorem eq_IntResult {x y : IntResult} : x = y ↔ x.code = y.code ∧ x.value = y.value := by
  cases x; cases y; simp
theorem ele_IntResult (t t' : Nat) (x : IntResult) : ELe (encIntResult t x) (encIntResult t' x) := ele_of ⟨PLe.refl _, PLe.refl _, trivial⟩
theorem vle0_IntResult (t : Nat) (x : IntResult) : VLe (encIntResult t x) (encIntResult 0 x) := vle_agg ⟨VLe.refl _, VLe.refl _, trivial⟩
def encPIntResult (t : Nat) (x : IntResult) : V := .ptr (encIntResult t x).cells 0 t
def decPIntResult : V → IntResult
  | .ptr cs _ _ => decIntResult (.agg cs)
  | _ => default
@[simp] theorem dec_encPIntResult (t : Nat) (x : IntResult) : decPIntResult (encPIntResult t x) = x := dec_encIntResult t x

structure IntsResult where
  code : Int
  list : List Int
instance : Inhabited IntsResult := ⟨⟨0, []⟩⟩
noncomputable instance : DecidableEq IntsResult := fun _ _ => Classical.propDecidable _
def encIntsResult (t : Nat) (x : IntsResult) : V := .agg [.int .i64 (x.code), encL encI t (x.list)]
def decIntsResult : V → IntsResult
  | .agg [c0, c1] => ⟨decI c0, (decL decI) c1⟩
  | _ => default
@[simp] theorem dec_encIntsResult (t : Nat) (x : IntsResult) : decIntsResult (encIntsResult t x) = x := by
  simp only [decIntsResult, encIntsResult, decI_int, decB_bool, decS_str, decL_encL (enc := encI) (dec := decI) decI_encI]
/-- The bounds that the law's opening gives. -/
def IntsResult.bd (x : IntsResult) : Prop := (x.list.length ≤ maxLen)
theorem eq_IntsResult {x y : IntsResult} : x = y ↔ x.code = y.code ∧ x.list = y.list := by
  cases x; cases y; simp
theorem ele_IntsResult (t t' : Nat) (x : IntsResult) : ELe (encIntsResult t x) (encIntsResult t' x) := ele_of ⟨PLe.refl _, ple_encL _ _ _ _, trivial⟩
theorem vle0_IntsResult (t : Nat) (x : IntsResult) : VLe (encIntsResult t x) (encIntsResult 0 x) := vle_agg ⟨VLe.refl _, vle_tag0 _ _ _, trivial⟩
def encPIntsResult (t : Nat) (x : IntsResult) : V := .ptr (encIntsResult t x).cells 0 t
def decPIntsResult : V → IntsResult
  | .ptr cs _ _ => decIntsResult (.agg cs)
  | _ => default
@[simp] theorem dec_encPIntsResult (t : Nat) (x : IntsResult) : decPIntsResult (encPIntsResult t x) = x := dec_encIntsResult t x

structure TextResult where
  code : Int
  text : ByteArray
instance : Inhabited TextResult := ⟨⟨0, ByteArray.empty⟩⟩
noncomputable instance : DecidableEq TextResult := fun _ _ => Classical.propDecidable _
def encTextResult (t : Nat) (x : TextResult) : V := .agg [.int .i64 (x.code), .str (x.text)]
def decTextResult : V → TextResult
  | .agg [c0, c1] => ⟨decI c0, decS c1⟩
  | _ => default
@[simp] theorem dec_encTextResult (t : Nat) (x : TextResult) : decTextResult (encTextResult t x) = x := by
  simp only [decTextResult, encTextResult, decI_int, decB_bool, decS_str]
/-- The bounds that the law's opening gives. -/
def TextResult.bd (x : TextResult) : Prop := (x.text.size ≤ maxLen)
theorem eq_TextResult {x y : TextResult} : x = y ↔ x.code = y.code ∧ x.text = y.text := by
  cases x; cases y; simp
theorem ele_TextResult (t t' : Nat) (x : TextResult) : ELe (encTextResult t x) (encTextResult t' x) := ele_of ⟨PLe.refl _, PLe.refl _, trivial⟩
theorem vle0_TextResult (t : Nat) (x : TextResult) : VLe (encTextResult t x) (encTextResult 0 x) := vle_agg ⟨VLe.refl _, VLe.refl _, trivial⟩
def encPTextResult (t : Nat) (x : TextResult) : V := .ptr (encTextResult t x).cells 0 t
def decPTextResult : V → TextResult
  | .ptr cs _ _ => decTextResult (.agg cs)
  | _ => default
@[simp] theorem dec_encPTextResult (t : Nat) (x : TextResult) : decPTextResult (encPTextResult t x) = x := dec_encTextResult t x

structure CertsResult where
  code : Int
  certs : List Cert
instance : Inhabited CertsResult := ⟨⟨0, []⟩⟩
noncomputable instance : DecidableEq CertsResult := fun _ _ => Classical.propDecidable _
def encCertsResult (t : Nat) (x : CertsResult) : V := .agg [.int .i64 (x.code), encL (encCert 1) t (x.certs)]
def decCertsResult : V → CertsResult
  | .agg [c0, c1] => ⟨decI c0, (decL decCert) c1⟩
  | _ => default
@[simp] theorem dec_encCertsResult (t : Nat) (x : CertsResult) : decCertsResult (encCertsResult t x) = x := by
  simp only [decCertsResult, encCertsResult, decI_int, decB_bool, decS_str, decL_encL (enc := (encCert 1)) (dec := decCert) (dec_encCert 1)]
/-- The bounds that the law's opening gives. -/
def CertsResult.bd (x : CertsResult) : Prop := (x.certs.length ≤ maxLen)
theorem eq_CertsResult {x y : CertsResult} : x = y ↔ x.code = y.code ∧ x.certs = y.certs := by
  cases x; cases y; simp
theorem ele_CertsResult (t t' : Nat) (x : CertsResult) : ELe (encCertsResult t x) (encCertsResult t' x) := ele_of ⟨PLe.refl _, ple_encL _ _ _ _, trivial⟩
theorem vle0_CertsResult (t : Nat) (x : CertsResult) : VLe (encCertsResult t x) (encCertsResult 0 x) := vle_agg ⟨VLe.refl _, vle_tag0 _ _ _, trivial⟩
def encPCertsResult (t : Nat) (x : CertsResult) : V := .ptr (encCertsResult t x).cells 0 t
def decPCertsResult : V → CertsResult
  | .ptr cs _ _ => decCertsResult (.agg cs)
  | _ => default
@[simp] theorem dec_encPCertsResult (t : Nat) (x : CertsResult) : decPCertsResult (encPCertsResult t x) = x := dec_encCertsResult t x

structure Replica where
  id : Int
  view : Int
  start : Int
  done : Int
instance : Inhabited Replica := ⟨⟨0, 0, 0, 0⟩⟩
noncomputable instance : DecidableEq Replica := fun _ _ => Classical.propDecidable _
def encReplica (t : Nat) (x : Replica) : V := .agg [.int .i64 (x.id), .int .i64 (x.view), .int .i64 (x.start), .int .i64 (x.done)]
def decReplica : V → Replica
  | .agg [c0, c1, c2, c3] => ⟨decI c0, decI c1, decI c2, decI c3⟩
  | _ => default
@[simp] theorem dec_encReplica (t : Nat) (x : Replica) : decReplica (encReplica t x) = x := by
  simp only [decReplica, encReplica, decI_int, decB_bool, decS_str]
theorem eq_Replica {x y : Replica} : x = y ↔ x.id = y.id ∧ x.view = y.view ∧ x.start = y.start ∧ x.done = y.done := by
  cases x; cases y; simp
theorem ele_Replica (t t' : Nat) (x : Replica) : ELe (encReplica t x) (encReplica t' x) := ele_of ⟨PLe.refl _, PLe.refl _, PLe.refl _, PLe.refl _, trivial⟩
theorem vle0_Replica (t : Nat) (x : Replica) : VLe (encReplica t x) (encReplica 0 x) := vle_agg ⟨VLe.refl _, VLe.refl _, VLe.refl _, VLe.refl _, trivial⟩
def encPReplica (t : Nat) (x : Replica) : V := .ptr (encReplica t x).cells 0 t
def decPReplica : V → Replica
  | .ptr cs _ _ => decReplica (.agg cs)
  | _ => default
@[simp] theorem dec_encPReplica (t : Nat) (x : Replica) : decPReplica (encPReplica t x) = x := dec_encReplica t x

structure MsgResult where
  code : Int
  msg : Msg
instance : Inhabited MsgResult := ⟨⟨0, default⟩⟩
noncomputable instance : DecidableEq MsgResult := fun _ _ => Classical.propDecidable _
def encMsgResult (t : Nat) (x : MsgResult) : V := .agg [.int .i64 (x.code), .int .i64 (x.msg.kind), .int .i64 (x.msg.view), .int .i64 (x.msg.sender), .int .i64 (x.msg.slot), .int .i64 (x.msg.value), encL (encCert 1) t (x.msg.certs), encL encI t (x.msg.refs)]
def decMsgResult : V → MsgResult
  | .agg [c0, c1, c2, c3, c4, c5, c6, c7] => ⟨decI c0, ⟨decI c1, decI c2, decI c3, decI c4, decI c5, (decL decCert) c6, (decL decI) c7⟩⟩
  | _ => default
@[simp] theorem dec_encMsgResult (t : Nat) (x : MsgResult) : decMsgResult (encMsgResult t x) = x := by
  simp only [decMsgResult, encMsgResult, decI_int, decB_bool, decS_str, decL_encL (enc := (encCert 1)) (dec := decCert) (dec_encCert 1), decL_encL (enc := encI) (dec := decI) decI_encI]
/-- The bounds that the law's opening gives. -/
def MsgResult.bd (x : MsgResult) : Prop := (x.msg.bd)
theorem eq_MsgResult {x y : MsgResult} : x = y ↔ x.code = y.code ∧ x.msg = y.msg := by
  cases x; cases y; simp
theorem ele_MsgResult (t t' : Nat) (x : MsgResult) : ELe (encMsgResult t x) (encMsgResult t' x) := ele_of ⟨PLe.refl _, PLe.refl _, PLe.refl _, PLe.refl _, PLe.refl _, PLe.refl _, ple_encL _ _ _ _, ple_encL _ _ _ _, trivial⟩
theorem vle0_MsgResult (t : Nat) (x : MsgResult) : VLe (encMsgResult t x) (encMsgResult 0 x) := vle_agg ⟨VLe.refl _, VLe.refl _, VLe.refl _, VLe.refl _, VLe.refl _, VLe.refl _, vle_tag0 _ _ _, vle_tag0 _ _ _, trivial⟩
def encPMsgResult (t : Nat) (x : MsgResult) : V := .ptr (encMsgResult t x).cells 0 t
def decPMsgResult : V → MsgResult
  | .ptr cs _ _ => decMsgResult (.agg cs)
  | _ => default
@[simp] theorem dec_encPMsgResult (t : Nat) (x : MsgResult) : decPMsgResult (encPMsgResult t x) = x := dec_encMsgResult t x

structure LedgerResult where
  code : Int
  ledger : List Msg
instance : Inhabited LedgerResult := ⟨⟨0, []⟩⟩
noncomputable instance : DecidableEq LedgerResult := fun _ _ => Classical.propDecidable _
def encLedgerResult (t : Nat) (x : LedgerResult) : V := .agg [.int .i64 (x.code), encL (encMsg 1) t (x.ledger)]
def decLedgerResult : V → LedgerResult
  | .agg [c0, c1] => ⟨decI c0, (decL decMsg) c1⟩
  | _ => default
@[simp] theorem dec_encLedgerResult (t : Nat) (x : LedgerResult) : decLedgerResult (encLedgerResult t x) = x := by
  simp only [decLedgerResult, encLedgerResult, decI_int, decB_bool, decS_str, decL_encL (enc := (encMsg 1)) (dec := decMsg) (dec_encMsg 1)]
/-- The bounds that the law's opening gives. -/
def LedgerResult.bd (x : LedgerResult) : Prop := (x.ledger.length ≤ maxLen ∧ ∀ y ∈ x.ledger, y.bd)
theorem eq_LedgerResult {x y : LedgerResult} : x = y ↔ x.code = y.code ∧ x.ledger = y.ledger := by
  cases x; cases y; simp
theorem ele_LedgerResult (t t' : Nat) (x : LedgerResult) : ELe (encLedgerResult t x) (encLedgerResult t' x) := ele_of ⟨PLe.refl _, ple_encL _ _ _ _, trivial⟩
theorem vle0_LedgerResult (t : Nat) (x : LedgerResult) : VLe (encLedgerResult t x) (encLedgerResult 0 x) := vle_agg ⟨VLe.refl _, vle_tag0 _ _ _, trivial⟩
def encPLedgerResult (t : Nat) (x : LedgerResult) : V := .ptr (encLedgerResult t x).cells 0 t
def decPLedgerResult : V → LedgerResult
  | .ptr cs _ _ => decLedgerResult (.agg cs)
  | _ => default
@[simp] theorem dec_encPLedgerResult (t : Nat) (x : LedgerResult) : decPLedgerResult (encPLedgerResult t x) = x := dec_encLedgerResult t x

@[simp] theorem decL_ints (t : Nat) (xs : List Int) : decL decI (encL encI t xs) = xs := decL_encL decI_encI t xs
@[simp] theorem decL_strs (t : Nat) (xs : List ByteArray) : decL decS (encL encS t xs) = xs := decL_encL decS_encS t xs
@[simp] theorem decL_Cert (t : Nat) (xs : List Cert) : decL decCert (encL (encCert 1) t xs) = xs := decL_encL (dec_encCert 1) t xs
@[simp] theorem decL_Msg (t : Nat) (xs : List Msg) : decL decMsg (encL (encMsg 1) t xs) = xs := decL_encL (dec_encMsg 1) t xs
@[simp] theorem decL_IntResult (t : Nat) (xs : List IntResult) : decL decIntResult (encL (encIntResult 1) t xs) = xs := decL_encL (dec_encIntResult 1) t xs
@[simp] theorem decL_IntsResult (t : Nat) (xs : List IntsResult) : decL decIntsResult (encL (encIntsResult 1) t xs) = xs := decL_encL (dec_encIntsResult 1) t xs
@[simp] theorem decL_TextResult (t : Nat) (xs : List TextResult) : decL decTextResult (encL (encTextResult 1) t xs) = xs := decL_encL (dec_encTextResult 1) t xs
@[simp] theorem decL_CertsResult (t : Nat) (xs : List CertsResult) : decL decCertsResult (encL (encCertsResult 1) t xs) = xs := decL_encL (dec_encCertsResult 1) t xs
@[simp] theorem decL_Replica (t : Nat) (xs : List Replica) : decL decReplica (encL (encReplica 1) t xs) = xs := decL_encL (dec_encReplica 1) t xs
@[simp] theorem decL_MsgResult (t : Nat) (xs : List MsgResult) : decL decMsgResult (encL (encMsgResult 1) t xs) = xs := decL_encL (dec_encMsgResult 1) t xs
@[simp] theorem decL_LedgerResult (t : Nat) (xs : List LedgerResult) : decL decLedgerResult (encL (encLedgerResult 1) t xs) = xs := decL_encL (dec_encLedgerResult 1) t xs

end Go.Av
