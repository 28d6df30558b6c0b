/- The program's structs as typed data: encodings and decodings. Printed by wip/gen/types.py. -/
import Derived.Test.YtgefdljcommhhaaGreatDoorC1
namespace Go.Av
set_option linter.unusedVariables false
set_option linter.unusedSimpArgs false

structure Znode where
  path : ByteArray
  data : Int
  version : Int
  owner : Int
  next : Int
instance : Inhabited Znode := ⟨⟨ByteArray.empty, 0, 0, 0, 0⟩⟩
noncomputable instance : DecidableEq Znode := fun _ _ => Classical.propDecidable _
def encZnode (t : Nat) (x : Znode) : V := .agg [.str (x.path), .int .i64 (x.data), .int .i64 (x.version), .int .i64 (x.owner), .int .i64 (x.next)]
def decZnode : V → Znode
  | .agg [c0, c1, c2, c3, c4] => ⟨decS c0, decI c1, decI c2, decI c3, decI c4⟩
  | _ => default
@[simp] theorem dec_encZnode (t : Nat) (x : Znode) : decZnode (encZnode t x) = x := by
  simp only [decZnode, encZnode, decI_int, decB_bool, decS_str]
/-- The bounds that the law's opening gives. -/
def Znode.bd (x : Znode) : Prop := (x.path.size ≤ maxLen)
theorem eq_Znode {x y : Znode} : x = y ↔ x.path = y.path ∧ x.data = y.data ∧ x.version = y.version ∧ x.owner = y.owner ∧ x.next = y.next := by
  cases x; cases y; simp
theorem ele_Znode (t t' : Nat) (x : Znode) : ELe (encZnode t x) (encZnode t' x) := ele_of ⟨PLe.refl _, PLe.refl _, PLe.refl _, PLe.refl _, PLe.refl _, trivial⟩
theorem vle0_Znode (t : Nat) (x : Znode) : VLe (encZnode t x) (encZnode 0 x) := vle_agg ⟨VLe.refl _, VLe.refl _, VLe.refl _, VLe.refl _, VLe.refl _, trivial⟩
def encPZnode (t : Nat) (x : Znode) : V := .ptr (encZnode t x).cells 0 t
def decPZnode : V → Znode
  | .ptr cs _ _ => decZnode (.agg cs)
  | _ => default
@[simp] theorem dec_encPZnode (t : Nat) (x : Znode) : decPZnode (encPZnode t x) = x := dec_encZnode t x

structure Side where
  left : Bool
  sum : Int
instance : Inhabited Side := ⟨⟨false, 0⟩⟩
noncomputable instance : DecidableEq Side := fun _ _ => Classical.propDecidable _
def encSide (t : Nat) (x : Side) : V := .agg [.bool (x.left), .int .i64 (x.sum)]
def decSide : V → Side
  | .agg [c0, c1] => ⟨decB c0, decI c1⟩
  | _ => default
@[simp] theorem dec_encSide (t : Nat) (x : Side) : decSide (encSide t x) = x := by
  simp only [decSide, encSide, decI_int, decB_bool, decS_str]
theorem eq_Side {x y : Side} : x = y ↔ x.left = y.left ∧ x.sum = y.sum := by
  cases x; cases y; simp
theorem ele_Side (t t' : Nat) (x : Side) : ELe (encSide t x) (encSide t' x) := ele_of ⟨PLe.refl _, PLe.refl _, trivial⟩
theorem vle0_Side (t : Nat) (x : Side) : VLe (encSide t x) (encSide 0 x) := vle_agg ⟨VLe.refl _, VLe.refl _, trivial⟩
def encPSide (t : Nat) (x : Side) : V := .ptr (encSide t x).cells 0 t
def decPSide : V → Side
  | .ptr cs _ _ => decSide (.agg cs)
  | _ => default
@[simp] theorem dec_encPSide (t : Nat) (x : Side) : decPSide (encPSide t x) = x := dec_encSide t x

structure Session where
  id : Int
  upto : Int
instance : Inhabited Session := ⟨⟨0, 0⟩⟩
noncomputable instance : DecidableEq Session := fun _ _ => Classical.propDecidable _
def encSession (t : Nat) (x : Session) : V := .agg [.int .i64 (x.id), .int .i64 (x.upto)]
def decSession : V → Session
  | .agg [c0, c1] => ⟨decI c0, decI c1⟩
  | _ => default
@[simp] theorem dec_encSession (t : Nat) (x : Session) : decSession (encSession t x) = x := by
  simp only [decSession, encSession, decI_int, decB_bool, decS_str]
theorem eq_Session {x y : Session} : x = y ↔ x.id = y.id ∧ x.upto = y.upto := by
  cases x; cases y; simp
theorem ele_Session (t t' : Nat) (x : Session) : ELe (encSession t x) (encSession t' x) := ele_of ⟨PLe.refl _, PLe.refl _, trivial⟩
theorem vle0_Session (t : Nat) (x : Session) : VLe (encSession t x) (encSession 0 x) := vle_agg ⟨VLe.refl _, VLe.refl _, trivial⟩
def encPSession (t : Nat) (x : Session) : V := .ptr (encSession t x).cells 0 t
def decPSession : V → Session
  | .ptr cs _ _ => decSession (.agg cs)
  | _ => default
@[simp] theorem dec_encPSession (t : Nat) (x : Session) : decPSession (encPSession t x) = x := dec_encSession t x

structure TOp where
  kind : Int
  path : ByteArray
  data : Int
  version : Int
  seq : Bool
  own : Bool
instance : Inhabited TOp := ⟨⟨0, ByteArray.empty, 0, 0, false, false⟩⟩
noncomputable instance : DecidableEq TOp := fun _ _ => Classical.propDecidable _
def encTOp (t : Nat) (x : TOp) : V := .agg [.int .i64 (x.kind), .str (x.path), .int .i64 (x.data), .int .i64 (x.version), .bool (x.seq), .bool (x.own)]
def decTOp : V → TOp
  | .agg [c0, c1, c2, c3, c4, c5] => ⟨decI c0, decS c1, decI c2, decI c3, decB c4, decB c5⟩
  | _ => default
@[simp] theorem dec_encTOp (t : Nat) (x : TOp) : decTOp (encTOp t x) = x := by
  simp only [decTOp, encTOp, decI_int, decB_bool, decS_str]
/-- The bounds that the law's opening gives. -/
def TOp.bd (x : TOp) : Prop := (x.path.size ≤ maxLen)
theorem eq_TOp {x y : TOp} : x = y ↔ x.kind = y.kind ∧ x.path = y.path ∧ x.data = y.data ∧ x.version = y.version ∧ x.seq = y.seq ∧ x.own = y.own := by
  cases x; cases y; simp
theorem ele_TOp (t t' : Nat) (x : TOp) : ELe (encTOp t x) (encTOp t' x) := ele_of ⟨PLe.refl _, PLe.refl _, PLe.refl _, PLe.refl _, PLe.refl _, PLe.refl _, trivial⟩
theorem vle0_TOp (t : Nat) (x : TOp) : VLe (encTOp t x) (encTOp 0 x) := vle_agg ⟨VLe.refl _, VLe.refl _, VLe.refl _, VLe.refl _, VLe.refl _, VLe.refl _, trivial⟩
def encPTOp (t : Nat) (x : TOp) : V := .ptr (encTOp t x).cells 0 t
def decPTOp : V → TOp
  | .ptr cs _ _ => decTOp (.agg cs)
  | _ => default
@[simp] theorem dec_encPTOp (t : Nat) (x : TOp) : decPTOp (encPTOp t x) = x := dec_encTOp t x

structure Request where
  client : Int
  number : Int
  time : Int
  ops : List TOp
instance : Inhabited Request := ⟨⟨0, 0, 0, []⟩⟩
noncomputable instance : DecidableEq Request := fun _ _ => Classical.propDecidable _
def encRequest (t : Nat) (x : Request) : V := .agg [.int .i64 (x.client), .int .i64 (x.number), .int .i64 (x.time), encL (encTOp 1) t (x.ops)]
def decRequest : V → Request
  | .agg [c0, c1, c2, c3] => ⟨decI c0, decI c1, decI c2, (decL decTOp) c3⟩
  | _ => default
@[simp] theorem dec_encRequest (t : Nat) (x : Request) : decRequest (encRequest t x) = x := by
  simp only [decRequest, encRequest, decI_int, decB_bool, decS_str, decL_encL (enc := (encTOp 1)) (dec := decTOp) (dec_encTOp 1)]
/-- The bounds that the law's opening gives. -/
def Request.bd (x : Request) : Prop := (x.ops.length ≤ maxLen ∧ ∀ y ∈ x.ops, y.bd)
theorem eq_Request {x y : Request} : x = y ↔ x.client = y.client ∧ x.number = y.number ∧ x.time = y.time ∧ x.ops = y.ops := by
  cases x; cases y; simp
theorem ele_Request (t t' : Nat) (x : Request) : ELe (encRequest t x) (encRequest t' x) := ele_of ⟨PLe.refl _, PLe.refl _, PLe.refl _, ple_encL _ _ _ _, trivial⟩
theorem vle0_Request (t : Nat) (x : Request) : VLe (encRequest t x) (encRequest 0 x) := vle_agg ⟨VLe.refl _, VLe.refl _, VLe.refl _, vle_tag0 _ _ _, trivial⟩
def encPRequest (t : Nat) (x : Request) : V := .ptr (encRequest t x).cells 0 t
def decPRequest : V → Request
  | .ptr cs _ _ => decRequest (.agg cs)
  | _ => default
@[simp] theorem dec_encPRequest (t : Nat) (x : Request) : decPRequest (encPRequest t x) = x := dec_encRequest t x

structure Reply where
  code : Int
  value : Int
  path : ByteArray
instance : Inhabited Reply := ⟨⟨0, 0, ByteArray.empty⟩⟩
noncomputable instance : DecidableEq Reply := fun _ _ => Classical.propDecidable _
def encReply (t : Nat) (x : Reply) : V := .agg [.int .i64 (x.code), .int .i64 (x.value), .str (x.path)]
def decReply : V → Reply
  | .agg [c0, c1, c2] => ⟨decI c0, decI c1, decS c2⟩
  | _ => default
@[simp] theorem dec_encReply (t : Nat) (x : Reply) : decReply (encReply t x) = x := by
  simp only [decReply, encReply, decI_int, decB_bool, decS_str]
/-- The bounds that the law's opening gives. -/
def Reply.bd (x : Reply) : Prop := (x.path.size ≤ maxLen)
theorem eq_Reply {x y : Reply} : x = y ↔ x.code = y.code ∧ x.value = y.value ∧ x.path = y.path := by
  cases x; cases y; simp
theorem ele_Reply (t t' : Nat) (x : Reply) : ELe (encReply t x) (encReply t' x) := ele_of ⟨PLe.refl _, PLe.refl _, PLe.refl _, trivial⟩
theorem vle0_Reply (t : Nat) (x : Reply) : VLe (encReply t x) (encReply 0 x) := vle_agg ⟨VLe.refl _, VLe.refl _, VLe.refl _, trivial⟩
def encPReply (t : Nat) (x : Reply) : V := .ptr (encReply t x).cells 0 t
def decPReply : V → Reply
  | .ptr cs _ _ => decReply (.agg cs)
  | _ => default
@[simp] theorem dec_encPReply (t : Nat) (x : Reply) : decPReply (encPReply t x) = x := dec_encReply t x

structure TMark where
  client : Int
  number : Int
  reply : Reply
instance : Inhabited TMark := ⟨⟨0, 0, default⟩⟩
noncomputable instance : DecidableEq TMark := fun _ _ => Classical.propDecidable _
def encTMark (t : Nat) (x : TMark) : V := .agg [.int .i64 (x.client), .int .i64 (x.number), .int .i64 (x.reply.code), .int .i64 (x.reply.value), .str (x.reply.path)]
def decTMark : V → TMark
  | .agg [c0, c1, c2, c3, c4] => ⟨decI c0, decI c1, ⟨decI c2, decI c3, decS c4⟩⟩
  | _ => default
@[simp] theorem dec_encTMark (t : Nat) (x : TMark) : decTMark (encTMark t x) = x := by
  simp only [decTMark, encTMark, decI_int, decB_bool, decS_str]
/-- The bounds that the law's opening gives. -/
def TMark.bd (x : TMark) : Prop := (x.reply.bd)
theorem eq_TMark {x y : TMark} : x = y ↔ x.client = y.client ∧ x.number = y.number ∧ x.reply = y.reply := by
  cases x; cases y; simp
theorem ele_TMark (t t' : Nat) (x : TMark) : ELe (encTMark t x) (encTMark t' x) := ele_of ⟨PLe.refl _, PLe.refl _, PLe.refl _, PLe.refl _, PLe.refl _, trivial⟩
theorem vle0_TMark (t : Nat) (x : TMark) : VLe (encTMark t x) (encTMark 0 x) := vle_agg ⟨VLe.refl _, VLe.refl _, VLe.refl _, VLe.refl _, VLe.refl _, trivial⟩
def encPTMark (t : Nat) (x : TMark) : V := .ptr (encTMark t x).cells 0 t
def decPTMark : V → TMark
  | .ptr cs _ _ => decTMark (.agg cs)
  | _ => default
@[simp] theorem dec_encPTMark (t : Nat) (x : TMark) : decPTMark (encPTMark t x) = x := dec_encTMark t x

structure TState where
  nodes : List Znode
  sessions : List Session
  now : Int
  marks : List TMark
instance : Inhabited TState := ⟨⟨[], [], 0, []⟩⟩
noncomputable instance : DecidableEq TState := fun _ _ => Classical.propDecidable _
def encTState (t : Nat) (x : TState) : V := .agg [encL (encZnode 1) t (x.nodes), encL (encSession 1) t (x.sessions), .int .i64 (x.now), encL (encTMark 1) t (x.marks)]
def decTState : V → TState
  | .agg [c0, c1, c2, c3] => ⟨(decL decZnode) c0, (decL decSession) c1, decI c2, (decL decTMark) c3⟩
  | _ => default
@[simp] theorem dec_encTState (t : Nat) (x : TState) : decTState (encTState t x) = x := by
  simp only [decTState, encTState, decI_int, decB_bool, decS_str, decL_encL (enc := (encSession 1)) (dec := decSession) (dec_encSession 1), decL_encL (enc := (encTMark 1)) (dec := decTMark) (dec_encTMark 1), decL_encL (enc := (encZnode 1)) (dec := decZnode) (dec_encZnode 1)]
/-- The bounds that the law's opening gives. -/
def TState.bd (x : TState) : Prop := (x.nodes.length ≤ maxLen ∧ ∀ y ∈ x.nodes, y.bd) ∧ (x.sessions.length ≤ maxLen) ∧ (x.marks.length ≤ maxLen ∧ ∀ y ∈ x.marks, y.bd)
theorem eq_TState {x y : TState} : x = y ↔ x.nodes = y.nodes ∧ x.sessions = y.sessions ∧ x.now = y.now ∧ x.marks = y.marks := by
  cases x; cases y; simp
theorem ele_TState (t t' : Nat) (x : TState) : ELe (encTState t x) (encTState t' x) := ele_of ⟨ple_encL _ _ _ _, ple_encL _ _ _ _, PLe.refl _, ple_encL _ _ _ _, trivial⟩
theorem vle0_TState (t : Nat) (x : TState) : VLe (encTState t x) (encTState 0 x) := vle_agg ⟨vle_tag0 _ _ _, vle_tag0 _ _ _, VLe.refl _, vle_tag0 _ _ _, trivial⟩
def encPTState (t : Nat) (x : TState) : V := .ptr (encTState t x).cells 0 t
def decPTState : V → TState
  | .ptr cs _ _ => decTState (.agg cs)
  | _ => default
@[simp] theorem dec_encPTState (t : Nat) (x : TState) : decPTState (encPTState t x) = x := dec_encTState t x

structure Watch where
  client : Int
  path : ByteArray
instance : Inhabited Watch := ⟨⟨0, ByteArray.empty⟩⟩
noncomputable instance : DecidableEq Watch := fun _ _ => Classical.propDecidable _
def encWatch (t : Nat) (x : Watch) : V := .agg [.int .i64 (x.client), .str (x.path)]
def decWatch : V → Watch
  | .agg [c0, c1] => ⟨decI c0, decS c1⟩
  | _ => default
@[simp] theorem dec_encWatch (t : Nat) (x : Watch) : decWatch (encWatch t x) = x := by
  simp only [decWatch, encWatch, decI_int, decB_bool, decS_str]
/-- The bounds that the law's opening gives. -/
def Watch.bd (x : Watch) : Prop := (x.path.size ≤ maxLen)
theorem eq_Watch {x y : Watch} : x = y ↔ x.client = y.client ∧ x.path = y.path := by
  cases x; cases y; simp
theorem ele_Watch (t t' : Nat) (x : Watch) : ELe (encWatch t x) (encWatch t' x) := ele_of ⟨PLe.refl _, PLe.refl _, trivial⟩
theorem vle0_Watch (t : Nat) (x : Watch) : VLe (encWatch t x) (encWatch 0 x) := vle_agg ⟨VLe.refl _, VLe.refl _, trivial⟩
def encPWatch (t : Nat) (x : Watch) : V := .ptr (encWatch t x).cells 0 t
def decPWatch : V → Watch
  | .ptr cs _ _ => decWatch (.agg cs)
  | _ => default
@[simp] theorem dec_encPWatch (t : Nat) (x : Watch) : decPWatch (encPWatch t x) = x := dec_encWatch t x

structure TEvent where
  client : Int
  path : ByteArray
  kind : Int
instance : Inhabited TEvent := ⟨⟨0, ByteArray.empty, 0⟩⟩
noncomputable instance : DecidableEq TEvent := fun _ _ => Classical.propDecidable _
def encTEvent (t : Nat) (x : TEvent) : V := .agg [.int .i64 (x.client), .str (x.path), .int .i64 (x.kind)]
def decTEvent : V → TEvent
  | .agg [c0, c1, c2] => ⟨decI c0, decS c1, decI c2⟩
  | _ => default
@[simp] theorem dec_encTEvent (t : Nat) (x : TEvent) : decTEvent (encTEvent t x) = x := by
  simp only [decTEvent, encTEvent, decI_int, decB_bool, decS_str]
/-- The bounds that the law's opening gives. -/
def TEvent.bd (x : TEvent) : Prop := (x.path.size ≤ maxLen)
theorem eq_TEvent {x y : TEvent} : x = y ↔ x.client = y.client ∧ x.path = y.path ∧ x.kind = y.kind := by
  cases x; cases y; simp
theorem ele_TEvent (t t' : Nat) (x : TEvent) : ELe (encTEvent t x) (encTEvent t' x) := ele_of ⟨PLe.refl _, PLe.refl _, PLe.refl _, trivial⟩
theorem vle0_TEvent (t : Nat) (x : TEvent) : VLe (encTEvent t x) (encTEvent 0 x) := vle_agg ⟨VLe.refl _, VLe.refl _, VLe.refl _, trivial⟩
def encPTEvent (t : Nat) (x : TEvent) : V := .ptr (encTEvent t x).cells 0 t
def decPTEvent : V → TEvent
  | .ptr cs _ _ => decTEvent (.agg cs)
  | _ => default
@[simp] theorem dec_encPTEvent (t : Nat) (x : TEvent) : decPTEvent (encPTEvent t x) = x := dec_encTEvent t x

structure IntResult where
  code : Int
  value : Int
instance : Inhabited IntResult := ⟨⟨0, 0⟩⟩
noncomputable instance : DecidableEq IntResult := fun _ _ => Classical.propDecidable _
def encIntResult (t : Nat) (x : IntResult) : V := .agg [.int .i64 (x.code), .int .i64 (x.value)]
def decIntResult : V → IntResult
  | .agg [c0, c1] => ⟨decI c0, decI c1⟩
  | _ => default
@[simp] theorem dec_encIntResult (t : Nat) (x : IntResult) : decIntResult (encIntResult t x) = x := by
  simp only [decIntResult, encIntResult, decI_int, decB_bool, decS_str]
theorem eq_IntResult {x y : IntResult} : x = y ↔ x.code = y.code ∧ x.value = y.value := by
  cases x; cases y; simp
theorem ele_IntResult (t t' : Nat) (x : IntResult) : ELe (encIntResult t x) (encIntResult t' x) := ele_of ⟨PLe.refl _, PLe.refl _, trivial⟩
theorem vle0_IntResult (t : Nat) (x : IntResult) : VLe (encIntResult t x) (encIntResult 0 x) := vle_agg ⟨VLe.refl _, VLe.refl _, trivial⟩
def encPIntResult (t : Nat) (x : IntResult) : V := .ptr (encIntResult t x).cells 0 t
def decPIntResult : V → IntResult
  | .ptr cs _ _ => decIntResult (.agg cs)
  | _ => default
@[simp] theorem dec_encPIntResult (t : Nat) (x : IntResult) : decPIntResult (encPIntResult t x) = x := dec_encIntResult t x

structure TextResult where
  code : Int
  text : ByteArray
instance : Inhabited TextResult := ⟨⟨0, ByteArray.empty⟩⟩
noncomputable instance : DecidableEq TextResult := fun _ _ => Classical.propDecidable _
def encTextResult (t : Nat) (x : TextResult) : V := .agg [.int .i64 (x.code), .str (x.text)]
def decTextResult : V → TextResult
  | .agg [c0, c1] => ⟨decI c0, decS c1⟩
  | _ => default
@[simp] theorem dec_encTextResult (t : Nat) (x : TextResult) : decTextResult (encTextResult t x) = x := by
  simp only [decTextResult, encTextResult, decI_int, decB_bool, decS_str]
/-- The bounds that the law's opening gives. -/
def TextResult.bd (x : TextResult) : Prop := (x.text.size ≤ maxLen)
theorem eq_TextResult {x y : TextResult} : x = y ↔ x.code = y.code ∧ x.text = y.text := by
  cases x; cases y; simp
theorem ele_TextResult (t t' : Nat) (x : TextResult) : ELe (encTextResult t x) (encTextResult t' x) := ele_of ⟨PLe.refl _, PLe.refl _, trivial⟩
theorem vle0_TextResult (t : Nat) (x : TextResult) : VLe (encTextResult t x) (encTextResult 0 x) := vle_agg ⟨VLe.refl _, VLe.refl _, trivial⟩
def encPTextResult (t : Nat) (x : TextResult) : V := .ptr (encTextResult t x).cells 0 t
def decPTextResult : V → TextResult
  | .ptr cs _ _ => decTextResult (.agg cs)
  | _ => default
@[simp] theorem dec_encPTextResult (t : Nat) (x : TextResult) : decPTextResult (encPTextResult t x) = x := dec_encTextResult t x

structure TextsResult where
  code : Int
  texts : List ByteArray
instance : Inhabited TextsResult := ⟨⟨0, []⟩⟩
noncomputable instance : DecidableEq TextsResult := fun _ _ => Classical.propDecidable _
def encTextsResult (t : Nat) (x : TextsResult) : V := .agg [.int .i64 (x.code), encL encS t (x.texts)]
def decTextsResult : V → TextsResult
  | .agg [c0, c1] => ⟨decI c0, (decL decS) c1⟩
  | _ => default
@[simp] theorem dec_encTextsResult (t : Nat) (x : TextsResult) : decTextsResult (encTextsResult t x) = x := by
  simp only [decTextsResult, encTextsResult, decI_int, decB_bool, decS_str, decL_encL (enc := encS) (dec := decS) decS_encS]
/-- The bounds that the law's opening gives. -/
def TextsResult.bd (x : TextsResult) : Prop := (x.texts.length ≤ maxLen ∧ ∀ y ∈ x.texts, y.size ≤ maxLen)
theorem eq_TextsResult {x y : TextsResult} : x = y ↔ x.code = y.code ∧ x.texts = y.texts := by
  cases x; cases y; simp
theorem ele_TextsResult (t t' : Nat) (x : TextsResult) : ELe (encTextsResult t x) (encTextsResult t' x) := ele_of ⟨PLe.refl _, ple_encL _ _ _ _, trivial⟩
theorem vle0_TextsResult (t : Nat) (x : TextsResult) : VLe (encTextsResult t x) (encTextsResult 0 x) := vle_agg ⟨VLe.refl _, vle_tag0 _ _ _, trivial⟩
def encPTextsResult (t : Nat) (x : TextsResult) : V := .ptr (encTextsResult t x).cells 0 t
def decPTextsResult : V → TextsResult
  | .ptr cs _ _ => decTextsResult (.agg cs)
  | _ => default
@[simp] theorem dec_encPTextsResult (t : Nat) (x : TextsResult) : decPTextsResult (encPTextsResult t x) = x := dec_encTextsResult t x

structure ZResult where
  code : Int
  path : ByteArray
  nodes : List Znode
instance : Inhabited ZResult := ⟨⟨0, ByteArray.empty, []⟩⟩
noncomputable instance : DecidableEq ZResult := fun _ _ => Classical.propDecidable _
def encZResult (t : Nat) (x : ZResult) : V := .agg [.int .i64 (x.code), .str (x.path), encL (encZnode 1) t (x.nodes)]
def decZResult : V → ZResult
  | .agg [c0, c1, c2] => ⟨decI c0, decS c1, (decL decZnode) c2⟩
  | _ => default
@[simp] theorem dec_encZResult (t : Nat) (x : ZResult) : decZResult (encZResult t x) = x := by
  simp only [decZResult, encZResult, decI_int, decB_bool, decS_str, decL_encL (enc := (encZnode 1)) (dec := decZnode) (dec_encZnode 1)]
/-- The bounds that the law's opening gives. -/
def ZResult.bd (x : ZResult) : Prop := (x.path.size ≤ maxLen) ∧ (x.nodes.length ≤ maxLen ∧ ∀ y ∈ x.nodes, y.bd)
theorem eq_ZResult {x y : ZResult} : x = y ↔ x.code = y.code ∧ x.path = y.path ∧ x.nodes = y.nodes := by
  cases x; cases y; simp
theorem ele_ZResult (t t' : Nat) (x : ZResult) : ELe (encZResult t x) (encZResult t' x) := ele_of ⟨PLe.refl _, PLe.refl _, ple_encL _ _ _ _, trivial⟩
theorem vle0_ZResult (t : Nat) (x : ZResult) : VLe (encZResult t x) (encZResult 0 x) := vle_agg ⟨VLe.refl _, VLe.refl _, vle_tag0 _ _ _, trivial⟩
def encPZResult (t : Nat) (x : ZResult) : V := .ptr (encZResult t x).cells 0 t
def decPZResult : V → ZResult
  | .ptr cs _ _ => decZResult (.agg cs)
  | _ => default
@[simp] theorem dec_encPZResult (t : Nat) (x : ZResult) : decPZResult (encPZResult t x) = x := dec_encZResult t x

structure SessionsResult where
  code : Int
  sessions : List Session
instance : Inhabited SessionsResult := ⟨⟨0, []⟩⟩
noncomputable instance : DecidableEq SessionsResult := fun _ _ => Classical.propDecidable _
def encSessionsResult (t : Nat) (x : SessionsResult) : V := .agg [.int .i64 (x.code), encL (encSession 1) t (x.sessions)]
def decSessionsResult : V → SessionsResult
  | .agg [c0, c1] => ⟨decI c0, (decL decSession) c1⟩
  | _ => default
@[simp] theorem dec_encSessionsResult (t : Nat) (x : SessionsResult) : decSessionsResult (encSessionsResult t x) = x := by
  simp only [decSessionsResult, encSessionsResult, decI_int, decB_bool, decS_str, decL_encL (enc := (encSession 1)) (dec := decSession) (dec_encSession 1)]
/-- The bounds that the law's opening gives. -/
def SessionsResult.bd (x : SessionsResult) : Prop := (x.sessions.length ≤ maxLen)
theorem eq_SessionsResult {x y : SessionsResult} : x = y ↔ x.code = y.code ∧ x.sessions = y.sessions := by
  cases x; cases y; simp
theorem ele_SessionsResult (t t' : Nat) (x : SessionsResult) : ELe (encSessionsResult t x) (encSessionsResult t' x) := ele_of ⟨PLe.refl _, ple_encL _ _ _ _, trivial⟩
theorem vle0_SessionsResult (t : Nat) (x : SessionsResult) : VLe (encSessionsResult t x) (encSessionsResult 0 x) := vle_agg ⟨VLe.refl _, vle_tag0 _ _ _, trivial⟩
def encPSessionsResult (t : Nat) (x : SessionsResult) : V := .ptr (encSessionsResult t x).cells 0 t
def decPSessionsResult : V → SessionsResult
  | .ptr cs _ _ => decSessionsResult (.agg cs)
  | _ => default
@[simp] theorem dec_encPSessionsResult (t : Nat) (x : SessionsResult) : decPSessionsResult (encPSessionsResult t x) = x := dec_encSessionsResult t x

structure SplitResult where
  code : Int
  live : List Session
  over : List Int
instance : Inhabited SplitResult := ⟨⟨0, [], []⟩⟩
noncomputable instance : DecidableEq SplitResult := fun _ _ => Classical.propDecidable _
def encSplitResult (t : Nat) (x : SplitResult) : V := .agg [.int .i64 (x.code), encL (encSession 1) t (x.live), encL encI t (x.over)]
def decSplitResult : V → SplitResult
  | .agg [c0, c1, c2] => ⟨decI c0, (decL decSession) c1, (decL decI) c2⟩
  | _ => default
@[simp] theorem dec_encSplitResult (t : Nat) (x : SplitResult) : decSplitResult (encSplitResult t x) = x := by
  simp only [decSplitResult, encSplitResult, decI_int, decB_bool, decS_str, decL_encL (enc := (encSession 1)) (dec := decSession) (dec_encSession 1), decL_encL (enc := encI) (dec := decI) decI_encI]
/-- The bounds that the law's opening gives. -/
def SplitResult.bd (x : SplitResult) : Prop := (x.live.length ≤ maxLen) ∧ (x.over.length ≤ maxLen)
theorem eq_SplitResult {x y : SplitResult} : x = y ↔ x.code = y.code ∧ x.live = y.live ∧ x.over = y.over := by
  cases x; cases y; simp
theorem ele_SplitResult (t t' : Nat) (x : SplitResult) : ELe (encSplitResult t x) (encSplitResult t' x) := ele_of ⟨PLe.refl _, ple_encL _ _ _ _, ple_encL _ _ _ _, trivial⟩
theorem vle0_SplitResult (t : Nat) (x : SplitResult) : VLe (encSplitResult t x) (encSplitResult 0 x) := vle_agg ⟨VLe.refl _, vle_tag0 _ _ _, vle_tag0 _ _ _, trivial⟩
def encPSplitResult (t : Nat) (x : SplitResult) : V := .ptr (encSplitResult t x).cells 0 t
def decPSplitResult : V → SplitResult
  | .ptr cs _ _ => decSplitResult (.agg cs)
  | _ => default
@[simp] theorem dec_encPSplitResult (t : Nat) (x : SplitResult) : decPSplitResult (encPSplitResult t x) = x := dec_encSplitResult t x

structure StateResult where
  code : Int
  reply : Reply
  state : TState
instance : Inhabited StateResult := ⟨⟨0, default, default⟩⟩
noncomputable instance : DecidableEq StateResult := fun _ _ => Classical.propDecidable _
def encStateResult (t : Nat) (x : StateResult) : V := .agg [.int .i64 (x.code), .int .i64 (x.reply.code), .int .i64 (x.reply.value), .str (x.reply.path), encL (encZnode 1) t (x.state.nodes), encL (encSession 1) t (x.state.sessions), .int .i64 (x.state.now), encL (encTMark 1) t (x.state.marks)]
def decStateResult : V → StateResult
  | .agg [c0, c1, c2, c3, c4, c5, c6, c7] => ⟨decI c0, ⟨decI c1, decI c2, decS c3⟩, ⟨(decL decZnode) c4, (decL decSession) c5, decI c6, (decL decTMark) c7⟩⟩
  | _ => default
@[simp] theorem dec_encStateResult (t : Nat) (x : StateResult) : decStateResult (encStateResult t x) = x := by
  simp only [decStateResult, encStateResult, decI_int, decB_bool, decS_str, decL_encL (enc := (encSession 1)) (dec := decSession) (dec_encSession 1), decL_encL (enc := (encTMark 1)) (dec := decTMark) (dec_encTMark 1), decL_encL (enc := (encZnode 1)) (dec := decZnode) (dec_encZnode 1)]
/-- The bounds that the law's opening gives. -/
def StateResult.bd (x : StateResult) : Prop := (x.reply.bd) ∧ (x.state.bd)
theorem eq_StateResult {x y : StateResult} : x = y ↔ x.code = y.code ∧ x.reply = y.reply ∧ x.state = y.state := by
  cases x; cases y; simp
theorem ele_StateResult (t t' : Nat) (x : StateResult) : ELe (encStateResult t x) (encStateResult t' x) := ele_of ⟨PLe.refl _, PLe.refl _, PLe.refl _, PLe.refl _, ple_encL _ _ _ _, ple_encL _ _ _ _, PLe.refl _, ple_encL _ _ _ _, trivial⟩
theorem vle0_StateResult (t : Nat) (x : StateResult) : VLe (encStateResult t x) (encStateResult 0 x) := vle_agg ⟨VLe.refl _, VLe.refl _, VLe.refl _, VLe.refl _, vle_tag0 _ _ _, vle_tag0 _ _ _, VLe.refl _, vle_tag0 _ _ _, trivial⟩
def encPStateResult (t : Nat) (x : StateResult) : V := .ptr (encStateResult t x).cells 0 t
def decPStateResult : V → StateResult
  | .ptr cs _ _ => decStateResult (.agg cs)
  | _ => default
@[simp] theorem dec_encPStateResult (t : Nat) (x : StateResult) : decPStateResult (encPStateResult t x) = x := dec_encStateResult t x

structure ReplyResult where
  code : Int
  reply : Reply
instance : Inhabited ReplyResult := ⟨⟨0, default⟩⟩
noncomputable instance : DecidableEq ReplyResult := fun _ _ => Classical.propDecidable _
def encReplyResult (t : Nat) (x : ReplyResult) : V := .agg [.int .i64 (x.code), .int .i64 (x.reply.code), .int .i64 (x.reply.value), .str (x.reply.path)]
def decReplyResult : V → ReplyResult
  | .agg [c0, c1, c2, c3] => ⟨decI c0, ⟨decI c1, decI c2, decS c3⟩⟩
  | _ => default
@[simp] theorem dec_encReplyResult (t : Nat) (x : ReplyResult) : decReplyResult (encReplyResult t x) = x := by
  simp only [decReplyResult, encReplyResult, decI_int, decB_bool, decS_str]
/-- The bounds that the law's opening gives. -/
def ReplyResult.bd (x : ReplyResult) : Prop := (x.reply.bd)
theorem eq_ReplyResult {x y : ReplyResult} : x = y ↔ x.code = y.code ∧ x.reply = y.reply := by
  cases x; cases y; simp
theorem ele_ReplyResult (t t' : Nat) (x : ReplyResult) : ELe (encReplyResult t x) (encReplyResult t' x) := ele_of ⟨PLe.refl _, PLe.refl _, PLe.refl _, PLe.refl _, trivial⟩
theorem vle0_ReplyResult (t : Nat) (x : ReplyResult) : VLe (encReplyResult t x) (encReplyResult 0 x) := vle_agg ⟨VLe.refl _, VLe.refl _, VLe.refl _, VLe.refl _, trivial⟩
def encPReplyResult (t : Nat) (x : ReplyResult) : V := .ptr (encReplyResult t x).cells 0 t
def decPReplyResult : V → ReplyResult
  | .ptr cs _ _ => decReplyResult (.agg cs)
  | _ => default
@[simp] theorem dec_encPReplyResult (t : Nat) (x : ReplyResult) : decPReplyResult (encPReplyResult t x) = x := dec_encReplyResult t x

structure WatchResult where
  code : Int
  watches : List Watch
  events : List TEvent
instance : Inhabited WatchResult := ⟨⟨0, [], []⟩⟩
noncomputable instance : DecidableEq WatchResult := fun _ _ => Classical.propDecidable _
def encWatchResult (t : Nat) (x : WatchResult) : V := .agg [.int .i64 (x.code), encL (encWatch 1) t (x.watches), encL (encTEvent 1) t (x.events)]
def decWatchResult : V → WatchResult
  | .agg [c0, c1, c2] => ⟨decI c0, (decL decWatch) c1, (decL decTEvent) c2⟩
  | _ => default
@[simp] theorem dec_encWatchResult (t : Nat) (x : WatchResult) : decWatchResult (encWatchResult t x) = x := by
  simp only [decWatchResult, encWatchResult, decI_int, decB_bool, decS_str, decL_encL (enc := (encTEvent 1)) (dec := decTEvent) (dec_encTEvent 1), decL_encL (enc := (encWatch 1)) (dec := decWatch) (dec_encWatch 1)]
/-- The bounds that the law's opening gives. -/
def WatchResult.bd (x : WatchResult) : Prop := (x.watches.length ≤ maxLen ∧ ∀ y ∈ x.watches, y.bd) ∧ (x.events.length ≤ maxLen ∧ ∀ y ∈ x.events, y.bd)
theorem eq_WatchResult {x y : WatchResult} : x = y ↔ x.code = y.code ∧ x.watches = y.watches ∧ x.events = y.events := by
  cases x; cases y; simp
theorem ele_WatchResult (t t' : Nat) (x : WatchResult) : ELe (encWatchResult t x) (encWatchResult t' x) := ele_of ⟨PLe.refl _, ple_encL _ _ _ _, ple_encL _ _ _ _, trivial⟩
theorem vle0_WatchResult (t : Nat) (x : WatchResult) : VLe (encWatchResult t x) (encWatchResult 0 x) := vle_agg ⟨VLe.refl _, vle_tag0 _ _ _, vle_tag0 _ _ _, trivial⟩
def encPWatchResult (t : Nat) (x : WatchResult) : V := .ptr (encWatchResult t x).cells 0 t
def decPWatchResult : V → WatchResult
  | .ptr cs _ _ => decWatchResult (.agg cs)
  | _ => default
@[simp] theorem dec_encPWatchResult (t : Nat) (x : WatchResult) : decPWatchResult (encPWatchResult t x) = x := dec_encWatchResult t x

@[simp] theorem decL_ints (t : Nat) (xs : List Int) : decL decI (encL encI t xs) = xs := decL_encL decI_encI t xs
@[simp] theorem decL_strs (t : Nat) (xs : List ByteArray) : decL decS (encL encS t xs) = xs := decL_encL decS_encS t xs
@[simp] theorem decL_Znode (t : Nat) (xs : List Znode) : decL decZnode (encL (encZnode 1) t xs) = xs := decL_encL (dec_encZnode 1) t xs
@[simp] theorem decL_Side (t : Nat) (xs : List Side) : decL decSide (encL (encSide 1) t xs) = xs := decL_encL (dec_encSide 1) t xs
@[simp] theorem decL_Session (t : Nat) (xs : List Session) : decL decSession (encL (encSession 1) t xs) = xs := decL_encL (dec_encSession 1) t xs
@[simp] theorem decL_TOp (t : Nat) (xs : List TOp) : decL decTOp (encL (encTOp 1) t xs) = xs := decL_encL (dec_encTOp 1) t xs
@[simp] theorem decL_Request (t : Nat) (xs : List Request) : decL decRequest (encL (encRequest 1) t xs) = xs := decL_encL (dec_encRequest 1) t xs
@[simp] theorem decL_Reply (t : Nat) (xs : List Reply) : decL decReply (encL (encReply 1) t xs) = xs := decL_encL (dec_encReply 1) t xs
@[simp] theorem decL_TMark (t : Nat) (xs : List TMark) : decL decTMark (encL (encTMark 1) t xs) = xs := decL_encL (dec_encTMark 1) t xs
@[simp] theorem decL_TState (t : Nat) (xs : List TState) : decL decTState (encL (encTState 1) t xs) = xs := decL_encL (dec_encTState 1) t xs
@[simp] theorem decL_Watch (t : Nat) (xs : List Watch) : decL decWatch (encL (encWatch 1) t xs) = xs := decL_encL (dec_encWatch 1) t xs
@[simp] theorem decL_TEvent (t : Nat) (xs : List TEvent) : decL decTEvent (encL (encTEvent 1) t xs) = xs := decL_encL (dec_encTEvent 1) t xs
@[simp] theorem decL_IntResult (t : Nat) (xs : List IntResult) : decL decIntResult (encL (encIntResult 1) t xs) = xs := decL_encL (dec_encIntResult 1) t xs
@[simp] theorem decL_TextResult (t : Nat) (xs : List TextResult) : decL decTextResult (encL (encTextResult 1) t xs) = xs := decL_encL (dec_encTextResult 1) t xs
@[simp] theorem decL_TextsResult (t : Nat) (xs : List TextsResult) : decL decTextsResult (encL (encTextsResult 1) t xs) = xs := decL_encL (dec_encTextsResult 1) t xs
@[simp] theorem decL_ZResult (t : Nat) (xs : List ZResult) : decL decZResult (encL (encZResult 1) t xs) = xs := decL_encL (dec_encZResult 1) t xs
@[simp] theorem decL_SessionsResult (t : Nat) (xs : List SessionsResult) : decL decSessionsResult (encL (encSessionsResult 1) t xs) = xs := decL_encL (dec_encSessionsResult 1) t xs
@[simp] theorem decL_SplitResult (t : Nat) (xs : List SplitResult) : decL decSplitResult (encL (encSplitResult 1) t xs) = xs := decL_encL (dec_encSplitResult 1) t xs
@[simp] theorem decL_StateResult (t : Nat) (xs : List StateResult) : decL decStateResult (encL (encStateResult 1) t xs) = xs := decL_encL (dec_encStateResult 1) t xs
@[simp] theorem decL_ReplyResult (t : Nat) (xs : List ReplyResult) : decL decReplyResult (encL (encReplyResult 1) t xs) = xs := decL_encL (dec_encReplyResult 1) t xs
@[simp] theorem decL_WatchResult (t : Nat) (xs : List WatchResult) : decL decWatchResult (encL (encWatchResult 1) t xs) = xs := decL_encL (dec_encWatchResult 1) t xs

end Go.Av
