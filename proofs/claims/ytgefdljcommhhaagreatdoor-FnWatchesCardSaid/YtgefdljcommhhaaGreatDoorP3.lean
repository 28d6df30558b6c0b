/- Trees that something is done to, plainly. -/
import Derived.Test.YtgefdljcommhhaaGreatDoorP2
namespace Go.Av
set_option linter.unusedVariables false
set_option linter.unusedSimpArgs false

/-- A number below ten, as it is written. -/
def digT (n : Int) : ByteArray := bytesV 1 (rowg [.int .u8 (48 + n)])
theorem digT_size (n : Int) : (digT n).size = 1 := rfl
def seqT (s : ByteArray) (n : Int) : ByteArray := s ++ digT (n.tdiv 10) ++ digT (n.tmod 10)
def joinF (p s : ByteArray) : ByteArray := if p = top then top ++ s else p ++ top ++ s
noncomputable def putZ (l : List Znode) (z : Znode) : List Znode := l.take (posZ l z.path) ++ z :: l.drop (posZ l z.path)
theorem putZ_len (l : List Znode) (z : Znode) : (putZ l z).length = l.length + 1 := by
  have h : posZ l z.path ≤ l.length := posG_le
  unfold putZ
  rw [List.length_append, List.length_cons, List.length_take, List.length_drop]
  omega
/-- The place of the node above a path. -/
noncomputable def upN (l : List Znode) (p : ByteArray) : Nat := (atN l (upF p)).toNat
noncomputable def countF (l : List Znode) (i : Nat) : List Znode := l.set i ⟨(atZ l i).path, (atZ l i).data, (atZ l i).version, (atZ l i).owner, (atZ l i).next + 1⟩
noncomputable def placeF (l out : List Znode) (p : ByteArray) (data owner : Int) : ZResult :=
  if 0 ≤ atN l p then ⟨6, nilB, []⟩ else if 20 ≤ l.length then ⟨2, nilB, []⟩ else ⟨0, p, putZ out ⟨p, data, 0, owner, 0⟩⟩
noncomputable def newZF (l : List Znode) (p : ByteArray) (data owner : Int) (seq : Bool) : ZResult :=
  if ¬ (inR data 0 9999 ∧ inR owner 0 9) then ⟨3, nilB, []⟩
  else if p = top then ⟨1, nilB, []⟩
  else if atN l (upF p) < 0 then ⟨4, nilB, []⟩
  else if (atZ l (upN l p)).owner ≠ 0 then ⟨8, nilB, []⟩
  else if seq = false then placeF l l p data owner
  else if 100 ≤ (atZ l (upN l p)).next then ⟨3, nilB, []⟩
  else if ¬ isNm (seqT (nameF p) (atZ l (upN l p)).next) then ⟨5, nilB, []⟩
  else if pathF (joinF (upF p) (seqT (nameF p) (atZ l (upN l p)).next)) ≠ 0 then ⟨pathF (joinF (upF p) (seqT (nameF p) (atZ l (upN l p)).next)), nilB, []⟩
  else placeF l (countF l (upN l p)) (joinF (upF p) (seqT (nameF p) (atZ l (upN l p)).next)) data owner
noncomputable def turnF (l : List Znode) (i : Nat) (data : Int) : List Znode := l.set i ⟨(atZ l i).path, data, (atZ l i).version + 1, (atZ l i).owner, (atZ l i).next⟩
noncomputable def setZF (l : List Znode) (p : ByteArray) (data v : Int) : ZResult :=
  if ¬ inR data 0 9999 then ⟨3, nilB, []⟩
  else if atN l p < 0 then ⟨4, nilB, []⟩
  else if v ≠ -1 ∧ v ≠ (atZ l (atN l p).toNat).version then ⟨7, nilB, []⟩
  else if 999 ≤ (atZ l (atN l p).toNat).version then ⟨2, nilB, []⟩
  else ⟨0, nilB, turnF l (atN l p).toNat data⟩
noncomputable def kidsF (l : List Znode) (p : ByteArray) : List ByteArray := (l.filter fun z => decide (z.path ≠ top ∧ upF z.path = p)).map fun z => nameF z.path
noncomputable def delZF (l : List Znode) (p : ByteArray) (v : Int) : ZResult :=
  if p = top then ⟨1, nilB, []⟩
  else if atN l p < 0 then ⟨4, nilB, []⟩
  else if v ≠ -1 ∧ v ≠ (atZ l (atN l p).toNat).version then ⟨7, nilB, []⟩
  else if kidsF l p ≠ [] then ⟨8, nilB, []⟩
  else ⟨0, nilB, l.take (atN l p).toNat ++ l.drop ((atN l p).toNat + 1)⟩

/-- Nodes with short paths, and how many at the most. -/
def shortT (n k : Nat) (l : List Znode) : Prop := l.length ≤ n ∧ ∀ z ∈ l, z.path.size ≤ k
theorem newZF_len (l : List Znode) (p : ByteArray) (data owner : Int) (seq : Bool) : (newZF l p data owner seq).nodes.length ≤ l.length + 1 := by
  have hp : ∀ out q, out.length = l.length → (placeF l out q data owner).nodes.length ≤ l.length + 1 := by
    intro out q ho
    unfold placeF
    split
    · exact Nat.zero_le _
    split
    · exact Nat.zero_le _
    · show (putZ _ _).length ≤ _
      rw [putZ_len]
      omega
  unfold newZF
  repeat' split
  all_goals first | exact Nat.zero_le _ | exact hp _ _ rfl | exact hp _ _ (by unfold countF; rw [List.length_set])

end Go.Av
