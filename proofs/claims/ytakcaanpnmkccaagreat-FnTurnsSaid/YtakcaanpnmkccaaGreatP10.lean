/- What holds in a right ledger; changes of view and new views: plain functions on typed data. -/
import Derived.Test.YtakcaanpnmkccaaGreatM9
namespace Go.Av
set_option linter.unusedVariables false
set_option linter.unusedSimpArgs false

/-- What a right message is. -/
structure GoodM (f : Int) (m : Msg) : Prop where
  bare : bare m
  ranged : ranged f m
  few : few f m
  rc : riseC m.certs
  rr : riseR m.refs
  certs : ∀ c ∈ m.certs, goodC m c
  refs : ∀ r ∈ m.refs, goodR r

theorem goodM_of {f : Int} {m : Msg} (h : msgFault f m = 0) : GoodM f m := by
  unfold msgFault at h
  split at h
  · omega
  · rename_i h1
    split at h
    · omega
    · rename_i h2
      split at h
      · omega
      · rename_i h3
        unfold listsFault at h
        split at h
        · omega
        · rename_i h4
          split at h
          · omega
          · rename_i h5
            have h4 := Classical.not_not.1 h4
            have h5 := Classical.not_not.1 h5
            exact ⟨Classical.not_not.1 h1, Classical.not_not.1 h2, Classical.not_not.1 h3, h4.1, h4.2, h5.1, h5.2⟩

theorem Right.good {f : Int} {l : List Msg} (h : Right f l) {i : Nat} (hi : i < l.length) : GoodM f (l.getD i default) := goodM_of (entry_msg (h.entry i hi)).1
theorem Right.below {f : Int} {l : List Msg} (h : Right f l) {i : Nat} (hi : i < l.length) : ∀ r ∈ (l.getD i default).refs, 0 ≤ r ∧ r < i := fun r hr => by
  have h1 := (entry_msg (h.entry i hi)).2.1 r hr
  have h2 := (h.good hi).refs r hr
  unfold goodR inR at h2
  omega
theorem Right.memGood {f : Int} {l : List Msg} (h : Right f l) {m : Msg} (hm : m ∈ l) : GoodM f m := by
  obtain ⟨i, hi, rfl⟩ := List.getElem_of_mem hm
  have := h.good hi
  simpa [hi] using this

/-- Enough sent it. -/
def enough (f : Int) (l : List Msg) (kind : Int) (c : Cert) : Prop := 2 * f + 1 ≤ ((votesF f l kind c).length : Int)
noncomputable instance (f : Int) (l : List Msg) (k : Int) (c : Cert) : Decidable (enough f l k c) := Classical.propDecidable _

/-- The message at a place, if there is one. -/
def atM (l : List Msg) (k : Int) : Msg := l.getD k.toNat default
def inL (l : List Msg) (k : Int) : Prop := inR k 0 ((l.length : Int) - 1)
instance (l : List Msg) (k : Int) : Decidable (inL l k) := inferInstanceAs (Decidable (inR _ _ _))
def isAt (l : List Msg) (k kind : Int) : Prop := inL l k ∧ (atM l k).kind = kind
noncomputable instance (l : List Msg) (k kind : Int) : Decidable (isAt l k kind) := Classical.propDecidable _
noncomputable def ofM (l : List Msg) (k : Int) : Msg := if inL l k then atM l k else default

def changeOk (f : Int) (l : List Msg) (k : Int) : Prop := isAt l k 4 ∧ 0 < (atM l k).view ∧ ∀ c ∈ (atM l k).certs, enough f l 2 c
noncomputable instance (f : Int) (l : List Msg) (k : Int) : Decidable (changeOk f l k) := Classical.propDecidable _

def primaryF (f view : Int) : Int := 1 + view.tmod (3 * f + 1)

/-- Does a replica stand among those of some places? -/
def standsIn (l : List Msg) (places : List Int) (from_ : Int) : Prop := ∃ p ∈ places, (atM l p).sender = from_
noncomputable instance (l : List Msg) (ps : List Int) (k : Int) : Decidable (standsIn l ps k) := Classical.propDecidable _

def newEntry (f : Int) (l : List Msg) (m : Msg) (i : Nat) : Prop :=
  changeOk f l (m.refs.getD i default) ∧ (atM l (m.refs.getD i default)).view = m.view ∧ ¬ standsIn l (m.refs.take i) (atM l (m.refs.getD i default)).sender
noncomputable instance (f : Int) (l : List Msg) (m : Msg) (i : Nat) : Decidable (newEntry f l m i) := Classical.propDecidable _
def newOk (f : Int) (l : List Msg) (k : Int) : Prop :=
  isAt l k 5 ∧ 0 < (atM l k).view ∧ (atM l k).sender = primaryF f (atM l k).view ∧ 2 * f + 1 ≤ ((atM l k).refs.length : Int) ∧ ∀ i, i < (atM l k).refs.length → newEntry f l (atM l k) i
noncomputable instance (f : Int) (l : List Msg) (k : Int) : Decidable (newOk f l k) := Classical.propDecidable _

theorem atM_mem {l : List Msg} {k : Int} (h : inL l k) : atM l k ∈ l := by
  unfold inL inR at h
  unfold atM
  have : k.toNat < l.length := by omega
  simp [this]
theorem inL_lt {l : List Msg} {k : Int} (h : inL l k) : k.toNat < l.length := by unfold inL inR at h; omega

/-- In a right ledger the certificates of a message are what the program asks of them as well. -/
theorem certOk_iff {f : Int} {l : List Msg} (hr : Right f l) {m : Msg} (hm : m ∈ l) {c : Cert} (hc : c ∈ m.certs) : certOk f l c ↔ enough f l 2 c := by
  have hg := (hr.memGood hm).certs c hc
  have hv := (hr.memGood hm).ranged.1
  unfold goodC inR at hg
  unfold inR at hv
  unfold certOk enough
  rw [votes_eq hr (Or.inl rfl) c]
  unfold inR
  constructor
  · exact fun h => h.2.2.2
  · exact fun h => ⟨by omega, by omega, by omega, h⟩

end Go.Av
