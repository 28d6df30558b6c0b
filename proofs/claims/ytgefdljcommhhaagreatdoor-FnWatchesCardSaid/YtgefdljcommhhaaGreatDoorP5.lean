/- What is done to a tree keeps it short. -/
import Derived.Test.YtgefdljcommhhaaGreatDoorT7
namespace Go.Av
set_option linter.unusedVariables false
set_option linter.unusedSimpArgs false

def hasTop (l : List Znode) : Prop := ∃ z ∈ l, z.path = top
def keptT (l : List Znode) : Prop := l.length ≤ 20 ∧ longT l ∧ hasTop l
theorem hasTop.pos {l : List Znode} (h : hasTop l) : 0 < l.length := by
  obtain ⟨z, hz, _⟩ := h
  exact List.length_pos_of_mem hz
theorem hasTop.set {l : List Znode} {i : Nat} {x : Znode} (h : hasTop l) (hx : x.path = (atZ l i).path) : hasTop (l.set i x) := by
  obtain ⟨z, hz, ht⟩ := h
  obtain ⟨j, hj, rfl⟩ := mem_atZ hz
  by_cases e : j = i
  · subst e
    exact ⟨x, List.mem_set hj x, by rw [hx]; exact ht⟩
  · refine ⟨atZ l j, ?_, ht⟩
    have h1 : (l.set i x).getD j default = atZ l j := getD_set_ne _ _ _ _ e
    rw [← h1]
    exact atZ_mem (by rw [List.length_set]; exact hj)
theorem hasTop.put {l : List Znode} {x : Znode} (h : hasTop l) : hasTop (putZ l x) := by
  obtain ⟨z, hz, ht⟩ := h
  refine ⟨z, ?_, ht⟩
  unfold putZ
  rw [← List.take_append_drop (posZ l x.path) l] at hz
  rcases List.mem_append.1 hz with h1 | h1
  · exact List.mem_append.2 (Or.inl (by simpa using h1))
  · exact List.mem_append.2 (Or.inr (List.mem_cons_of_mem _ (by simpa using h1)))
theorem longT.mem {l out : List Znode} (h : longT l) (hm : ∀ z ∈ out, z ∈ l) : longT out := fun z hz => h z (hm z hz)
theorem longT.set {l : List Znode} {i : Nat} {x : Znode} (h : longT l) (hx : 0 < x.path.size ∧ x.path.size ≤ 1000 ∧ 0 ≤ x.version ∧ 0 ≤ x.next) : longT (l.set i x) := fun z hz => by
  rcases mem_set' hz with h1 | h1
  · exact h z h1
  · rw [h1]; exact hx
theorem longT.put {l : List Znode} {x : Znode} (h : longT l) (hx : 0 < x.path.size ∧ x.path.size ≤ 1000 ∧ 0 ≤ x.version ∧ 0 ≤ x.next) : longT (putZ l x) := fun z hz => by
  unfold putZ at hz
  rcases List.mem_append.1 hz with h1 | h1
  · exact h z (List.mem_of_mem_take h1)
  · rcases List.mem_cons.1 h1 with h2 | h2
    · rw [h2]; exact hx
    · exact h z (List.mem_of_mem_drop h2)
theorem placeF_kept {l out : List Znode} {p : ByteArray} {d o : Int} {x : ZResult} (hx : x = placeF l out p d o) (hc : x.code = 0) (ho : out.length = l.length) (hb : longT out) (hto : hasTop out) (hp : 0 < p.size ∧ p.size ≤ 1000) : keptT x.nodes := by
  unfold placeF at hx
  split at hx
  · rw [hx] at hc; cases hc
  split at hx
  · rw [hx] at hc; cases hc
  · rename_i h
    subst hx
    refine ⟨?_, hb.put ⟨hp.1, hp.2, Int.le_refl _, Int.le_refl _⟩, hto.put⟩
    show (putZ _ _).length ≤ 20
    rw [putZ_len]
    omega
theorem atZ_long {l : List Znode} (hb : longT l) {i : Nat} (h : i < l.length) : 0 < (atZ l i).path.size ∧ (atZ l i).path.size ≤ 1000 ∧ 0 ≤ (atZ l i).version ∧ 0 ≤ (atZ l i).next := hb _ (atZ_mem h)
theorem atN_in {l : List Znode} {p : ByteArray} (h : ¬ atN l p < 0) : (atN l p).toNat < l.length := by
  have h2 := idxF_lt (isPath p) l
  have h3 : idxF (isPath p) l = atN l p := rfl
  omega
theorem newZF_kept {l : List Znode} {p : ByteArray} {d o : Int} {s : Bool} {x : ZResult} (hx : x = newZF l p d o s) (hc : x.code = 0) (hk : keptT l) (hp : 0 < p.size ∧ p.size ≤ 1000) : keptT x.nodes := by
  unfold newZF at hx
  split at hx
  · rw [hx] at hc; cases hc
  split at hx
  · rw [hx] at hc; cases hc
  split at hx
  · rw [hx] at hc; cases hc
  rename_i h3
  split at hx
  · rw [hx] at hc; cases hc
  split at hx
  · exact placeF_kept hx hc rfl hk.2.1 hk.2.2 hp
  split at hx
  · rw [hx] at hc; cases hc
  split at hx
  · rw [hx] at hc; cases hc
  split at hx
  · rename_i h8
    rw [hx] at hc
    exact absurd hc h8
  · rename_i h8
    have h9 := path_size (Classical.not_not.1 h8)
    have h10 := headed_pos (path_headed (Classical.not_not.1 h8))
    have hz := atZ_long hk.2.1 (atN_in h3)
    refine placeF_kept hx hc (by unfold countF; rw [List.length_set]) (hk.2.1.set ⟨hz.1, hz.2.1, hz.2.2.1, ?_⟩) (hk.2.2.set rfl) ⟨h10.1, by omega⟩
    show 0 ≤ (atZ l (upN l p)).next + 1
    have : 0 ≤ (atZ l (upN l p)).next := hz.2.2.2
    omega
theorem setZF_kept {l : List Znode} {p : ByteArray} {d v : Int} {x : ZResult} (hx : x = setZF l p d v) (hc : x.code = 0) (hk : keptT l) : keptT x.nodes := by
  unfold setZF at hx
  split at hx
  · rw [hx] at hc; cases hc
  split at hx
  · rw [hx] at hc; cases hc
  rename_i h3
  split at hx
  · rw [hx] at hc; cases hc
  split at hx
  · rw [hx] at hc; cases hc
  · have hz := atZ_long hk.2.1 (atN_in h3)
    subst hx
    refine ⟨?_, hk.2.1.set ⟨hz.1, hz.2.1, ?_, hz.2.2.2⟩, hk.2.2.set rfl⟩
    · show (turnF _ _ _).length ≤ 20
      unfold turnF
      rw [List.length_set]
      exact hk.1
    · have := hz.2.2.1
      show 0 ≤ (atZ l (atN l p).toNat).version + 1
      omega
theorem delZF_kept {l : List Znode} {p : ByteArray} {v : Int} {x : ZResult} (hx : x = delZF l p v) (hc : x.code = 0) (hk : keptT l) : keptT x.nodes := by
  unfold delZF at hx
  split at hx
  · rw [hx] at hc; cases hc
  rename_i h0
  split at hx
  · rw [hx] at hc; cases hc
  rename_i h3
  split at hx
  · rw [hx] at hc; cases hc
  split at hx
  · rw [hx] at hc; cases hc
  · subst hx
    have h1 := hk.1
    have hi := atN_in h3
    have hat : atN l p = ((atN l p).toNat : Int) := by omega
    have hpa : (atZ l (atN l p).toNat).path = p := of_decide_eq_true (idxF_pre (q := isPath p) (xs := l) hat).2.1
    refine ⟨?_, hk.2.1.mem fun z hz => ?_, ?_⟩
    · show (_ ++ _ : List Znode).length ≤ 20
      rw [List.length_append, List.length_take, List.length_drop]
      omega
    · rcases List.mem_append.1 hz with h1 | h1
      · exact List.mem_of_mem_take h1
      · exact List.mem_of_mem_drop h1
    · obtain ⟨z, hz, ht⟩ := hk.2.2
      obtain ⟨j, hj, rfl⟩ := mem_atZ hz
      have hne : j ≠ (atN l p).toNat := fun e => by
        rw [← e, ht] at hpa
        exact h0 hpa.symm
      have hd := @del_getD l (atN l p).toNat hi
      have hlen : (l.take (atN l p).toNat ++ l.drop ((atN l p).toNat + 1)).length = l.length - 1 := by
        rw [List.length_append, List.length_take, List.length_drop]
        omega
      by_cases e : j < (atN l p).toNat
      · refine ⟨atZ l j, ?_, ht⟩
        have h2 := hd j
        rw [if_pos e] at h2
        show l.getD j default ∈ _
        rw [← h2]
        exact atZ_mem (by rw [hlen]; omega)
      · refine ⟨atZ l j, ?_, ht⟩
        have h2 := hd (j - 1)
        rw [if_neg (by omega)] at h2
        have e4 : j - 1 + 1 = j := by omega
        rw [e4] at h2
        show l.getD j default ∈ _
        rw [← h2]
        exact atZ_mem (by rw [hlen]; omega)

end Go.Av
