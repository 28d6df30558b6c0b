/- A region whose order is drawn: the theorem. -/
import Derived.Test.YtnfelcpanphhlaaA6d
namespace Go.Av
set_option linter.unusedVariables false
set_option linter.unusedSimpArgs false

/-! ### What stands ahead of what -/
theorem closures_len : ∀ (r : List Oper) (acc : List (List Nat)) (j : Nat), j < acc.length → (closures r acc).getD j [] = acc.getD j []
  | [], _, _, _ => rfl
  | o :: r, acc, j, h => by
    simp only [closures]
    rw [closures_len r _ j (by simp; omega)]
    simp [List.getD, List.getElem?_append_left h]

theorem mem_undup {k : Nat} : ∀ {l : List Nat}, k ∈ undup l → k ∈ l
  | [], h => h
  | x :: r, h => by
    simp only [undup] at h
    split at h
    · exact List.mem_cons_of_mem _ (mem_undup h)
    · rcases List.mem_cons.1 h with rfl | h
      · exact List.mem_cons_self ..
      · exact List.mem_cons_of_mem _ (mem_undup h)

theorem closures_step : ∀ {r : List Oper} {acc : List (List Nat)} {i : Nat} {o : Oper}, r[i]? = some o → ∀ k ∈ (closures r acc).getD (acc.length + i) [],
    k ∈ edgesOf o ∨ ∃ j ∈ edgesOf o, k ∈ (closures r acc).getD j []
  | [], _, _, _, h, _, _ => by simp at h
  | o :: r, acc, 0, o', h, k, hk => by
    have ho : o = o' := by simpa using h
    subst ho
    simp only [closures] at hk ⊢
    rw [closures_len r _ _ (by simp)] at hk
    have e1 : (acc ++ [undup (edgesOf o ++ (edgesOf o).flatMap fun i => acc.getD i [])]).getD (acc.length + 0) [] = undup (edgesOf o ++ (edgesOf o).flatMap fun i => acc.getD i []) := by simp [List.getD]
    rw [e1] at hk
    rcases List.mem_append.1 (mem_undup hk) with hk | hk
    · exact .inl hk
    · obtain ⟨j, hj, hkj⟩ := List.mem_flatMap.1 hk
      refine .inr ⟨j, hj, ?_⟩
      have hlt : j < acc.length := by
        rcases Nat.lt_or_ge j acc.length with h | h
        · exact h
        · simp [List.getD, List.getElem?_eq_none h] at hkj
      rw [closures_len r _ _ (by simp; omega)]
      simpa [List.getD, List.getElem?_append_left hlt] using hkj
  | o :: r, acc, i + 1, o', h, k, hk => by
    simp only [closures] at hk ⊢
    refine closures_step (i := i) (by simpa using h) k ?_
    have : (acc ++ [undup (edgesOf o ++ (edgesOf o).flatMap fun i => acc.getD i [])]).length + i = acc.length + (i + 1) := by simp; omega
    rw [this]; exact hk

theorem edgesOf_mem {o : Oper} {e : Edge} (he : e ∈ o.after) (hb : Region.binds .any e = true) : e.on ∈ edgesOf o := by
  unfold edgesOf
  exact List.mem_filterMap.2 ⟨e, by simpa using he, by simp [hb]⟩

theorem edgesOf_from {o : Oper} {j : Nat} (h : j ∈ edgesOf o) : ∃ e ∈ o.after, Region.binds .any e = true ∧ e.on = j := by
  unfold edgesOf at h
  obtain ⟨e, he, hj⟩ := List.mem_filterMap.1 h
  refine ⟨e, by simpa using he, ?_⟩
  cases hb : Region.binds .any e with
  | true => rw [hb] at hj; exact ⟨rfl, by simpa using hj⟩
  | false => rw [hb] at hj; simp at hj

theorem backEdges_at : ∀ {r : List Oper} {k i : Nat} {o : Oper}, backEdges r k = true → r[i]? = some o → ∀ j ∈ edgesOf o, j < k + i
  | [], _, _, _, _, h, _, _ => by simp at h
  | o :: r, k, 0, o', h, ho, j, hj => by
    have ho : o = o' := by simpa using ho
    subst ho
    simp only [backEdges, Bool.and_eq_true] at h
    exact Nat.le_of_ble_eq_true (List.all_eq_true.1 h.1 j hj)
  | o :: r, k, i + 1, o', h, ho, j, hj => by
    simp only [backEdges, Bool.and_eq_true] at h
    have := backEdges_at (i := i) h.2 (by simpa using ho) j hj
    omega

/-! ### Pairs -/
theorem indepRow_at {nt : Nat} {ops : List Oper} {o : Oper} {e : Ef} {cl : List Nat} : ∀ {l : List (Oper × Ef)} {k j : Nat} {p : Oper × Ef}, indepRow nt ops o e cl l k = true → l[j]? = some p →
    k + j ∈ cl ∨ indep2 nt ops o e p.1 p.2 = true
  | [], _, _, _, _, h => by simp at h
  | q :: r, k, 0, p, h, hp => by
    have hp : q = p := by simpa using hp
    subst hp
    simp only [indepRow, Bool.and_eq_true, Bool.or_eq_true] at h
    rcases h.1 with h | h
    · exact .inl (mem_iff.1 h)
    · exact .inr h
  | q :: r, k, j + 1, p, h, hp => by
    simp only [indepRow, Bool.and_eq_true] at h
    have := indepRow_at (j := j) h.2 (by simpa using hp)
    rw [show k + (j + 1) = k + 1 + j by omega]; exact this

theorem indepAll_at {nt : Nat} {ops : List Oper} {cls : List (List Nat)} : ∀ {l past : List (Oper × Ef)} {i j : Nat} {p q : Oper × Ef}, indepAll nt ops cls past l past.length = true →
    (past ++ l)[i]? = some p → (past ++ l)[j]? = some q → past.length ≤ i → j < i → j ∈ cls.getD i [] ∨ indep2 nt ops p.1 p.2 q.1 q.2 = true
  | [], past, i, j, p, q, _, hp, _, hle, _ => by
    rw [List.append_nil, List.getElem?_eq_none hle] at hp; simp at hp
  | x :: l, past, i, j, p, q, h, hp, hq, hle, hlt => by
    simp only [indepAll, Bool.and_eq_true] at h
    rcases Nat.lt_or_ge past.length i with hi | hi
    · refine indepAll_at (past := past ++ [x]) (l := l) (i := i) (j := j) (by simpa using h.2) (by simpa using hp) (by simpa using hq) (by simp; omega) hlt
    · have hi : i = past.length := by omega
      subst hi
      have hx : x = p := by simpa using hp
      subst hx
      have hq' : past[j]? = some q := by rw [List.getElem?_append_left hlt] at hq; exact hq
      have := indepRow_at h.1 hq'
      rwa [Nat.zero_add] at this

theorem apartL_not : ∀ {l m : List Nat}, apartL l m = true → ∀ k ∈ l, k ∉ m
  | [], _, _, _, hk => by simp at hk
  | x :: r, m, h, k, hk => by
    simp only [apartL, Bool.and_eq_true] at h
    rcases List.mem_cons.1 hk with rfl | hk
    · exact mem_false.1 (by simpa using h.1)
    · exact apartL_not h.2 k hk

/-- What two operations that may stand in either order do not do to each other. -/
structure Free (nt : Nat) (ops : List Oper) (a : Oper) (ea : Ef) (b : Oper) (eb : Ef) : Prop where
  dd : ∀ d, a.dst = some d → b.dst ≠ some d
  ab : ∀ d, a.dst = some d → d ∉ looksOf ops b
  ba : ∀ d, b.dst = some d → d ∉ looksOf ops a
  uab : ∀ p ∈ ea.upd, p.1 ∉ eb.names
  uba : ∀ p ∈ eb.upd, p.1 ∉ ea.names
  sab : ∀ id ∈ eb.names, id / 64 ≠ dstN nt a + 1
  sba : ∀ id ∈ ea.names, id / 64 ≠ dstN nt b + 1

theorem Free.symm {nt : Nat} {ops : List Oper} {a b : Oper} {ea eb : Ef} (h : Free nt ops a ea b eb) : Free nt ops b eb a ea :=
  ⟨fun d hd he => h.dd d he hd, h.ba, h.ab, h.uba, h.uab, h.sba, h.sab⟩

theorem upd_names {e : Ef} {p : Nat × Option Blk} (h : p ∈ e.upd) : p.1 ∈ e.names := by
  unfold Ef.names
  exact List.mem_append.2 (.inr (List.mem_flatMap.2 ⟨p, h, List.mem_cons_self ..⟩))

theorem Free.apart {nt : Nat} {ops : List Oper} {a b : Oper} {ea eb : Ef} (h : Free nt ops a ea b eb) : Apart a ea b eb :=
  ⟨h.dd, fun p hp q hq he => h.uab p hp (he ▸ upd_names hq)⟩

theorem offSite_ne {nt : Nat} {o : Oper} {e : Ef} (h : offSite nt o e = true) : ∀ id ∈ e.names, id / 64 ≠ dstN nt o + 1 := by
  intro id hid he
  have := List.all_eq_true.1 h id hid
  rw [natBeq.2 he] at this
  simp at this

theorem free_of {nt : Nat} {ops : List Oper} {a b : Oper} {ea eb : Ef} (h : indep2 nt ops a ea b eb = true) : Free nt ops a ea b eb := by
  unfold indep2 at h
  simp only [Bool.and_eq_true] at h
  obtain ⟨⟨⟨⟨⟨h1, h2⟩, h3⟩, h4⟩, h5⟩, h6⟩ := h
  have ha : ∀ {o : Oper} {d : Nat}, o.dst = some d → d ∈ dstL o := fun hd => by unfold dstL; rw [hd]; simp
  exact
    { dd := fun d hd he => apartL_not h1 d (ha hd) (List.mem_append.2 (.inl (ha he)))
      ab := fun d hd hm => apartL_not h1 d (ha hd) (List.mem_append.2 (.inr hm))
      ba := fun d hd => apartL_not h2 d (ha hd)
      uab := fun p hp => apartL_not h3 p.1 (List.mem_map.2 ⟨p, hp, rfl⟩)
      uba := fun p hp => apartL_not h4 p.1 (List.mem_map.2 ⟨p, hp, rfl⟩)
      sab := offSite_ne h5
      sba := offSite_ne h6 }

/-! ### How many are not done -/
def undone (D : Nat → Bool) : Nat → Nat
  | 0 => 0
  | n + 1 => undone D n + if D n then 0 else 1

theorem undone_congr {D D' : Nat → Bool} : ∀ {n : Nat}, (∀ j, j < n → D j = D' j) → undone D n = undone D' n
  | 0, _ => rfl
  | n + 1, h => by simp only [undone]; rw [undone_congr fun j hj => h j (by omega), h n (by omega)]

theorem undone_set {D : Nat → Bool} {i : Nat} : ∀ {n : Nat}, i < n → D i = false → undone (fun x => D x || Nat.beq x i) n + 1 = undone D n
  | 0, h, _ => by omega
  | n + 1, h, hD => by
    simp only [undone]
    by_cases hi : i = n
    · subst hi
      rw [undone_congr (D' := D) fun j hj => by rw [natBeqF.2 (by omega : j ≠ i)]; simp]
      simp [hD, natBeq.2 rfl]
    · have := undone_set (D := D) (i := i) (n := n) (by omega) hD
      have hb : (D n || Nat.beq n i) = D n := by rw [natBeqF.2 (fun e => hi e.symm : n ≠ i), Bool.or_false]
      simp only [hb]
      omega

theorem undone_zero {D : Nat → Bool} : ∀ {n : Nat}, undone D n = 0 → ∀ j, j < n → D j = true
  | 0, _, j, h => by omega
  | n + 1, h, j, hj => by
    simp only [undone] at h
    by_cases hn : D n = true
    · rcases Nat.lt_or_ge j n with h' | h'
      · exact undone_zero (n := n) (by omega) j h'
      · rw [show j = n by omega]; exact hn
    · simp [hn] at h

section
variable {P : Program} {cx : Cx} (hT : TabOk P cx.tt) (hD : SoundAll P cx.D)

include hT hD in
theorem region_any {g : G} (hnt : cx.nt = g.nt) {ops : List Oper} {L : List (Oper × Ef)} {s0 : AS} {Q : Exit → Act → World → Prop}
    (hL : L.map (·.1) = ops) (hf : ∀ i p, L[i]? = some p → operE cx ops (foldD (fun j => decide (j < i)) L 0 s0) p.1 = some p.2 ∧ (∀ q ∈ p.2.ob, q) ∧ offSites cx.nt (ops.drop (i + 1)) p.2 = true)
    (hfresh : ∀ id, atSites (dstsOf cx.nt ops) id = true → FreshId s0 id) (hback : backEdges ops 0 = true) (hind : indepAll cx.nt ops (closures ops []) [] L 0 = true)
    (hQ : ∀ a w ι Fr, Rel g (foldD (fun _ => true) L 0 s0) a w ι Fr → Q .normal a w) :
    ∀ (fuel : Nat) (listed : Array Bool) (a : Act) (w : World) (ι : Iota) (Fr : Nat → Nat → Prop), listed.size = ops.length → undone (fun i => listed.getD i false) ops.length ≤ fuel →
      (∀ i, listed.getD i false = true → ∀ j ∈ (closures ops []).getD i [], listed.getD j false = true) →
      Rel g (foldD (fun i => listed.getD i false) L 0 s0) a w ι Fr → wpAny P .any ops.toArray Q fuel listed a w := by
  have hlen : L.length = ops.length := by rw [← hL, List.length_map]
  have hop : ∀ (i : Nat) (p : Oper × Ef), L[i]? = some p → ops[i]? = some p.1 := fun i p hp => by rw [← hL, List.getElem?_map, hp]; rfl
  have hready : ∀ listed : Array Bool, listed.size = ops.length → ∀ i, i ∈ Region.ready .any ops.toArray listed →
      ∃ p : Oper × Ef, L[i]? = some p ∧ listed.getD i false = false ∧ ∀ j ∈ edgesOf p.1, listed.getD j false = true := by
    intro listed hsz i hi
    unfold Region.ready at hi
    simp only [List.size_toArray, List.mem_filter, List.mem_range, Bool.and_eq_true] at hi
    obtain ⟨hlt, hnl, hall⟩ := hi
    have hi' : i < L.length := by omega
    refine ⟨L[i], List.getElem?_eq_getElem hi', ?_, ?_⟩
    · have : i < listed.size := by omega
      simp [Array.getD, this] at hnl ⊢
      exact hnl
    · intro j hj
      obtain ⟨e, he, hb, rfl⟩ := edgesOf_from hj
      have ho : ops.toArray[i]? = some L[i].1 := by rw [List.getElem?_toArray]; exact hop i _ (List.getElem?_eq_getElem hi')
      rw [ho] at hall
      simp only [Option.map_some, Option.getD_some] at hall
      have := (Array.all_eq_true_iff_forall_mem.1 hall) e he
      simpa [hb] using this
  have hempty : ∀ listed : Array Bool, listed.size = ops.length → Region.ready .any ops.toArray listed = [] → ∀ i, i < ops.length → listed.getD i false = true := by
    intro listed hsz hnil i
    induction i using Nat.strongRecOn with
    | _ i ih =>
      intro hi
      have hnot : i ∉ Region.ready .any ops.toArray listed := by rw [hnil]; simp
      have hi' : i < L.length := by omega
      have ho : ops[i]? = some L[i].1 := hop i _ (List.getElem?_eq_getElem hi')
      cases hd : listed.getD i false with
      | true => rfl
      | false =>
        refine absurd ?_ hnot
        unfold Region.ready
        simp only [List.size_toArray, List.mem_filter, List.mem_range, Bool.and_eq_true]
        have hsz' : i < listed.size := by omega
        refine ⟨hi, by simp [Array.getD, hsz'] at hd ⊢; exact hd, ?_⟩
        rw [List.getElem?_toArray, ho]
        simp only [Option.map_some, Option.getD_some]
        refine Array.all_eq_true_iff_forall_mem.2 fun e he => ?_
        cases hb : Region.binds .any e with
        | false => simp
        | true =>
          have hlt := backEdges_at hback ho e.on (edgesOf_mem he hb)
          have := ih e.on (by omega) (by omega)
          simp [this]
  have hall : ∀ listed : Array Bool, (∀ i, i < ops.length → listed.getD i false = true) → ∀ {a w ι Fr}, Rel g (foldD (fun i => listed.getD i false) L 0 s0) a w ι Fr → Q .normal a w := by
    intro listed h a w ι Fr hr
    rw [foldD_congr (D' := fun _ => true) fun j _ hj => h j (by omega)] at hr
    exact hQ _ _ _ _ hr
  intro fuel
  induction fuel with
  | zero =>
    intro listed a w ι Fr hsz hun hcl hr
    have hdone := undone_zero (Nat.le_zero.1 hun)
    refine ⟨?_, hall listed hdone hr⟩
    unfold Region.ready
    rw [List.filter_eq_nil_iff]
    intro i hi hc
    simp only [List.size_toArray, List.mem_range] at hi
    have := hdone i hi
    have hsz' : i < listed.size := by omega
    simp [Array.getD, hsz'] at this hc
    rw [this] at hc
    simp at hc
  | succ fuel ih =>
    intro listed a w ι Fr hsz hun hcl hr
    refine ⟨fun hnil => hall listed (hempty listed hsz hnil) hr, fun i hi => ?_⟩
    obtain ⟨p, hp, hnl, hed⟩ := hready listed hsz i hi
    have ho := hop i p hp
    have hi' : i < ops.length := (List.getElem?_eq_some_iff.1 ho).1
    have hcli : ∀ j ∈ (closures ops []).getD i [], listed.getD j false = true := by
      intro j hj
      rcases closures_step (acc := []) (i := i) ho j (by simpa using hj) with h | ⟨k, hk, hjk⟩
      · exact hed j h
      · exact hcl k (hed k hk) j hjk
    obtain ⟨hope, hob, hoff⟩ := hf i p hp
    -- the operations that stand otherwise than in the text
    have hfree : ∀ j q, L[j]? = some q → j ≠ i → listed.getD j false ≠ decide (j < i) → Free cx.nt ops p.1 p.2 q.1 q.2 := by
      intro j q hq hne hd
      cases hj : listed.getD j false with
      | true =>
        rw [hj] at hd
        have hlt : i < j := by
          rcases Nat.lt_or_ge j i with h | h
          · simp [h] at hd
          · omega
        rcases indepAll_at (past := []) (i := j) (j := i) hind (by simpa using hq) (by simpa using hp) (Nat.zero_le _) hlt with h | h
        · have := hcl j hj i h
          rw [hnl] at this; simp at this
        · exact (free_of h).symm
      | false =>
        rw [hj] at hd
        have hlt : j < i := by
          rcases Nat.lt_or_ge j i with h | h
          · exact h
          · exact absurd (by simp; omega) hd
        rcases indepAll_at (past := []) (i := i) (j := j) hind (by simpa using hp) (by simpa using hq) (Nat.zero_le _) hlt with h | h
        · have := hcli j h
          rw [hj] at this; simp at this
        · exact free_of h
    have hfree' : ∀ j q, L[j]? = some q → listed.getD (0 + j) false ≠ decide (0 + j < i) → Free cx.nt ops p.1 p.2 q.1 q.2 := by
      intro j q hq hd
      rw [Nat.zero_add] at hd
      refine hfree j q hq (fun e => ?_) hd
      subst e
      rw [hnl] at hd
      simp at hd
    have hope' : operE cx ops (foldD (fun j => listed.getD j false) L 0 s0) p.1 = some p.2 := by
      refine operE_local hope (fun t ht => ?_) fun id hid => ?_
      · exact foldD_T rfl fun j q hq hd he => (hfree' j q hq hd).ba t he ht
      · refine foldD_S rfl fun j q hq hd u hu he => (hfree' j q hq hd).uba u hu ?_
        rw [he]
        unfold Ef.names
        exact List.mem_append.2 (.inl (List.mem_append.2 (.inr hid)))
    have hfr : ∀ id, id / 64 = dstN cx.nt p.1 + 1 → FreshId (foldD (fun j => listed.getD j false) L 0 s0) id := by
      intro id hid
      refine foldD_fresh (hfresh id ?_) fun j q hq hd hm => ?_
      · unfold atSites
        rw [mem_iff, hid]
        have hdst : ∀ {l : List Oper} {o : Oper}, o ∈ l → dstN cx.nt o + 1 ∈ dstsOf cx.nt l := by
          intro l o hmem
          induction l with
          | nil => simp at hmem
          | cons x r ih =>
            simp only [dstsOf]
            rcases List.mem_cons.1 hmem with rfl | h
            · exact List.mem_cons_self ..
            · exact List.mem_cons_of_mem _ (ih h)
        exact hdst (List.mem_of_getElem? ho)
      · rw [Nat.zero_add] at hd
        have hne : j ≠ i := fun e => by subst e; rw [hnl] at hd; simp at hd
        rcases Nat.lt_or_ge j i with hlt | hge
        · have := (hf j q hq).2.2
          have hm' := List.all_eq_true.1 this id hm
          have hin : atSites (dstsOf cx.nt (ops.drop (j + 1))) id = true := by
            unfold atSites
            rw [mem_iff, hid]
            have hmem : p.1 ∈ ops.drop (j + 1) := by
              refine List.mem_of_getElem? (i := i - (j + 1)) ?_
              rw [List.getElem?_drop, show j + 1 + (i - (j + 1)) = i by omega]; exact ho
            generalize ops.drop (j + 1) = l at hmem
            induction l with
            | nil => simp at hmem
            | cons x r ih =>
              simp only [dstsOf]
              rcases List.mem_cons.1 hmem with rfl | h
              · exact List.mem_cons_self ..
              · exact List.mem_cons_of_mem _ (ih h)
          rw [hin] at hm'
          simp at hm'
        · refine (hfree j q hq hne ?_).sab id hm hid
          rw [hd]
          simp; omega
    have hset : ∀ x, (listed.setIfInBounds i true).getD x false = (listed.getD x false || Nat.beq x i) := by
      intro x
      have hii : i < listed.size := by omega
      rw [getD_set _ _ _ _ _ hii]
      by_cases hx : x = i
      · subst hx; simp [natBeq.2 rfl]
      · simp [hx, natBeqF.2 hx]
    have hsame := foldD_set (D := fun j => listed.getD j false) (o := p.1) (e := p.2) (i := i) (L := L) (k := 0) (j := i) (s := s0) (by omega) (by simpa using hp) hnl fun j q hq hlt hd => by
      rw [Nat.zero_add] at hlt hd
      exact (hfree j q hq (by omega) (by rw [hd]; simp; omega)).apart
    have hnext : ∀ a' w' ι' Fr', Rel g ((foldD (fun j => listed.getD j false) L 0 s0).app p.1.dst p.2) a' w' ι' Fr' → wpAny P .any ops.toArray Q fuel (listed.setIfInBounds i true) a' w' := by
      intro a' w' ι' Fr' hr'
      have hfun : (fun x => (listed.setIfInBounds i true).getD x false) = fun x => listed.getD x false || Nat.beq x i := funext hset
      refine ih (listed.setIfInBounds i true) a' w' ι' Fr' (by simpa using hsz) ?_ ?_ ?_
      · rw [hfun]
        have := undone_set (D := fun j => listed.getD j false) hi' hnl
        omega
      · intro x hx j hj
        rw [hset] at hx ⊢
        rw [Bool.or_eq_true] at hx ⊢
        rcases hx with hx | hx
        · exact .inl (hcl x hx j hj)
        · have := natBeq.1 hx
          subst this
          exact .inl (hcli j hj)
      · rw [hfun]
        exact hr'.congr (fun t => hsame.1 t) fun id => hsame.2 id
    have := oper_sim hT hD hr (ops := ops) hnt hfr hope' hob (next := wpAny P .any ops.toArray Q fuel (listed.setIfInBounds i true)) (Q := Q) hnext
    unfold wpOp
    rw [List.getElem?_toArray, ho]
    simp only []
    split
    · rename_i hw
      rw [hw, if_pos rfl] at this
      exact .inl this
    · rename_i hw
      rw [if_neg hw] at this
      exact this

end
end Go.Av
