/- Texts and paths, plainly. -/
import Derived.Test.YtgefdljcommhhaaGreatDoorC2
import Derived.Lib.Bytealg
namespace Go.Av
set_option linter.unusedVariables false
set_option linter.unusedSimpArgs false

def inR (n lo hi : Int) : Prop := lo ≤ n ∧ n ≤ hi
instance (n lo hi : Int) : Decidable (inR n lo hi) := inferInstanceAs (Decidable (_ ∧ _))
def ba (l : List UInt8) : ByteArray := ⟨l.toArray⟩
@[simp] theorem ba_toList (l : List UInt8) : (ba l).data.toList = l := by simp [ba]
@[simp] theorem ba_data (s : ByteArray) : ba s.data.toList = s := by cases s; simp [ba]
theorem bytes_ext {a b : ByteArray} (h : a.data.toList = b.data.toList) : a = b := by rw [← ba_data a, ← ba_data b, h]
theorem size_len (s : ByteArray) : s.size = s.data.toList.length := by cases s; rfl
theorem ba_size (l : List UInt8) : (ba l).size = l.length := by rw [size_len, ba_toList]

theorem strEq_dec (a b : ByteArray) : strEq a b = decide (a = b) := by
  unfold strEq
  rw [Lib.toList_data, Lib.toList_data, Bool.eq_iff_iff, decide_eq_true_eq, beq_iff_eq]
  exact ⟨bytes_ext, fun h => by rw [h]⟩
theorem bless_dec : ∀ x y : List UInt8, Op.bytesLess x y = decide (x < y)
  | [], [] => by simp [Op.bytesLess]
  | _ :: _, [] => by simp [Op.bytesLess]
  | [], _ :: _ => by simp [Op.bytesLess]
  | a :: x, b :: y => by
    rw [Op.bytesLess, bless_dec x y, Bool.eq_iff_iff, decide_eq_true_eq, List.cons_lt_cons_iff]
    simp
def lt (a b : ByteArray) : Prop := a.data.toList < b.data.toList
noncomputable instance (a b : ByteArray) : Decidable (lt a b) := Classical.propDecidable _
theorem strLt_dec (a b : ByteArray) : strLt a b = decide (lt a b) := by
  unfold strLt
  rw [Lib.toList_data, Lib.toList_data, bless_dec, Bool.eq_iff_iff, decide_eq_true_eq, decide_eq_true_eq]
  exact Iff.rfl
theorem lt_irrefl (a : ByteArray) : ¬ lt a a := List.lt_irrefl _
theorem lt_trans {a b c : ByteArray} (h : lt a b) (g : lt b c) : lt a c := List.lt_trans h g
theorem lt_asymm {a b : ByteArray} (h : lt a b) : ¬ lt b a := fun g => lt_irrefl a (lt_trans h g)
theorem lt_total {a b : ByteArray} (h : ¬ lt a b) (g : ¬ lt b a) : a = b := bytes_ext (List.le_antisymm (List.not_lt.1 g) (List.not_lt.1 h))

theorem cmp_lt : ∀ a b : List UInt8, Lib.compareBytes a b < 0 ↔ a < b
  | [], [] => by simp [Lib.compareBytes]
  | [], _ :: _ => by simp [Lib.compareBytes]
  | _ :: _, [] => by simp [Lib.compareBytes]
  | a :: x, b :: y => by
    unfold Lib.compareBytes
    rw [List.cons_lt_cons_iff]
    by_cases h1 : a < b
    · simp [h1]
    · by_cases h2 : b < a
      · have : a ≠ b := fun e => by subst e; exact h1 h2
        simp [h1, h2, this]
      · have : a = b := UInt8.le_antisymm (UInt8.not_lt.1 h2) (UInt8.not_lt.1 h1)
        simp [h1, h2, this, cmp_lt x y]
theorem cmp_eq0 : ∀ a b : List UInt8, Lib.compareBytes a b = 0 ↔ a = b
  | [], [] => by simp [Lib.compareBytes]
  | [], _ :: _ => by simp [Lib.compareBytes]
  | _ :: _, [] => by simp [Lib.compareBytes]
  | a :: x, b :: y => by
    unfold Lib.compareBytes
    by_cases h1 : a < b
    · have : a ≠ b := fun e => by subst e; exact UInt8.lt_irrefl a h1
      simp [h1, this]
    · by_cases h2 : b < a
      · have : a ≠ b := fun e => by subst e; exact h1 h2
        simp [h1, h2, this]
      · have : a = b := UInt8.le_antisymm (UInt8.not_lt.1 h2) (UInt8.not_lt.1 h1)
        simp [h1, h2, this, cmp_eq0 x y]
def cmpF (a b : ByteArray) : Int := Lib.compareBytes a.data.toList b.data.toList
theorem cmpF_lt (a b : ByteArray) : cmpF a b < 0 ↔ lt a b := cmp_lt _ _
theorem cmpF_eq (a b : ByteArray) : cmpF a b = 0 ↔ a = b := (cmp_eq0 _ _).trans ⟨bytes_ext, fun h => by rw [h]⟩

theorem extract_list (s : ByteArray) (a b : Nat) : (s.extract a b).data.toList = (s.data.toList.drop a).take (b - a) := by
  rw [ByteArray.data_extract]
  simp [List.extract]
theorem byteAt_list (s : ByteArray) (i : Nat) (h : i < s.size) : byteAt s i = ((s.data.toList[i]'(by rw [← size_len]; exact h)).toNat : Int) := by
  unfold byteAt
  have h' : i < s.data.size := h
  have e : s.data.getD (i : Int).toNat 0 = s.data[i] := by
    rw [Int.toNat_natCast, Array.getD_eq_getD_getElem?, Array.getElem?_eq_getElem h', Option.getD_some]
  rw [e]
  simp
theorem byteAt_eq {s : ByteArray} {i : Nat} (h : i < s.size) (c : UInt8) : byteAt s i = (c.toNat : Int) ↔ s.data.toList[i]'(by rw [← size_len]; exact h) = c := by
  rw [byteAt_list s i h]
  constructor
  · intro e; exact UInt8.toNat_inj.1 (by omega)
  · intro e; rw [e]

/-! ### Cut at a byte -/
def cutL (c : UInt8) : List UInt8 → List (List UInt8)
  | [] => [[]]
  | x :: r => if x = c then [] :: cutL c r else match cutL c r with
    | p :: q => (x :: p) :: q
    | [] => [[x]]
theorem cutL_ne (c : UInt8) : ∀ l, cutL c l ≠ []
  | [] => by simp [cutL]
  | x :: r => by
    unfold cutL
    split
    · simp
    · split <;> simp
theorem cutL_pre {c : UInt8} : ∀ {p r : List UInt8}, c ∉ p → cutL c (p ++ c :: r) = p :: cutL c r
  | [], r, _ => by simp [cutL]
  | x :: p, r, h => by
    have h1 : x ≠ c := fun e => h (by simp [e])
    have h2 : c ∉ p := fun e => h (by simp [e])
    rw [List.cons_append, cutL, if_neg h1, cutL_pre h2]
theorem cutL_last {c : UInt8} : ∀ {p : List UInt8}, c ∉ p → cutL c p = [p]
  | [], _ => by simp [cutL]
  | x :: p, h => by
    have h1 : x ≠ c := fun e => h (by simp [e])
    have h2 : c ∉ p := fun e => h (by simp [e])
    rw [cutL, if_neg h1, cutL_last h2]
theorem cutL_len (c : UInt8) : ∀ l, (cutL c l).length = l.count c + 1
  | [] => by simp [cutL]
  | x :: r => by
    have ih := cutL_len c r
    unfold cutL
    by_cases h : x = c
    · subst h
      rw [if_pos rfl, List.count_cons_self, List.length_cons, ih]
    · rw [if_neg h, List.count_cons_of_ne (by simpa using h)]
      split
      · rename_i p q e; rw [e] at ih; simpa using ih
      · rename_i e; exact absurd e (cutL_ne c r)
theorem cut_at (c : UInt8) : ∀ l : List UInt8, (c ∉ l ∧ Lib.indexByte l c = -1) ∨ ∃ p r, l = p ++ c :: r ∧ c ∉ p ∧ Lib.indexByte l c = (p.length : Int)
  | [] => .inl ⟨by simp, rfl⟩
  | x :: l => by
    unfold Lib.indexByte
    by_cases h : x = c
    · subst h
      exact .inr ⟨[], l, rfl, by simp, by simp⟩
    · have hb : (x == c) = false := by simpa using h
      rcases cut_at c l with ⟨h1, h2⟩ | ⟨p, r, h1, h2, h3⟩
      · refine .inl ⟨by simp [h1, Ne.symm h], ?_⟩
        simp [hb, h2]
      · refine .inr ⟨x :: p, r, by rw [h1]; rfl, by simp [h2, Ne.symm h], ?_⟩
        have : ((p.length : Int) == -1) = false := by rw [beq_eq_false_iff_ne]; omega
        rw [h3]
        simp [hb, this]
noncomputable def cnt (s : ByteArray) : Nat := s.data.toList.count 47
def cutB (s : ByteArray) : List ByteArray := (cutL 47 s.data.toList).map ba
theorem cutB_len (s : ByteArray) : (cutB s).length = cnt s + 1 := by rw [cutB, List.length_map, cutL_len, cnt]

theorem cutB_pre {s : ByteArray} {p r : List UInt8} (h : s.data.toList = p ++ 47 :: r) (hp : 47 ∉ p) : cutB s = ba p :: cutB (ba r) := by
  unfold cutB
  rw [h, cutL_pre hp, List.map_cons, ba_toList]
theorem cutB_last {s : ByteArray} (h : 47 ∉ s.data.toList) : cutB s = [s] := by
  unfold cutB
  rw [cutL_last h]
  simp
theorem cutL_le (c : UInt8) : ∀ (l : List UInt8), ∀ p ∈ cutL c l, p.length ≤ l.length
  | [], p, h => by simp [cutL] at h; simp [h]
  | x :: r, p, h => by
    have ih := cutL_le c r
    unfold cutL at h
    split at h
    · rcases List.mem_cons.1 h with h | h
      · simp [h]
      · have := ih p h; simp; omega
    · split at h
      · rename_i q t e
        rcases List.mem_cons.1 h with h | h
        · have := ih q (by rw [e]; simp)
          rw [h]; simp; omega
        · have := ih p (by rw [e]; simp [h])
          simp; omega
      · simp at h; simp [h]
theorem cutB_le {s p : ByteArray} (h : p ∈ cutB s) : p.size ≤ s.size := by
  unfold cutB at h
  obtain ⟨l, h1, rfl⟩ := List.mem_map.1 h
  rw [ba_size, size_len]
  exact cutL_le _ _ _ h1
theorem set_take {α : Type} (x : α) : ∀ (a : List α) (i : Nat), i < a.length → (a.set i x).take (i + 1) = a.take i ++ [x]
  | [], _, h => by simp at h
  | y :: r, 0, _ => by simp
  | y :: r, i + 1, h => by
    have := set_take x r i (by simpa using h)
    simp [this]

theorem drop_split {l : List UInt8} {f i : Nat} (h : f ≤ i) (hi : i < l.length) : l.drop f = (l.drop f).take (i - f) ++ l[i] :: l.drop (i + 1) := by
  have h1 := (List.take_append_drop (i - f) (l.drop f)).symm
  rw [List.drop_drop, show f + (i - f) = i by omega, List.drop_eq_getElem_cons hi] at h1
  exact h1
/-- What is so at the head of the loop that cuts: so much is cut, from here on there is no mark yet. -/
def cutI (s : ByteArray) (f i : Nat) (out : List ByteArray) : Prop :=
  i ≤ s.size + 1 ∧ out.length ≤ i ∧ (i ≤ s.size → f ≤ i ∧ 47 ∉ (s.data.toList.drop f).take (i - f) ∧ out ++ (cutL 47 (s.data.toList.drop f)).map ba = cutB s) ∧ (i = s.size + 1 → out = cutB s)
theorem cutI_cut {s : ByteArray} {f i : Nat} {out : List ByteArray} (h : cutI s f i out) (hi : i ≤ s.size) (hb : i = s.size ∨ byteAt s i = 47) : cutI s (i + 1) (i + 1) (out ++ [s.extract f i]) := by
  obtain ⟨h1, h2, h3, h4⟩ := h
  obtain ⟨g1, g2, g3⟩ := h3 hi
  have hl := size_len s
  refine ⟨by omega, by simp; omega, fun h => ⟨Nat.le_refl _, by simp, ?_⟩, fun h => ?_⟩
  · have hlt : i < s.data.toList.length := by omega
    have hc : s.data.toList[i] = 47 := by
      rcases hb with hb | hb
      · omega
      · exact (byteAt_eq (by omega) 47).1 hb
    have e := drop_split g1 hlt
    rw [hc] at e
    rw [← g3, e, cutL_pre g2, List.append_assoc, List.map_cons, List.singleton_append]
    congr 2
    exact bytes_ext (by rw [extract_list, ba_toList])
  · have hi' : i = s.size := by omega
    have ht : (s.data.toList.drop f).take (i - f) = s.data.toList.drop f := List.take_of_length_le (by rw [List.length_drop]; omega)
    rw [ht] at g2
    rw [← g3, cutL_last g2]
    simp only [List.map_cons, List.map_nil]
    congr 2
    exact bytes_ext (by rw [extract_list, ba_toList, ht])
theorem cutI_go {s : ByteArray} {f i : Nat} {out : List ByteArray} (h : cutI s f i out) (hi : i < s.size) (hb : byteAt s i ≠ 47) : cutI s f (i + 1) out := by
  obtain ⟨h1, h2, h3, h4⟩ := h
  obtain ⟨g1, g2, g3⟩ := h3 (by omega)
  have hl := size_len s
  refine ⟨by omega, by omega, fun h => ⟨by omega, ?_, g3⟩, fun h => by omega⟩
  have hlt : i < s.data.toList.length := by omega
  have hc : s.data.toList[i] ≠ 47 := fun e => hb ((byteAt_eq (by omega) 47).2 e)
  have e : (s.data.toList.drop f).take (i + 1 - f) = (s.data.toList.drop f).take (i - f) ++ [s.data.toList[i]] := by
    rw [show i + 1 - f = (i - f) + 1 by omega]
    have hk : i - f < (s.data.toList.drop f).length := by rw [List.length_drop]; omega
    rw [List.take_succ_eq_append_getElem hk, List.getElem_drop]
    congr 3
    omega
  rw [e]
  intro hm
  rcases List.mem_append.1 hm with hm | hm
  · exact g2 hm
  · exact hc (by simp at hm; exact hm.symm)
theorem cutI_start (s : ByteArray) : cutI s 0 0 [] := ⟨by omega, by simp, fun _ => ⟨by omega, by simp, by simp [cutB]⟩, fun h => by omega⟩

/-! ### Names and paths -/
def nmCh (c : Int) : Prop := ¬ ((c < 97 ∨ 122 < c) ∧ (c < 48 ∨ 57 < c))
noncomputable instance (c : Int) : Decidable (nmCh c) := Classical.propDecidable _
def isNm (s : ByteArray) : Prop := (∀ i : Nat, i < s.size → nmCh (byteAt s i)) ∧ 1 ≤ s.size ∧ s.size ≤ 8
noncomputable instance (s : ByteArray) : Decidable (isNm s) := Classical.propDecidable _
abbrev nilB : ByteArray := ⟨#[]⟩
abbrev top : ByteArray := ⟨#[47]⟩
def pathOk (s : ByteArray) : Prop := 2 ≤ (cutB s).length ∧ (cutB s).getD 0 default = nilB ∧ ∀ p ∈ (cutB s).tail, isNm p
noncomputable instance (s : ByteArray) : Decidable (pathOk s) := Classical.propDecidable _
noncomputable def pathF (s : ByteArray) : Int := if 24 < s.size ∨ 4 < cnt s then 2 else if s = top ∨ pathOk s then 0 else 5
noncomputable def namesF (s : ByteArray) : List ByteArray := if s = top ∨ ¬ pathOk s then [] else (cutB s).tail
/-- A path begins with the mark. -/
def headed (s : ByteArray) : Prop := ∃ r, s.data.toList = 47 :: r
theorem path_headed {s : ByteArray} (h : pathF s = 0) : headed s := by
  unfold pathF at h
  split at h
  · cases h
  split at h
  · rename_i h1
    rcases h1 with h1 | h1
    · exact ⟨[], by rw [h1]⟩
    · obtain ⟨h2, h3, _⟩ := h1
      cases hl : s.data.toList with
      | nil => rw [cutB_len, cnt, hl] at h2; simp at h2
      | cons x r =>
        by_cases hx : x = 47
        · exact ⟨r, by rw [hl, hx]⟩
        · exfalso
          unfold cutB at h3
          rw [hl, cutL, if_neg hx] at h3
          cases hc : cutL 47 r with
          | nil => exact cutL_ne _ _ hc
          | cons p q =>
            rw [hc] at h3
            have := congrArg ByteArray.size h3
            rw [List.map_cons, List.getD_cons_zero, ba_size] at this
            exact absurd (show p.length + 1 = 0 from this) (by omega)
  · cases h
theorem path_size {s : ByteArray} (h : pathF s = 0) : s.size ≤ 24 := by
  unfold pathF at h
  split at h
  · cases h
  · omega
theorem headed_pos {s : ByteArray} (h : headed s) : 0 < s.size ∧ byteAt s 0 = 47 := by
  obtain ⟨r, h⟩ := h
  have h1 : 0 < s.size := by rw [size_len, h]; simp
  refine ⟨h1, ?_⟩
  have := (byteAt_eq h1 47).2 (by simp [h])
  simpa using this
theorem top_le {s : ByteArray} (h : headed s) : ¬ lt s top := by
  obtain ⟨r, h⟩ := h
  unfold lt
  rw [h]
  simp

/-- The place of the last mark in the first so many bytes; 0 if there is none. -/
def lastTo (s : ByteArray) : Nat → Nat
  | 0 => 0
  | i + 1 => if byteAt s i = 47 then i else lastTo s i
theorem lastTo_le (s : ByteArray) : ∀ i, lastTo s i ≤ i
  | 0 => Nat.le_refl _
  | i + 1 => by
    have := lastTo_le s i
    unfold lastTo
    split <;> omega
theorem lastTo_eq {s : ByteArray} {k : Nat} (hk : byteAt s k = 47) : ∀ n, k < n → (∀ j, k < j → j < n → byteAt s j ≠ 47) → lastTo s n = k
  | 0, h, _ => by omega
  | n + 1, h, hj => by
    unfold lastTo
    by_cases e : k = n
    · subst e; rw [if_pos hk]
    · rw [if_neg (hj n (by omega) (by omega))]
      exact lastTo_eq hk n (by omega) fun j h1 h2 => hj j h1 (by omega)
abbrev lastF (s : ByteArray) : Nat := lastTo s s.size
theorem lastTo_lt {s : ByteArray} : ∀ n, 0 < n → lastTo s n < n
  | 0, h => by omega
  | n + 1, _ => by
    unfold lastTo
    split
    · omega
    · have := lastTo_le s n; omega
def upF (s : ByteArray) : ByteArray := if lastF s = 0 then top else s.extract 0 (lastF s)
def nameF (s : ByteArray) : ByteArray := s.extract (lastF s + 1) s.size
theorem up_eq {s : ByteArray} (h : headed s) : s.extract 0 (max (lastF s) 1) = upF s := by
  unfold upF
  split
  · rename_i h0
    rw [h0]
    apply bytes_ext
    obtain ⟨r, h⟩ := h
    rw [extract_list, h]
    simp
  · rename_i h0
    congr 1
    omega
theorem extract_size (s : ByteArray) (a b : Nat) (h : a ≤ b) (hb : b ≤ s.size) : (s.extract a b).size = b - a := by
  rw [size_len, extract_list, List.length_take, List.length_drop, ← size_len]; omega
theorem up_headed {s : ByteArray} (h : headed s) : headed (upF s) := by
  rw [← up_eq h]
  obtain ⟨r, h⟩ := h
  refine ⟨r.take (max (lastF s) 1 - 1), ?_⟩
  rw [extract_list, h]
  have : max (lastF s) 1 - 0 = (max (lastF s) 1 - 1) + 1 := by omega
  rw [this, List.drop_zero, List.take_succ_cons]

end Go.Av
