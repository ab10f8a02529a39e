/- gc, plain: words, whether a heap is right, copies, and what is alike. -/
import Derived.Test.YtonkfcfpfpaceaaG1
import Derived.Test.YtonkfcfpfpaceaaMA1
namespace Go.Proofs.Ytonkfcfpfpaceaa.Q
open Go.RowKit Go.Proofs.YtonkfcfpfpaceaaW.PrintWords Go.Proofs.Ytonkfcfpfpaceaa.A.P
set_option linter.unusedVariables false
set_option linter.unusedSimpArgs false
theorem wr {x : Int} (h0 : -9223372036854775808 ≤ x) (h1 : x ≤ 9223372036854775807) : wrap64 x = x := by unfold wrap64; omega
def wsum (l : List S37) : Nat := (l.map (fun x => x.f1.length)).sum
/-- What a list that came in is bounded by. -/
structure Good (l : List S37) : Prop where
  len : l.length ≤ 3518437208830
  each : ∀ x ∈ l, x.f1.length ≤ 8796093021952
theorem wsum_nil : wsum [] = 0 := rfl
theorem wsum_append (a b : List S37) : wsum (a ++ b) = wsum a + wsum b := by simp [wsum]
theorem wsum_one (x : S37) : wsum [x] = x.f1.length := by simp [wsum]
theorem wsum_succ (l : List S37) (i : Nat) (h : i < l.length) : wsum (l.take (i + 1)) = wsum (l.take i) + l[i].f1.length := by
  rw [List.take_succ_eq_append_getElem h, wsum_append, wsum_one]
theorem wsum_take_le (l : List S37) (i : Nat) : wsum (l.take i) ≤ wsum l := by
  have := wsum_append (l.take i) (l.drop i)
  rw [List.take_append_drop] at this
  omega
theorem wsum_mem {l : List S37} {x : S37} (h : x ∈ l) : x.f1.length ≤ wsum l := by
  obtain ⟨i, hi, rfl⟩ := List.mem_iff_getElem.1 h
  have := wsum_succ l i hi
  have := wsum_take_le l (i + 1)
  omega
theorem wsum_bound {l : List S37} (hg : Good l) : ∀ i, i ≤ l.length → wsum (l.take i) ≤ i * 8796093021952
  | 0, _ => by simp [wsum]
  | i + 1, h => by
    rw [wsum_succ l i (by omega)]
    have := wsum_bound hg i (by omega)
    have := hg.each l[i] (List.getElem_mem _)
    omega
theorem rdi (l : List S37) (i : Nat) (h : i < l.length) : rd_T37 l (i : Int) = l[i] := by simp [rd_T37, List.getD_eq_getElem?_getD, List.getElem?_eq_getElem h]
theorem words_l0 {l : List S37} (hg : Good l) (hl : l.length ≤ 5000) : ∀ (d k i : Nat), l.length - i = d → i ≤ l.length → d < k → heap_Words.l0 k (wsum (l.take i)) l l.length i = some (wsum l : Int) := by
  intro d
  induction d with
  | zero =>
    intro k i hd hi hk
    obtain ⟨k, rfl⟩ : ∃ m, k = m + 1 := ⟨k - 1, by omega⟩
    simp only [heap_Words.l0]
    rw [if_neg (by omega), List.take_of_length_le (by omega)]
  | succ d ih =>
    intro k i hd hi hk
    obtain ⟨k, rfl⟩ : ∃ m, k = m + 1 := ⟨k - 1, by omega⟩
    have hlt : i < l.length := by omega
    have hb := wsum_bound hg (i + 1) (by omega)
    have hs := wsum_succ l i hlt
    have := ih k (i + 1) (by omega) (by omega) (by omega)
    simp only [heap_Words.l0]
    rw [if_pos (by omega), if_pos (by omega), if_pos (by omega), rdi l i hlt, wr (by omega) (by omega), wr (by omega) (by omega)]
    rw [hs] at this
    simpa using this
theorem words_f {l : List S37} (hg : Good l) (hl : l.length ≤ 5000) {k : Nat} (hk : l.length < k) : heap_Words.f k l = some (wsum l : Int) := by
  have := words_l0 hg hl l.length k 0 (by omega) (by omega) hk
  simpa [heap_Words.f, wsum] using this
theorem rwords_l0 {l : List S37} (hg : Good l) (hl : l.length ≤ 5000) : ∀ (d k i : Nat), l.length - i = d → i ≤ l.length → d < k → larchref15_Words.l0 k l (wsum (l.take i)) i = some (wsum l : Int) := by
  intro d
  induction d with
  | zero =>
    intro k i hd hi hk
    obtain ⟨k, rfl⟩ : ∃ m, k = m + 1 := ⟨k - 1, by omega⟩
    simp only [larchref15_Words.l0]
    rw [if_neg (by omega), List.take_of_length_le (by omega)]
  | succ d ih =>
    intro k i hd hi hk
    obtain ⟨k, rfl⟩ : ∃ m, k = m + 1 := ⟨k - 1, by omega⟩
    have hlt : i < l.length := by omega
    have hb := wsum_bound hg (i + 1) (by omega)
    have hs := wsum_succ l i hlt
    have := ih k (i + 1) (by omega) (by omega) (by omega)
    simp only [larchref15_Words.l0]
    rw [if_pos (by omega), if_pos (by omega), rdi l i hlt, wr (by omega) (by omega), wr (by omega) (by omega)]
    rw [hs] at this
    simpa using this
theorem rwords_f {l : List S37} (hg : Good l) (hl : l.length ≤ 5000) {k : Nat} (hk : l.length < k) : larchref15_Words.f k l = some (wsum l : Int) := by
  have := rwords_l0 hg hl l.length k 0 (by omega) (by omega) hk
  simpa [larchref15_Words.f, wsum] using this
/-- Is a heap right? -/
def bad (l : List S37) : Bool := decide (4096 < l.length) || decide (65536 < wsum l) || (decide (0 < l.length) && isFree (rd_T37 l ((l.length : Int) - 1))) || l.any isOdd
def chk (l : List S37) : Int := if bad l then 150 else 0
theorem check_f {l : List S37} (hg : Good l) : heap_Check.f l = some (chk l) := by
  unfold heap_Check.f chk bad
  by_cases h1 : 4096 < l.length
  · simp [h1]
  · rw [if_neg h1, words_f hg (by omega) (by omega)]
    simp only [Option.bind_some]
    by_cases h2 : 65536 < wsum l
    · rw [if_pos (by omega)]; simp [h2]
    · rw [if_neg (by omega)]
      by_cases h3 : l.length = 0
      · have : l = [] := List.eq_nil_of_length_eq_zero h3
        subst this
        simp [wsum]
      · rw [if_neg h3]
        have h4 : 0 < l.length := by omega
        cases h5 : isFree (rd_T37 l ((l.length : Int) - 1)) <;> cases h6 : l.any isOdd <;> simp [h1, h2, h4, h5, h6]
theorem isFree_eq (x : S37) : isFree x = (x.f0.toList == ([] : List UInt8)) := rfl
theorem isFree_iff (x : S37) : isFree x = true ↔ x.f0.toList = ([] : List UInt8) := by unfold isFree; exact beq_iff_eq
theorem rcheck_l0 {l : List S37} (hl : l.length ≤ 5000) : ∀ (d k i : Nat), l.length - i = d → i ≤ l.length → d < k → larchref15_Check.l0 k l i = some (if (l.drop i).any isOdd then 150 else 0) := by
  intro d
  induction d with
  | zero =>
    intro k i hd hi hk
    obtain ⟨k, rfl⟩ : ∃ m, k = m + 1 := ⟨k - 1, by omega⟩
    simp only [larchref15_Check.l0]
    rw [if_neg (by omega), List.drop_of_length_le (by omega)]
    simp
  | succ d ih =>
    intro k i hd hi hk
    obtain ⟨k, rfl⟩ : ∃ m, k = m + 1 := ⟨k - 1, by omega⟩
    have hlt : i < l.length := by omega
    have h := ih k (i + 1) (by omega) (by omega) (by omega)
    have h' : larchref15_Check.l0 k l (wrap64 ((i : Int) + 1)) = some (if (l.drop (i + 1)).any isOdd then 150 else 0) := by
      rw [wr (by omega) (by omega)]; simpa using h
    have hd : l.drop i = l[i] :: l.drop (i + 1) := List.drop_eq_getElem_cons hlt
    rw [hd, List.any_cons]
    simp only [larchref15_Check.l0]
    rw [if_pos (by omega), if_pos (by omega), rdi l i hlt]
    unfold isOdd isFree
    by_cases h0 : l[i].f0.toList = ([] : List UInt8)
    · rw [if_pos h0]
      by_cases h1 : (l[i].f1.length : Int) > 0
      · rw [if_pos h1]
        have e : (l[i].f0.toList == ([] : List UInt8)) = true := by rw [h0]; rfl
        simp only [e, if_true, decide_eq_true h1, Bool.true_or]
      · rw [if_neg h1, h']
        unfold isOdd isFree
        simp only [h0, beq_self_eq_true, if_true, decide_eq_false h1, Bool.false_or]
    · rw [if_neg h0, h']
      unfold isOdd isFree
      simp [h0]
theorem rcheck_f {l : List S37} (hg : Good l) {k : Nat} (hk : l.length + 1 < k) : larchref15_Check.f k l = some (chk l) := by
  obtain ⟨k, rfl⟩ : ∃ m, k = m + 1 := ⟨k - 1, by omega⟩
  unfold larchref15_Check.f chk bad
  have hj : ∀ b, larchref15_Check.j0 (k + 1) l b = if b = true then some 150 else larchref15_Check.l0 k l 0 := fun b => by simp only [larchref15_Check.j0]
  by_cases h1 : 4096 < l.length
  · rw [if_pos (by omega), hj]; simp [h1]
  · rw [if_neg (by omega), rwords_f hg (by omega) (by omega)]
    simp only [Option.bind_some]
    have h0 : larchref15_Check.l0 k l 0 = some (if l.any isOdd then 150 else 0) := by
      have := rcheck_l0 (l := l) (by omega) l.length k 0 (by omega) (by omega) (by omega)
      simpa using this
    by_cases h2 : 65536 < wsum l
    · rw [if_pos (by omega), hj]; simp [h2]
    · rw [if_neg (by omega)]
      by_cases h3 : l.length = 0
      · have : l = [] := List.eq_nil_of_length_eq_zero h3
        subst this
        rw [if_neg (by simp), hj, h0]
        simp [wsum]
      · have h4 : 0 < l.length := by omega
        rw [if_pos (by omega), wr (by omega) (by omega), if_pos (by omega), if_pos (by omega), hj]
        rw [h0]
        cases h5 : isFree (rd_T37 l ((l.length : Int) - 1)) <;> cases h6 : l.any isOdd <;> unfold isFree at h5 <;> simp [h1, h2, h4, h5, h6]
/-- A copy reads alike. -/
theorem copy_l0 {l : List S37} (hg : Good l) : ∀ (d k i : Nat), l.length - i = d → i ≤ l.length → d < k → larchref15_Copy.l0 k l (l.take i) i = some l := by
  intro d
  induction d with
  | zero =>
    intro k i hd hi hk
    obtain ⟨k, rfl⟩ : ∃ m, k = m + 1 := ⟨k - 1, by omega⟩
    simp only [larchref15_Copy.l0]
    rw [if_neg (by omega), List.take_of_length_le (by omega)]
  | succ d ih =>
    intro k i hd hi hk
    obtain ⟨k, rfl⟩ : ∃ m, k = m + 1 := ⟨k - 1, by omega⟩
    have hlt : i < l.length := by omega
    have h := ih k (i + 1) (by omega) (by omega) (by omega)
    have he := hg.each l[i] (List.getElem_mem _)
    have hlen := hg.len
    simp only [larchref15_Copy.l0]
    rw [if_pos (by omega), if_pos (by omega), rdi l i hlt]
    simp only [Option.bind_some, List.nil_append, List.length_nil, Nat.zero_add]
    rw [if_pos (by omega), if_pos (by rw [List.length_take]; omega), wr (by omega) (by omega)]
    rw [List.take_succ_eq_append_getElem hlt] at h
    rw [show ((i : Int) + 1) = ((i + 1 : Nat) : Int) by omega]
    exact h
theorem copy_f {l : List S37} (hg : Good l) {k : Nat} (hk : l.length < k) : larchref15_Copy.f k l = some l := by
  have := copy_l0 hg l.length k 0 (by omega) (by omega) hk
  simpa [larchref15_Copy.f] using this
theorem sv_l0 (a : List S41) (ha : a.length ≤ 9223372036854775806) : ∀ (d k i : Nat), a.length - i = d → i ≤ a.length → d < k → larchbase_SameValues.l0 k a a i = some true := by
  intro d
  induction d with
  | zero =>
    intro k i hd hi hk
    obtain ⟨k, rfl⟩ : ∃ m, k = m + 1 := ⟨k - 1, by omega⟩
    simp only [larchbase_SameValues.l0]
    rw [if_neg (by omega)]
  | succ d ih =>
    intro k i hd hi hk
    obtain ⟨k, rfl⟩ : ∃ m, k = m + 1 := ⟨k - 1, by omega⟩
    have h := ih k (i + 1) (by omega) (by omega) (by omega)
    simp only [larchbase_SameValues.l0]
    rw [if_pos (by omega), if_pos (by omega), if_pos (by omega), if_neg (by simp), wr (by omega) (by omega)]
    simpa using h
theorem sv_f (a : List S41) (ha : a.length ≤ 9223372036854775806) {k : Nat} (hk : a.length < k) : larchbase_SameValues.f k a a = some true := by
  unfold larchbase_SameValues.f
  rw [if_pos rfl]
  exact sv_l0 a ha a.length k 0 (by omega) (by omega) hk
theorem so_l0 (a : List S37) (ha : a.length ≤ 9223372036854775806) {K : Nat} (he : ∀ x ∈ a, x.f1.length ≤ K ∧ x.f1.length ≤ 9223372036854775806) : ∀ (d k i : Nat), a.length - i = d → i ≤ a.length → d + K < k → larchbase_SameObjects.l0 k a a i = some true := by
  intro d
  induction d with
  | zero =>
    intro k i hd hi hk
    obtain ⟨k, rfl⟩ : ∃ m, k = m + 1 := ⟨k - 1, by omega⟩
    simp only [larchbase_SameObjects.l0]
    rw [if_neg (by omega)]
  | succ d ih =>
    intro k i hd hi hk
    obtain ⟨k, rfl⟩ : ∃ m, k = m + 1 := ⟨k - 1, by omega⟩
    have hlt : i < a.length := by omega
    have h := ih k (i + 1) (by omega) (by omega) (by omega)
    have hx := he a[i] (List.getElem_mem _)
    simp only [larchbase_SameObjects.l0]
    rw [if_pos (by omega), if_pos (by omega), if_pos (by omega), if_pos trivial, rdi a i hlt, sv_f _ hx.2 (by omega)]
    simp only [Option.bind_some, if_true]
    rw [wr (by omega) (by omega)]
    simpa using h
/-- Lists of objects are alike to themselves. -/
theorem so_f (a : List S37) {K k : Nat} (ha : a.length ≤ K) (he : ∀ x ∈ a, x.f1.length ≤ K) (hK : K ≤ 9000000) (hk : 2 * K < k) : larchbase_SameObjects.f k a a = some true := by
  unfold larchbase_SameObjects.f
  rw [if_pos rfl]
  exact so_l0 a (by omega) (K := K) (fun x hx => ⟨he x hx, by have := he x hx; omega⟩) a.length k 0 (by omega) (by omega) (by omega)
/-- A number of 64 bits. -/
def I64 (n : Int) : Prop := -9223372036854775808 ≤ n ∧ n ≤ 9223372036854775807
theorem chk_cases (l : List S37) : chk l = 0 ∧ bad l = false ∨ chk l = 150 ∧ bad l = true := by
  unfold chk
  cases h : bad l <;> simp
theorem chk_zero {l : List S37} (h : chk l = 0) : l.length ≤ 4096 ∧ wsum l ≤ 65536 ∧ (0 < l.length → isFree (rd_T37 l ((l.length : Int) - 1)) = false) ∧ l.any isOdd = false := by
  have hb : bad l = false := by
    rcases chk_cases l with h2 | h2
    · exact h2.2
    · omega
  unfold bad at hb
  simp only [Bool.or_eq_false_iff, decide_eq_false_iff_not, Bool.and_eq_false_iff] at hb
  refine ⟨by omega, by omega, fun h0 => ?_, hb.2⟩
  rcases hb.1.2 with h | h
  · exact absurd h0 h
  · exact h
theorem chk_of {l : List S37} (h1 : l.length ≤ 4096) (h2 : wsum l ≤ 65536) (h3 : 0 < l.length → isFree (rd_T37 l ((l.length : Int) - 1)) = false) (h4 : l.any isOdd = false) : chk l = 0 := by
  unfold chk
  have : bad l = false := by
    unfold bad
    rw [decide_eq_false (by omega), decide_eq_false (by omega), h4]
    by_cases h0 : 0 < l.length
    · rw [h3 h0]; simp
    · rw [decide_eq_false h0]; simp
  rw [this]; rfl
/-- Is there an object of a number? -/
def there (l : List S37) (n : Int) : Bool := decide (chk l = 0) && decide (1 ≤ n ∧ n ≤ l.length) && !isFree (rd_T37 l (n - 1))
theorem there_iff (l : List S37) (n : Int) : there l n = true ↔ chk l = 0 ∧ (1 ≤ n ∧ n ≤ l.length) ∧ isFree (rd_T37 l (n - 1)) = false := by
  simp [there, and_assoc]
/-- What is got: the object, and how it went. -/
def getS (l : List S37) (n : Int) : ByteArray × List S41 × Int := if there l n = true then ((rd_T37 l (n - 1)).f0, (rd_T37 l (n - 1)).f1, 0) else (⟨#[]⟩, [], 150)
theorem rd_mem {l : List S37} {n : Int} (h0 : 1 ≤ n) (h1 : n ≤ l.length) : rd_T37 l (n - 1) ∈ l := by
  obtain ⟨i, rfl⟩ : ∃ i : Nat, n = i + 1 := ⟨(n - 1).toNat, by omega⟩
  have hi : i < l.length := by omega
  rw [show ((i : Int) + 1 - 1) = i by omega, rdi l i hi]
  exact List.getElem_mem _
theorem there_words {l : List S37} {n : Int} (h : there l n = true) : (rd_T37 l (n - 1)).f1.length ≤ 65536 := by
  obtain ⟨h0, h1, _⟩ := (there_iff l n).1 h
  have := wsum_mem (rd_mem h1.1 h1.2)
  have := (chk_zero h0).2.1
  omega
/-- Free places at the end fall away. -/
def trim (l : List S37) : List S37 := (l.reverse.dropWhile isFree).reverse
theorem trim_nil : trim [] = [] := rfl
theorem trim_snoc (l : List S37) (x : S37) : trim (l ++ [x]) = if isFree x = true then trim l else l ++ [x] := by
  unfold trim
  rw [List.reverse_append, List.reverse_singleton, List.singleton_append, List.dropWhile_cons]
  split
  · rfl
  · simp
theorem rd_last (l : List S37) (x : S37) : rd_T37 (l ++ [x]) (((l ++ [x]).length : Int) - 1) = x := by
  rw [show (((l ++ [x]).length : Int) - 1) = (l.length : Nat) by simp, rdi _ _ (by simp)]
  simp
/-- What is small enough to be compared. -/
structure Small (l : List S37) : Prop where
  len : l.length ≤ 70000
  each : ∀ x ∈ l, x.f1.length ≤ 70000
theorem Small.so {l : List S37} (h : Small l) {k : Nat} (hk : 140000 < k) : larchbase_SameObjects.f k l l = some true := so_f l h.len h.each (by omega) (by omega)
theorem Small.nil : Small [] := ⟨by simp, by simp⟩
theorem Small.one {x : S37} (h : x.f1.length ≤ 70000) : Small [x] := ⟨by simp, fun y hy => by rw [List.mem_singleton.1 hy]; exact h⟩
theorem mem_trim {l : List S37} {x : S37} (h : x ∈ trim l) : x ∈ l := by
  unfold trim at h
  rw [List.mem_reverse] at h
  exact List.mem_reverse.1 ((List.dropWhile_suffix _).subset h)
theorem trim_len (l : List S37) : (trim l).length ≤ l.length := by
  unfold trim
  rw [List.length_reverse]
  have := (List.dropWhile_suffix (l := l.reverse) isFree).length_le
  simpa using this
theorem Small.trim {l : List S37} (h : Small l) : Small (trim l) := ⟨by have := trim_len l; have := h.len; omega, fun x hx => h.each x (mem_trim hx)⟩
theorem rd_small {l : List S37} (h : Small l) (i : Int) : (rd_T37 l i).f1.length ≤ 70000 := by
  unfold rd_T37
  rcases Nat.lt_or_ge i.toNat l.length with h1 | h1
  · rw [List.getD_eq_getElem?_getD, List.getElem?_eq_getElem h1]
    exact h.each _ (List.getElem_mem _)
  · rw [List.getD_eq_getElem?_getD, List.getElem?_eq_none h1]
    simp [z37]
/-- The numbers of the objects that are not free, from place i on. -/
def liveFrom : Nat → List S37 → List Int
  | _, [] => []
  | i, x :: l => if isFree x = true then liveFrom (i + 1) l else ((i : Int) + 1) :: liveFrom (i + 1) l
def live (l : List S37) : List Int := liveFrom 0 l
theorem liveFrom_len (l : List S37) : ∀ i, (liveFrom i l).length ≤ l.length := by
  induction l with
  | nil => intro i; simp [liveFrom]
  | cons x l ih =>
    intro i
    have := ih (i + 1)
    unfold liveFrom
    split <;> simp <;> omega
theorem live_l0 (l : List S37) (hl : l.length ≤ 3518437208830) : ∀ (d k i : Nat) (acc : List Int), l.length - i = d → i ≤ l.length → d < k → acc.length ≤ i → heap_Live.l0 k acc l l.length i = some (acc ++ liveFrom i (l.drop i)) := by
  intro d
  induction d with
  | zero =>
    intro k i acc hd hi hk ha
    obtain ⟨k, rfl⟩ : ∃ m, k = m + 1 := ⟨k - 1, by omega⟩
    simp only [heap_Live.l0]
    rw [if_neg (by omega), List.drop_of_length_le (by omega)]
    simp [liveFrom]
  | succ d ih =>
    intro k i acc hd hi hk ha
    obtain ⟨k, rfl⟩ : ∃ m, k = m + 1 := ⟨k - 1, by omega⟩
    have hlt : i < l.length := by omega
    have hdr : l.drop i = l[i] :: l.drop (i + 1) := List.drop_eq_getElem_cons hlt
    simp only [heap_Live.l0]
    rw [if_pos (by omega), if_pos (by omega), if_pos (by omega), rdi l i hlt, hdr]
    unfold heap_free.f
    simp only [Option.bind_some]
    rw [wr (by omega) (by omega)]
    unfold liveFrom
    by_cases h : isFree l[i] = true
    · rw [if_pos (show (l[i].f0.toList == ([] : List UInt8)) = true from h), if_pos h]
      exact ih k (i + 1) acc (by omega) (by omega) (by omega) (by omega)
    · rw [if_neg (show ¬ (l[i].f0.toList == ([] : List UInt8)) = true from h), if_neg h, if_pos (by omega)]
      have := ih k (i + 1) (acc ++ [(i : Int) + 1]) (by omega) (by omega) (by omega) (by simp; omega)
      rw [show ((i : Int) + 1) = ((i + 1 : Nat) : Int) by omega]
      rw [show (((i + 1 : Nat) : Int)) = (i : Int) + 1 by omega] at this ⊢
      rw [this]
      simp
theorem live_f {l : List S37} (hg : Good l) {k : Nat} (hk : l.length < k) : heap_Live.f k l = some (live l) := by
  have := live_l0 l hg.len l.length k 0 [] (by omega) (by omega) hk (by simp)
  simpa [heap_Live.f, live] using this
theorem si_l0 (a : List Int) (ha : a.length ≤ 9000000) : ∀ (d k i : Nat), a.length - i = d → i ≤ a.length → d < k → larchbase_SameInts.l0 k a a i = some true := by
  intro d
  induction d with
  | zero =>
    intro k i hd hi hk
    obtain ⟨k, rfl⟩ : ∃ m, k = m + 1 := ⟨k - 1, by omega⟩
    simp only [larchbase_SameInts.l0]
    rw [if_neg (by omega)]
  | succ d ih =>
    intro k i hd hi hk
    obtain ⟨k, rfl⟩ : ∃ m, k = m + 1 := ⟨k - 1, by omega⟩
    have h := ih k (i + 1) (by omega) (by omega) (by omega)
    simp only [larchbase_SameInts.l0]
    rw [if_pos (by omega), if_pos (by omega), if_pos (by omega), if_pos trivial, wr (by omega) (by omega)]
    simpa using h
theorem si_f (a : List Int) (ha : a.length ≤ 9000000) {k : Nat} (hk : a.length < k) : larchbase_SameInts.f k a a = some true := by
  unfold larchbase_SameInts.f
  rw [if_pos rfl]
  exact si_l0 a ha a.length k 0 (by omega) (by omega) hk
theorem live_len (l : List S37) : (live l).length ≤ l.length := liveFrom_len l 0
theorem free_words {x : S37} (h : isFree x = true) (ho : isOdd x = false) : x.f1.length = 0 := by
  unfold isOdd at ho
  rw [if_pos h] at ho
  simp at ho
  simp [ho]
theorem wsum_split {l : List S37} {i : Nat} (hi : i < l.length) : wsum l = wsum (l.take i) + (l[i].f1.length + wsum (l.drop (i + 1))) := by
  have hl : l = l.take i ++ (l[i] :: l.drop (i + 1)) := by rw [← List.drop_eq_getElem_cons hi, List.take_append_drop]
  have e := congrArg wsum hl
  rw [wsum_append] at e
  rw [e]; simp only [wsum, List.map_cons, List.sum_cons]
theorem wsum_set2 {l : List S37} {i : Nat} (hi : i < l.length) (x : S37) : wsum (l.set i x) + l[i].f1.length = wsum l + x.f1.length := by
  rw [List.set_eq_take_append_cons_drop, if_pos hi, wsum_append, wsum_split hi]
  simp only [wsum, List.map_cons, List.sum_cons]
  omega
theorem any_mem {l : List S37} (h : l.any isOdd = false) {x : S37} (hx : x ∈ l) : isOdd x = false := by
  rw [List.any_eq_false] at h
  simpa using h x hx
theorem any_of' {l : List S37} (h : ∀ x ∈ l, isOdd x = false) : l.any isOdd = false := by
  rw [List.any_eq_false]
  intro x hx
  rw [h x hx]; decide
theorem odd_of_not_free {x : S37} (h : isFree x = false) : isOdd x = false := by unfold isOdd; rw [if_neg (by rw [h]; decide)]
/-- trim: what stays, and what falls. -/
theorem trim_prefix (l : List S37) : ∃ t, l = trim l ++ t ∧ ∀ x ∈ t, isFree x = true := by
  refine ⟨(l.reverse.takeWhile isFree).reverse, ?_, fun x hx => ?_⟩
  · unfold trim
    rw [← List.reverse_append, List.takeWhile_append_dropWhile, List.reverse_reverse]
  · rw [List.mem_reverse] at hx
    exact List.all_eq_true.1 List.all_takeWhile x hx
theorem trim_last (l : List S37) (h : 0 < (trim l).length) : isFree (rd_T37 (trim l) (((trim l).length : Int) - 1)) = false := by
  have hne : trim l ≠ [] := fun e => by rw [e] at h; simp at h
  have hne2 : l.reverse.dropWhile isFree ≠ [] := fun e => hne (by unfold trim; rw [e]; rfl)
  have h1 := List.head_dropWhile_not isFree hne2
  obtain ⟨m, hm⟩ : ∃ m : Nat, (trim l).length = m + 1 := ⟨(trim l).length - 1, by omega⟩
  rw [show (((trim l).length : Int) - 1) = (m : Nat) by omega, rdi _ _ (by omega)]
  have h2 : (trim l)[m] = (l.reverse.dropWhile isFree).head hne2 := by
    have : (trim l)[m] = (trim l).getLast hne := by rw [List.getLast_eq_getElem]; congr 1; omega
    rw [this]
    exact List.getLast_reverse _
  rw [h2]
  simpa using h1
theorem wsum_trim (l : List S37) : wsum (trim l) ≤ wsum l := by
  obtain ⟨t, ht, _⟩ := trim_prefix l
  have : wsum l = wsum (trim l ++ t) := congrArg wsum ht
  rw [wsum_append] at this
  omega
theorem trim_get (l : List S37) (i : Nat) (hi : i < (trim l).length) : (trim l)[i] = l[i]'(by have := trim_len l; omega) := by
  obtain ⟨t, ht, _⟩ := trim_prefix l
  have hil : i < l.length := by have := trim_len l; omega
  have : l[i]? = (trim l ++ t)[i]? := congrArg (fun z => z[i]?) ht
  rw [List.getElem?_append_left hi, List.getElem?_eq_getElem hil, List.getElem?_eq_getElem hi] at this
  injection this with this
  exact this.symm
theorem z37_free : isFree z37 = true := by decide +kernel
theorem z37_odd : isOdd z37 = false := by decide +kernel
/-- How many objects are not free. -/
def nf (l : List S37) : Nat := l.countP (fun x => !isFree x)
theorem liveFrom_nf (l : List S37) : ∀ i, (liveFrom i l).length = nf l := by
  induction l with
  | nil => intro i; simp [liveFrom, nf]
  | cons x l ih =>
    intro i
    have h1 := ih (i + 1)
    have h2 : nf (x :: l) = nf l + if isFree x = true then 0 else 1 := by
      unfold nf
      rw [List.countP_cons]
      cases isFree x <;> simp
    rw [h2]
    unfold liveFrom
    cases h : isFree x
    · simp [h1]
    · simp [h1]
theorem live_nf (l : List S37) : (live l).length = nf l := liveFrom_nf l 0
theorem liveFrom_mem (l : List S37) : ∀ (i : Nat) (y : Int), y ∈ liveFrom i l → ∃ (k : Nat) (hk : k < l.length), y = i + k + 1 ∧ isFree l[k] = false := by
  induction l with
  | nil => intro i y hy; simp [liveFrom] at hy
  | cons x l ih =>
    intro i y hy
    unfold liveFrom at hy
    split at hy
    · obtain ⟨k, hk, he, hf⟩ := ih (i + 1) y hy
      exact ⟨k + 1, by simp; omega, by push_cast at he ⊢; omega, by simpa using hf⟩
    · rename_i hx
      rcases List.mem_cons.1 hy with rfl | hy
      · exact ⟨0, by simp, by simp, by simpa using hx⟩
      · obtain ⟨k, hk, he, hf⟩ := ih (i + 1) y hy
        exact ⟨k + 1, by simp; omega, by push_cast at he ⊢; omega, by simpa using hf⟩
theorem rd_mem_int {L : List Int} {j : Int} (h0 : 0 ≤ j) (h1 : j < L.length) : rd L j ∈ L := by
  unfold rd
  rw [List.getD_eq_getElem?_getD, List.getElem?_eq_getElem (show j.toNat < L.length by omega)]
  exact List.getElem_mem _
end Go.Proofs.Ytonkfcfpfpaceaa.Q
