/- heap, plain: words, whether a heap is right, copies, and what is alike. -/
import Derived.Test.YticpjpacoeecmaaAx5
import Derived.Test.YticpjpacoeecmaaAx8
namespace Go.Proofs.Yticpjpacoeecmaa.Q
open Go.RowKit Go.Proofs.YticpjpacoeecmaaW.PrintWords Go.Proofs.Yticpjpacoeecmaa.A.P
set_option linter.unusedVariables false
set_option linter.unusedSimpArgs false
theorem wr {x : Int} (h0 : -9223372036854775808 ≤ x) (h1 : x ≤ 9223372036854775807) : wrap64 x = x := by unfold wrap64; omega
def wsum (l : List S40) : Nat := (l.map (fun x => x.f1.length)).sum
/-- What a list that came in is bounded by. -/
structure Good (l : List S40) : Prop where
  len : l.length ≤ 3518437208830
  each : ∀ x ∈ l, x.f1.length ≤ 8796093021952
theorem wsum_nil : wsum [] = 0 := rfl
theorem wsum_append (a b : List S40) : wsum (a ++ b) = wsum a + wsum b := by simp [wsum]
theorem wsum_one (x : S40) : wsum [x] = x.f1.length := by simp [wsum]
theorem wsum_succ (l : List S40) (i : Nat) (h : i < l.length) : wsum (l.take (i + 1)) = wsum (l.take i) + l[i].f1.length := by
  rw [List.take_succ_eq_append_getElem h, wsum_append, wsum_one]
theorem wsum_take_le (l : List S40) (i : Nat) : wsum (l.take i) ≤ wsum l := by
  have := wsum_append (l.take i) (l.drop i)
  rw [List.take_append_drop] at this
  omega
theorem wsum_mem {l : List S40} {x : S40} (h : x ∈ l) : x.f1.length ≤ wsum l := by
  obtain ⟨i, hi, rfl⟩ := List.mem_iff_getElem.1 h
  have := wsum_succ l i hi
  have := wsum_take_le l (i + 1)
  omega
theorem wsum_bound {l : List S40} (hg : Good l) : ∀ i, i ≤ l.length → wsum (l.take i) ≤ i * 8796093021952
  | 0, _ => by simp [wsum]
  | i + 1, h => by
    rw [wsum_succ l i (by omega)]
    have := wsum_bound hg i (by omega)
    have := hg.each l[i] (List.getElem_mem _)
    omega
theorem rdi (l : List S40) (i : Nat) (h : i < l.length) : rd_T40 l (i : Int) = l[i] := rd_at l i h
theorem words_l0 {l : List S40} (hg : Good l) (hl : l.length ≤ 5000) : ∀ (d k i : Nat), l.length - i = d → i ≤ l.length → d < k → heap_Words.l0 k (wsum (l.take i)) l l.length i = some (wsum l : Int) := by
  intro d
  induction d with
  | zero =>
    intro k i hd hi hk
    obtain ⟨k, rfl⟩ : ∃ m, k = m + 1 := ⟨k - 1, by omega⟩
    simp only [heap_Words.l0]
    rw [if_neg (by omega), List.take_of_length_le (by omega)]
  | succ d ih =>
    intro k i hd hi hk
    obtain ⟨k, rfl⟩ : ∃ m, k = m + 1 := ⟨k - 1, by omega⟩
    have hlt : i < l.length := by omega
    have hb := wsum_bound hg (i + 1) (by omega)
    have hs := wsum_succ l i hlt
    have := ih k (i + 1) (by omega) (by omega) (by omega)
    simp only [heap_Words.l0]
    rw [if_pos (by omega), if_pos (by omega), if_pos (by omega), rdi l i hlt, wr (by omega) (by omega), wr (by omega) (by omega)]
    rw [hs] at this
    simpa using this
theorem words_f {l : List S40} (hg : Good l) (hl : l.length ≤ 5000) {k : Nat} (hk : l.length < k) : heap_Words.f k l = some (wsum l : Int) := by
  have := words_l0 hg hl l.length k 0 (by omega) (by omega) hk
  simpa [heap_Words.f, wsum] using this
theorem rwords_l0 {l : List S40} (hg : Good l) (hl : l.length ≤ 5000) : ∀ (d k i : Nat), l.length - i = d → i ≤ l.length → d < k → larchref15_Words.l0 k l (wsum (l.take i)) i = some (wsum l : Int) := by
  intro d
  induction d with
  | zero =>
    intro k i hd hi hk
    obtain ⟨k, rfl⟩ : ∃ m, k = m + 1 := ⟨k - 1, by omega⟩
    simp only [larchref15_Words.l0]
    rw [if_neg (by omega), List.take_of_length_le (by omega)]
  | succ d ih =>
    intro k i hd hi hk
    obtain ⟨k, rfl⟩ : ∃ m, k = m + 1 := ⟨k - 1, by omega⟩
    have hlt : i < l.length := by omega
    have hb := wsum_bound hg (i + 1) (by omega)
    have hs := wsum_succ l i hlt
    have := ih k (i + 1) (by omega) (by omega) (by omega)
    simp only [larchref15_Words.l0]
    rw [if_pos (by omega), if_pos (by omega), rdi l i hlt, wr (by omega) (by omega), wr (by omega) (by omega)]
    rw [hs] at this
    simpa using this
theorem rwords_f {l : List S40} (hg : Good l) (hl : l.length ≤ 5000) {k : Nat} (hk : l.length < k) : larchref15_Words.f k l = some (wsum l : Int) := by
  have := rwords_l0 hg hl l.length k 0 (by omega) (by omega) hk
  simpa [larchref15_Words.f, wsum] using this
theorem hwords_l0 {l : List S40} (hg : Good l) (hl : l.length ≤ 5000) : ∀ (d k i : Nat), l.length - i = d → i ≤ l.length → d < k → ∃ r : Int, larchlaw15_heapWords.l0 k l (wsum (l.take i)) i = some r ∧ (r ≤ 70000 ↔ wsum l ≤ 70000) := by
  intro d
  induction d with
  | zero =>
    intro k i hd hi hk
    obtain ⟨k, rfl⟩ : ∃ m, k = m + 1 := ⟨k - 1, by omega⟩
    refine ⟨wsum l, ?_, by omega⟩
    simp only [larchlaw15_heapWords.l0]
    rw [if_neg (by omega), List.take_of_length_le (by omega)]
  | succ d ih =>
    intro k i hd hi hk
    obtain ⟨k, rfl⟩ : ∃ m, k = m + 1 := ⟨k - 1, by omega⟩
    have hlt : i < l.length := by omega
    have hb := wsum_bound hg (i + 1) (by omega)
    have hs := wsum_succ l i hlt
    by_cases h8 : (wsum (l.take i) : Int) < 80000
    · obtain ⟨r, h1, h2⟩ := ih k (i + 1) (by omega) (by omega) (by omega)
      refine ⟨r, ?_, h2⟩
      simp only [larchlaw15_heapWords.l0]
      rw [if_pos (by omega), if_pos h8, if_pos (by omega), rdi l i hlt, wr (by omega) (by omega), wr (by omega) (by omega)]
      rw [hs] at h1
      simpa using h1
    · have := wsum_take_le l i
      refine ⟨wsum (l.take i), ?_, by omega⟩
      simp only [larchlaw15_heapWords.l0]
      rw [if_pos (by omega), if_neg h8]
/-- light: few words. -/
theorem light_f {l : List S40} (hg : Good l) {k : Nat} (hk : l.length < k) : larchlaw15_light.f k l = some (decide (l.length ≤ 5000 ∧ wsum l ≤ 70000)) := by
  unfold larchlaw15_light.f
  by_cases h5 : l.length ≤ 5000
  · obtain ⟨r, h1, h2⟩ := hwords_l0 hg h5 l.length k 0 (by omega) (by omega) hk
    have h1' : larchlaw15_heapWords.f k l = some r := by simpa [larchlaw15_heapWords.f, wsum] using h1
    rw [if_pos (by omega), h1']
    simp only [Option.bind_some, Option.some.injEq, decide_eq_decide]
    omega
  · rw [if_neg (by omega), decide_eq_false (by omega)]
/-- Is a heap right? -/
def bad (l : List S40) : Bool := decide (4096 < l.length) || decide (65536 < wsum l) || (decide (0 < l.length) && isFree (rd_T40 l ((l.length : Int) - 1))) || l.any isOdd
def chk (l : List S40) : Int := if bad l then 150 else 0
theorem check_f {l : List S40} (hg : Good l) : heap_Check.f l = some (chk l) := by
  unfold heap_Check.f chk bad
  by_cases h1 : 4096 < l.length
  · simp [h1]
  · rw [if_neg h1, words_f hg (by omega) (by omega)]
    simp only [Option.bind_some]
    by_cases h2 : 65536 < wsum l
    · rw [if_pos (by omega)]; simp [h2]
    · rw [if_neg (by omega)]
      by_cases h3 : l.length = 0
      · have : l = [] := List.eq_nil_of_length_eq_zero h3
        subst this
        simp [wsum]
      · rw [if_neg h3]
        have h4 : 0 < l.length := by omega
        cases h5 : isFree (rd_T40 l ((l.length : Int) - 1)) <;> cases h6 : l.any isOdd <;> simp [h1, h2, h4, h5, h6]
theorem isFree_eq (x : S40) : isFree x = (x.f0.toList == ([] : List UInt8)) := rfl
theorem isFree_iff (x : S40) : isFree x = true ↔ x.f0.toList = ([] : List UInt8) := by unfold isFree; exact beq_iff_eq
theorem rcheck_l0 {l : List S40} (hl : l.length ≤ 5000) : ∀ (d k i : Nat), l.length - i = d → i ≤ l.length → d < k → larchref15_Check.l0 k l i = some (if (l.drop i).any isOdd then 150 else 0) := by
  intro d
  induction d with
  | zero =>
    intro k i hd hi hk
    obtain ⟨k, rfl⟩ : ∃ m, k = m + 1 := ⟨k - 1, by omega⟩
    simp only [larchref15_Check.l0]
    rw [if_neg (by omega), List.drop_of_length_le (by omega)]
    simp
  | succ d ih =>
    intro k i hd hi hk
    obtain ⟨k, rfl⟩ : ∃ m, k = m + 1 := ⟨k - 1, by omega⟩
    have hlt : i < l.length := by omega
    have h := ih k (i + 1) (by omega) (by omega) (by omega)
    have h' : larchref15_Check.l0 k l (wrap64 ((i : Int) + 1)) = some (if (l.drop (i + 1)).any isOdd then 150 else 0) := by
      rw [wr (by omega) (by omega)]; simpa using h
    have hd : l.drop i = l[i] :: l.drop (i + 1) := List.drop_eq_getElem_cons hlt
    rw [hd, List.any_cons]
    simp only [larchref15_Check.l0]
    rw [if_pos (by omega), if_pos (by omega), rdi l i hlt]
    unfold isOdd isFree
    by_cases h0 : l[i].f0.toList = ([] : List UInt8)
    · rw [if_pos h0]
      by_cases h1 : (l[i].f1.length : Int) > 0
      · rw [if_pos h1]
        have e : (l[i].f0.toList == ([] : List UInt8)) = true := by rw [h0]; rfl
        simp only [e, if_true, decide_eq_true h1, Bool.true_or]
      · rw [if_neg h1, h']
        unfold isOdd isFree
        simp only [h0, beq_self_eq_true, if_true, decide_eq_false h1, Bool.false_or]
    · rw [if_neg h0, h']
      unfold isOdd isFree
      simp [h0]
theorem rcheck_f {l : List S40} (hg : Good l) {k : Nat} (hk : l.length + 1 < k) : larchref15_Check.f k l = some (chk l) := by
  obtain ⟨k, rfl⟩ : ∃ m, k = m + 1 := ⟨k - 1, by omega⟩
  unfold larchref15_Check.f chk bad
  have hj : ∀ b, larchref15_Check.j0 (k + 1) l b = if b = true then some 150 else larchref15_Check.l0 k l 0 := fun b => by simp only [larchref15_Check.j0]
  by_cases h1 : 4096 < l.length
  · rw [if_pos (by omega), hj]; simp [h1]
  · rw [if_neg (by omega), rwords_f hg (by omega) (by omega)]
    simp only [Option.bind_some]
    have h0 : larchref15_Check.l0 k l 0 = some (if l.any isOdd then 150 else 0) := by
      have := rcheck_l0 (l := l) (by omega) l.length k 0 (by omega) (by omega) (by omega)
      simpa using this
    by_cases h2 : 65536 < wsum l
    · rw [if_pos (by omega), hj]; simp [h2]
    · rw [if_neg (by omega)]
      by_cases h3 : l.length = 0
      · have : l = [] := List.eq_nil_of_length_eq_zero h3
        subst this
        rw [if_neg (by simp), hj, h0]
        simp [wsum]
      · have h4 : 0 < l.length := by omega
        rw [if_pos (by omega), wr (by omega) (by omega), if_pos (by omega), if_pos (by omega), hj]
        rw [h0]
        cases h5 : isFree (rd_T40 l ((l.length : Int) - 1)) <;> cases h6 : l.any isOdd <;> unfold isFree at h5 <;> simp [h1, h2, h4, h5, h6]
/-- A copy reads alike. -/
theorem copy_l0 {l : List S40} (hg : Good l) : ∀ (d k i : Nat), l.length - i = d → i ≤ l.length → d < k → larchref15_Copy.l0 k l (l.take i) i = some l := by
  intro d
  induction d with
  | zero =>
    intro k i hd hi hk
    obtain ⟨k, rfl⟩ : ∃ m, k = m + 1 := ⟨k - 1, by omega⟩
    simp only [larchref15_Copy.l0]
    rw [if_neg (by omega), List.take_of_length_le (by omega)]
  | succ d ih =>
    intro k i hd hi hk
    obtain ⟨k, rfl⟩ : ∃ m, k = m + 1 := ⟨k - 1, by omega⟩
    have hlt : i < l.length := by omega
    have h := ih k (i + 1) (by omega) (by omega) (by omega)
    have he := hg.each l[i] (List.getElem_mem _)
    have hlen := hg.len
    simp only [larchref15_Copy.l0]
    rw [if_pos (by omega), if_pos (by omega), rdi l i hlt]
    simp only [Option.bind_some, List.nil_append, List.length_nil, Nat.zero_add]
    rw [if_pos (by omega), if_pos (by rw [List.length_take]; omega), wr (by omega) (by omega)]
    rw [List.take_succ_eq_append_getElem hlt] at h
    rw [show ((i : Int) + 1) = ((i + 1 : Nat) : Int) by omega]
    exact h
theorem copy_f {l : List S40} (hg : Good l) {k : Nat} (hk : l.length < k) : larchref15_Copy.f k l = some l := by
  have := copy_l0 hg l.length k 0 (by omega) (by omega) hk
  simpa [larchref15_Copy.f] using this
theorem sv_l0 (a : List S24) (ha : a.length ≤ 9223372036854775806) : ∀ (d k i : Nat), a.length - i = d → i ≤ a.length → d < k → larchbase_SameValues.l0 k a a i = some true := by
  intro d
  induction d with
  | zero =>
    intro k i hd hi hk
    obtain ⟨k, rfl⟩ : ∃ m, k = m + 1 := ⟨k - 1, by omega⟩
    simp only [larchbase_SameValues.l0]
    rw [if_neg (by omega)]
  | succ d ih =>
    intro k i hd hi hk
    obtain ⟨k, rfl⟩ : ∃ m, k = m + 1 := ⟨k - 1, by omega⟩
    have h := ih k (i + 1) (by omega) (by omega) (by omega)
    simp only [larchbase_SameValues.l0]
    rw [if_pos (by omega), if_pos (by omega), if_pos (by omega), if_neg (by simp), wr (by omega) (by omega)]
    simpa using h
theorem sv_f (a : List S24) (ha : a.length ≤ 9223372036854775806) {k : Nat} (hk : a.length < k) : larchbase_SameValues.f k a a = some true := by
  unfold larchbase_SameValues.f
  rw [if_pos rfl]
  exact sv_l0 a ha a.length k 0 (by omega) (by omega) hk
theorem so_l0 (a : List S40) (ha : a.length ≤ 9223372036854775806) {K : Nat} (he : ∀ x ∈ a, x.f1.length ≤ K ∧ x.f1.length ≤ 9223372036854775806) : ∀ (d k i : Nat), a.length - i = d → i ≤ a.length → d + K < k → larchbase_SameObjects.l0 k a a i = some true := by
  intro d
  induction d with
  | zero =>
    intro k i hd hi hk
    obtain ⟨k, rfl⟩ : ∃ m, k = m + 1 := ⟨k - 1, by omega⟩
    simp only [larchbase_SameObjects.l0]
    rw [if_neg (by omega)]
  | succ d ih =>
    intro k i hd hi hk
    obtain ⟨k, rfl⟩ : ∃ m, k = m + 1 := ⟨k - 1, by omega⟩
    have hlt : i < a.length := by omega
    have h := ih k (i + 1) (by omega) (by omega) (by omega)
    have hx := he a[i] (List.getElem_mem _)
    simp only [larchbase_SameObjects.l0]
    rw [if_pos (by omega), if_pos (by omega), if_pos (by omega), if_pos trivial, rdi a i hlt, sv_f _ hx.2 (by omega)]
    simp only [Option.bind_some, if_true]
    rw [wr (by omega) (by omega)]
    simpa using h
/-- Lists of objects are alike to themselves. -/
theorem so_f (a : List S40) {K k : Nat} (ha : a.length ≤ K) (he : ∀ x ∈ a, x.f1.length ≤ K) (hK : K ≤ 9000000) (hk : 2 * K < k) : larchbase_SameObjects.f k a a = some true := by
  unfold larchbase_SameObjects.f
  rw [if_pos rfl]
  exact so_l0 a (by omega) (K := K) (fun x hx => ⟨he x hx, by have := he x hx; omega⟩) a.length k 0 (by omega) (by omega) (by omega)
end Go.Proofs.Yticpjpacoeecmaa.Q
