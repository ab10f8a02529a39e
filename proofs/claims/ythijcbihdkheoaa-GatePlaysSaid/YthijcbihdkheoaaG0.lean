/- Plain facts on the printed functions that compare two lists of whole numbers. -/
import Derived.Test.YthijcbihdkheoaaPGatePlaysx1
import Derived.Test.YthijcbihdkheoaaPGatePlaysx2
namespace Go.Proofs.Ythijcbihdkheoaa.G
set_option linter.unusedVariables false
set_option linter.unusedSimpArgs false
open Go.RowKit Go.Proofs.YthijcbihdkheoaaW.PrintWords Go.Proofs.Ythijcbihdkheoaa.PGatePlays

theorem wrap_succ (i n : Nat) (h : i < n) (hn : n ≤ 9223372036854775807) : wrap64 ((i : Int) + 1) = ((i + 1 : Nat) : Int) := by
  unfold wrap64; omega

theorem drop_eq_cons (xs : List Int) (i : Nat) (h : i < xs.length) : xs.drop i = rd xs i :: xs.drop (i + 1) := by
  rw [List.drop_eq_getElem_cons h]
  simp [rd, List.getD_eq_getElem?_getD, List.getElem?_eq_getElem h]

theorem equal_l0 (xs ys : List Int) (hl : xs.length = ys.length) (hn : xs.length ≤ 9223372036854775807) : ∀ (d k i : Nat), i ≤ xs.length → xs.length - i = d → d < k →
    slices_Equal_int_int.l0 k xs ys (xs.length : Int) (i : Int) = some (decide (xs.drop i = ys.drop i)) := by
  intro d
  induction d with
  | zero =>
    intro k i h0 hd hk
    obtain ⟨k, rfl⟩ : ∃ m, k = m + 1 := ⟨k - 1, by omega⟩
    simp only [slices_Equal_int_int.l0]
    rw [if_neg (by omega), List.drop_eq_nil_of_le (by omega), List.drop_eq_nil_of_le (by omega)]
    simp
  | succ d ih =>
    intro k i h0 hd hk
    obtain ⟨k, rfl⟩ : ∃ m, k = m + 1 := ⟨k - 1, by omega⟩
    simp only [slices_Equal_int_int.l0]
    rw [if_pos (by omega), if_pos (by omega), if_pos (by omega), if_pos (by omega)]
    rw [drop_eq_cons xs i (by omega), drop_eq_cons ys i (by omega)]
    by_cases he : rd xs i = rd ys i
    · rw [if_pos he, wrap_succ i xs.length (by omega) hn, ih k (i + 1) (by omega) (by omega) (by omega), he]
      simp
    · rw [if_neg he]
      simp [he]

theorem equal_f (xs ys : List Int) (hn : xs.length ≤ 9223372036854775807) : ∃ k, slices_Equal_int_int.f k xs ys = some (decide (xs = ys)) := by
  by_cases hl : xs.length = ys.length
  · refine ⟨xs.length + 1, ?_⟩
    unfold slices_Equal_int_int.f
    rw [if_pos (by omega)]
    have := equal_l0 xs ys hl hn xs.length (xs.length + 1) 0 (by omega) (by omega) (by omega)
    simpa using this
  · refine ⟨0, ?_⟩
    unfold slices_Equal_int_int.f
    rw [if_neg (by omega)]
    have : xs ≠ ys := fun h => hl (by rw [h])
    simp [this]

theorem same_l0 (xs ys : List Int) (hl : xs.length = ys.length) (hn : xs.length ≤ 9223372036854775807) : ∀ (d k i : Nat), i ≤ xs.length → xs.length - i = d → d < k →
    larchbase_SameInts.l0 k xs ys (i : Int) = some (decide (xs.drop i = ys.drop i)) := by
  intro d
  induction d with
  | zero =>
    intro k i h0 hd hk
    obtain ⟨k, rfl⟩ : ∃ m, k = m + 1 := ⟨k - 1, by omega⟩
    simp only [larchbase_SameInts.l0]
    rw [if_neg (by omega), List.drop_eq_nil_of_le (by omega), List.drop_eq_nil_of_le (by omega)]
    simp
  | succ d ih =>
    intro k i h0 hd hk
    obtain ⟨k, rfl⟩ : ∃ m, k = m + 1 := ⟨k - 1, by omega⟩
    simp only [larchbase_SameInts.l0]
    rw [if_pos (by omega), if_pos (by omega), if_pos (by omega)]
    rw [drop_eq_cons xs i (by omega), drop_eq_cons ys i (by omega)]
    by_cases he : rd xs i = rd ys i
    · rw [if_pos he, wrap_succ i xs.length (by omega) hn, ih k (i + 1) (by omega) (by omega) (by omega), he]
      simp
    · rw [if_neg he]
      simp [he]

theorem same_f (xs ys : List Int) (hn : xs.length ≤ 9223372036854775807) : ∃ k, larchbase_SameInts.f k xs ys = some (decide (xs = ys)) := by
  by_cases hl : xs.length = ys.length
  · refine ⟨xs.length + 1, ?_⟩
    unfold larchbase_SameInts.f
    rw [if_pos (by omega)]
    have := same_l0 xs ys hl hn xs.length (xs.length + 1) 0 (by omega) (by omega) (by omega)
    simpa using this
  · refine ⟨0, ?_⟩
    unfold larchbase_SameInts.f
    rw [if_neg (by omega)]
    have : xs ≠ ys := fun h => hl (by rw [h])
    simp [this]
end Go.Proofs.Ythijcbihdkheoaa.G
