/- Plain facts on the reference's functions: Round, is, power, under, Int. -/
import Derived.Test.YtencepjebdadcaaM3
import Derived.Test.YtencepjebdadcaaM4
import Derived.Test.YtencepjebdadcaaAx1
namespace Go.Proofs.Ytencepjebdadcaa.A
open Go.RowKit Go.Proofs.Ytencepjebdadcaa.A.P Go.Proofs.YtencepjebdadcaaW.PrintWords
set_option linter.unusedVariables false
set_option linter.unusedSimpArgs false

theorem tmod_if (a m : Int) : a.tmod m = if 0 ≤ a then a % m else -((-a) % m) := by
  split
  · rename_i h; exact Int.tmod_eq_emod_of_nonneg h
  · rename_i h
    have e : a.tmod m = -((-a).tmod m) := by rw [Int.neg_tmod]; simp
    rw [e, Int.tmod_eq_emod_of_nonneg (by omega)]
theorem tdiv_if (a m : Int) : a.tdiv m = if 0 ≤ a then a / m else -((-a) / m) := by
  split
  · rename_i h; exact Int.tdiv_eq_ediv_of_nonneg h
  · rename_i h
    have e : a.tdiv m = -((-a).tdiv m) := by rw [Int.neg_tdiv]; simp
    rw [e, Int.tdiv_eq_ediv_of_nonneg (by omega)]
theorem isL_wf {a : Int} (h : (Lit.int .i64 a).wf = true) : isL a := by
  have : -9223372036854775808 ≤ a ∧ a ≤ 9223372036854775807 := by simpa [Lit.wf, IntKind.min, IntKind.max, IntKind.signed, IntKind.bits] using h
  exact this
theorem isI_isL {a : Int} (h : isI a) : isL a := by unfold isI at h; unfold isL; omega

theorem refRound (a : Int) (h : isL a) : larchref14_Round.f a = some (wrap32 a) := by
  unfold isL at h
  unfold larchref14_Round.f
  have e := tmod_if a 4294967296
  generalize a.tmod 4294967296 = r at *
  unfold wrap64 wrap32
  split at e <;> repeat' split
  all_goals (congr 1; omega)
theorem refIs (a : Int) : larchref14_is.f a = some (decide (isI a)) := by
  unfold larchref14_is.f
  by_cases h : a ≥ -2147483648
  · rw [if_pos h]
    congr 1
    rw [decide_eq_decide]
    unfold isI
    omega
  · rw [if_neg h]
    have : ¬ isI a := by unfold isI; omega
    simp [this]

theorem power_l0 (n : Nat) (hn : n ≤ 62) : ∀ (d k i : Nat), n - i = d → i ≤ n → d < k → larchref14_power.l0 k n ((2 ^ i : Nat) : Int) i = some ((2 ^ n : Nat) : Int) := by
  intro d
  induction d with
  | zero =>
    intro k i h1 h2 h3
    obtain ⟨k, rfl⟩ : ∃ m, k = m + 1 := ⟨k - 1, by omega⟩
    simp only [larchref14_power.l0]
    rw [if_neg (by omega), show i = n by omega]
  | succ d ih =>
    intro k i h1 h2 h3
    obtain ⟨k, rfl⟩ : ∃ m, k = m + 1 := ⟨k - 1, by omega⟩
    simp only [larchref14_power.l0]
    have hp : 2 ^ (i + 1) ≤ 2 ^ 62 := Nat.pow_le_pow_right (by omega) (by omega)
    have hp1 : 2 ^ (i + 1) = 2 * 2 ^ i := by rw [Nat.pow_succ]; omega
    have e1 : wrap64 (2 * ((2 ^ i : Nat) : Int)) = ((2 ^ (i + 1) : Nat) : Int) := by unfold wrap64; omega
    have e2 : wrap64 ((i : Int) + 1) = ((i + 1 : Nat) : Int) := by unfold wrap64; omega
    rw [if_pos (by omega), e1, e2]
    exact ih k (i + 1) (by omega) (by omega) (by omega)
theorem refPower (n : Nat) (hn : n ≤ 62) (k : Nat) (hk : n < k) : larchref14_power.f k n = some ((2 ^ n : Nat) : Int) := by
  unfold larchref14_power.f
  have := power_l0 n hn n k 0 (by omega) (by omega) hk
  simpa using this

theorem half_step (a : Int) (h : isL a) : isL (a / 2) := by unfold isL at *; omega
theorem under_l0 (n : Nat) (hn : n ≤ 64) : ∀ (d k i : Nat) (a : Int), isL a → n - i = d → i ≤ n → d < k → larchref14_under.l0 k a n i = some (a / 2 ^ d) := by
  intro d
  induction d with
  | zero =>
    intro k i a ha h1 h2 h3
    obtain ⟨k, rfl⟩ : ∃ m, k = m + 1 := ⟨k - 1, by omega⟩
    simp only [larchref14_under.l0]
    rw [if_neg (by omega)]
    simp
  | succ d ih =>
    intro k i a ha h1 h2 h3
    obtain ⟨k, rfl⟩ : ∃ m, k = m + 1 := ⟨k - 1, by omega⟩
    simp only [larchref14_under.l0]
    have e2 : wrap64 ((i : Int) + 1) = ((i + 1 : Nat) : Int) := by unfold wrap64; omega
    have e3 : a / 2 ^ (d + 1) = a / 2 / 2 ^ d := by
      rw [Int.pow_succ, Int.mul_comm, Int.ediv_ediv_of_nonneg (by decide)]
    have hh := half_step a ha
    rw [if_pos (by omega), e2, e3, ← ih k (i + 1) (a / 2) hh (by omega) (by omega) (by omega)]
    have hm := tmod_if a 2
    have hd := tdiv_if a 2
    unfold isL at ha
    split
    · rw [if_neg (by omega)] at hm hd
      split
      · rw [show wrap64 (a.tdiv 2) = a / 2 by rw [hd]; unfold wrap64; omega]
      · rw [show wrap64 (wrap64 (a.tdiv 2) - 1) = a / 2 by rw [hd]; unfold wrap64; omega]
    · rw [if_pos (by omega)] at hd
      rw [show wrap64 (a.tdiv 2) = a / 2 by rw [hd]; unfold wrap64; omega]
theorem refUnder (a : Int) (ha : isL a) (n : Nat) (hn : n ≤ 64) (k : Nat) (hk : n < k) : larchref14_under.f k a n = some (a / 2 ^ n) := by
  unfold larchref14_under.f
  have := under_l0 n hn n k 0 a ha (by omega) (by omega) hk
  simpa using this

theorem by32 (b : Int) (h : isL b) : (if b.tmod 32 < 0 then wrap64 (b.tmod 32 + 32) else b.tmod 32) = b % 32 := by
  have e := tmod_if b 32
  unfold wrap64
  split at e <;> split <;> omega
theorem by64 (b : Int) (h : isL b) : (if b.tmod 64 < 0 then wrap64 (b.tmod 64 + 64) else b.tmod 64) = b % 64 := by
  have e := tmod_if b 64
  unfold wrap64
  split at e <;> split <;> omega
end Go.Proofs.Ytencepjebdadcaa.A
