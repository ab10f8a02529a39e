/- Plain arithmetic: going bit by bit through two numbers is and, or, xor of them. -/
import Derived.Test.YtencepjebdadcaaM1
namespace Go.Proofs.Ytencepjebdadcaa.A
open Go.RowKit

/-- bit by bit, over natural numbers -/
def bitsN (f : Bool → Bool → Bool) : Nat → Nat → Nat → Nat
  | 0, _, _ => 0
  | n + 1, x, y => (if f (x % 2 == 1) (y % 2 == 1) then 1 else 0) + 2 * bitsN f n (x / 2) (y / 2)
theorem bitsN_lt (f : Bool → Bool → Bool) : ∀ n x y, bitsN f n x y < 2 ^ n
  | 0, _, _ => by simp [bitsN]
  | n + 1, x, y => by
    have := bitsN_lt f n (x / 2) (y / 2)
    simp only [bitsN, Nat.pow_succ]
    split <;> omega
theorem bitsN_testBit (f : Bool → Bool → Bool) : ∀ n x y i, (bitsN f n x y).testBit i = (decide (i < n) && f (x.testBit i) (y.testBit i))
  | 0, x, y, i => by simp [bitsN]
  | n + 1, x, y, i => by
    have ih := bitsN_testBit f n (x / 2) (y / 2)
    cases i with
    | zero =>
      have hx : x.testBit 0 = (x % 2 == 1) := by rw [Nat.testBit_zero, Bool.eq_iff_iff]; simp
      have hy : y.testBit 0 = (y % 2 == 1) := by rw [Nat.testBit_zero, Bool.eq_iff_iff]; simp
      rw [hx, hy, Nat.testBit_zero]
      simp only [bitsN]
      rw [Bool.eq_iff_iff]
      by_cases ht : f (x % 2 == 1) (y % 2 == 1) = true
      · simp only [ht, if_true, Nat.zero_lt_succ, decide_true, Bool.true_and, decide_eq_true_eq]
        constructor
        · intro _; trivial
        · intro _; omega
      · have ht' : f (x % 2 == 1) (y % 2 == 1) = false := by simpa using ht
        simp only [ht', Bool.false_eq_true, if_false, Nat.zero_lt_succ, decide_true, Bool.true_and, decide_eq_true_eq]
        constructor
        · intro h; omega
        · intro h; exact h.elim
    | succ i =>
      rw [Nat.testBit_succ, Nat.testBit_succ, Nat.testBit_succ]
      have h : bitsN f (n + 1) x y / 2 = bitsN f n (x / 2) (y / 2) := by
        simp only [bitsN]
        split <;> omega
      rw [h, ih]
      simp
theorem bitsN_and (n x y : Nat) : bitsN (fun p q => p && q) n x y = (x &&& y) % 2 ^ n := by
  apply Nat.eq_of_testBit_eq
  intro i
  rw [bitsN_testBit, Nat.testBit_mod_two_pow, Nat.testBit_and]
theorem bitsN_or (n x y : Nat) : bitsN (fun p q => p || q) n x y = (x ||| y) % 2 ^ n := by
  apply Nat.eq_of_testBit_eq
  intro i
  rw [bitsN_testBit, Nat.testBit_mod_two_pow, Nat.testBit_or]
theorem bitsN_xor (n x y : Nat) : bitsN (fun p q => p != q) n x y = (x ^^^ y) % 2 ^ n := by
  apply Nat.eq_of_testBit_eq
  intro i
  rw [bitsN_testBit, Nat.testBit_mod_two_pow, Nat.testBit_xor]

theorem tmod_two (x : Nat) : (((x : Int).tmod 2) == 1) = (x % 2 == 1) := by
  rw [Int.tmod_eq_emod_of_nonneg (by omega), Bool.eq_iff_iff]
  simp only [beq_iff_eq]
  omega
end Go.Proofs.Ytencepjebdadcaa.A
