/- Plain arithmetic: what the operations of ints and longs come to, as functions of whole numbers. -/
import Derived.IntWalk
import Derived.Laws.Bits64
import Derived.Laws.Bits64b
namespace Go.Proofs.Ytencepjebdadcaa.A
open Go.RowKit

theorem and_mask5 (b : Int) : bits .and .u64 (IntKind.u64.wrap b) 31 = b % 32 := by
  rw [IntKind.wrap_u64]
  obtain ⟨x, hx⟩ := Int.eq_ofNat_of_zero_le (Int.emod_nonneg b (show (18446744073709551616 : Int) ≠ 0 by decide))
  have hlt : x < 18446744073709551616 := by omega
  rw [hx, show (31 : Int) = ((31 : Nat) : Int) from rfl, bits_and_u64_nat x 31 hlt (by omega), show (31 : Nat) = 2 ^ 5 - 1 from rfl, Nat.and_two_pow_sub_one_eq_mod]
  omega
theorem and_mask6 (b : Int) : bits .and .u64 (IntKind.u64.wrap b) 63 = b % 64 := by
  rw [IntKind.wrap_u64]
  obtain ⟨x, hx⟩ := Int.eq_ofNat_of_zero_le (Int.emod_nonneg b (show (18446744073709551616 : Int) ≠ 0 by decide))
  have hlt : x < 18446744073709551616 := by omega
  rw [hx, show (63 : Int) = ((63 : Nat) : Int) from rfl, bits_and_u64_nat x 63 hlt (by omega), show (63 : Nat) = 2 ^ 6 - 1 from rfl, Nat.and_two_pow_sub_one_eq_mod]
  omega

/-- an int -/
def isI (a : Int) : Prop := -2147483648 ≤ a ∧ a ≤ 2147483647
instance (a : Int) : Decidable (isI a) := inferInstanceAs (Decidable (_ ∧ _))
/-- a long -/
def isL (a : Int) : Prop := -9223372036854775808 ≤ a ∧ a ≤ 9223372036854775807

/-- an operation of ints, told by its number -/
def doS (op a b : Int) : Int × Int :=
  if op = 96 then (wrap32 (a + b), 0) else if op = 100 then (wrap32 (a - b), 0) else if op = 104 then (wrap32 (a * b), 0) else
  if op = 108 then (if b = 0 then (0, 5) else (wrap32 (a.tdiv b), 0)) else if op = 112 then (if b = 0 then (0, 5) else (a.tmod b, 0)) else
  if op = 120 then (wrap32 (a * 2 ^ (b % 32).toNat), 0) else if op = 122 then (a / 2 ^ (b % 32).toNat, 0) else if op = 124 then (wrap32 (a % 4294967296 / 2 ^ (b % 32).toNat), 0) else
  if op = 126 then (bits .and .i32 a b, 0) else if op = 128 then (bits .or .i32 a b, 0) else if op = 130 then (bits .xor .i32 a b, 0) else (0, 2)
/-- an operation of longs, told by the number that it has of ints -/
def doL (op a b : Int) : Int × Int :=
  if op = 96 then (wrap64 (a + b), 0) else if op = 100 then (wrap64 (a - b), 0) else if op = 104 then (wrap64 (a * b), 0) else
  if op = 108 then (if b = 0 then (0, 5) else (wrap64 (a.tdiv b), 0)) else if op = 112 then (if b = 0 then (0, 5) else (a.tmod b, 0)) else
  if op = 120 then (wrap64 (a * 2 ^ (b % 64).toNat), 0) else if op = 122 then (a / 2 ^ (b % 64).toNat, 0) else if op = 124 then (wrap64 (a % 18446744073709551616 / 2 ^ (b % 64).toNat), 0) else
  if op = 126 then (bits .and .i64 a b, 0) else if op = 128 then (bits .or .i64 a b, 0) else if op = 130 then (bits .xor .i64 a b, 0) else (0, 2)

theorem wrap32_isI (n : Int) : isI (wrap32 n) := by unfold isI wrap32; omega
theorem wrap64_isL (n : Int) : isL (wrap64 n) := by unfold isL wrap64; omega
theorem wrap_i32_isI (n : Int) : isI (IntKind.i32.wrap n) := by rw [IntKind.wrap_i32]; unfold isI; omega
theorem wrap_i64_isL (n : Int) : isL (IntKind.i64.wrap n) := by rw [IntKind.wrap_i64]; unfold isL; omega
theorem tmod_small (a b : Int) (lo hi : Int) (hlo : lo ≤ 0) (hhi : 0 ≤ hi) (h : lo ≤ a ∧ a ≤ hi) : lo ≤ a.tmod b ∧ a.tmod b ≤ hi := by
  have h1 := Int.natAbs_tmod a b
  have h2 := Nat.mod_le a.natAbs b.natAbs
  rcases Int.le_total 0 a with h0 | h0
  · have h3 := Int.tmod_nonneg b h0
    omega
  · have e : a.tmod b = -((-a).tmod b) := by rw [Int.neg_tmod]; simp
    have h3 := Int.tmod_nonneg b (show 0 ≤ -a by omega)
    omega
theorem ediv_pow_small (a : Int) (n : Nat) (lo hi : Int) (hlo : lo ≤ -1) (hhi : 0 ≤ hi) (h : lo ≤ a ∧ a ≤ hi) : lo ≤ a / 2 ^ n ∧ a / 2 ^ n ≤ hi := by
  have hp : (1 : Int) ≤ 2 ^ n := by have : 0 < (2 : Int) ^ n := Int.pow_pos (by decide); omega
  constructor
  · have : lo * 2 ^ n ≤ a := by
      have := Int.mul_le_mul_of_nonpos_left (a := lo) (by omega) hp
      omega
    exact (Int.le_ediv_iff_mul_le (by omega)).2 this
  · rcases Int.le_total 0 a with h0 | h0
    · have := Int.ediv_le_self (2 ^ n) h0
      omega
    · have : a / 2 ^ n ≤ 0 := by
        have := Int.ediv_le_ediv (show (0 : Int) < 2 ^ n by omega) h0
        simpa using this
      omega
theorem doS_isI (op a b : Int) (ha : isI a) : isI (doS op a b).1 := by
  have h0 : isI 0 := by unfold isI; omega
  have h1 : isI (a.tmod b) := tmod_small a b _ _ (by omega) (by omega) ha
  have h2 : isI (a / 2 ^ (b % 32).toNat) := ediv_pow_small a _ _ _ (by omega) (by omega) ha
  unfold doS
  repeat' (first | exact wrap32_isI _ | exact h0 | exact h1 | exact h2 | exact wrap_i32_isI _ | split)
theorem doL_isL (op a b : Int) (ha : isL a) : isL (doL op a b).1 := by
  have h0 : isL 0 := by unfold isL; omega
  have h1 : isL (a.tmod b) := tmod_small a b _ _ (by omega) (by omega) ha
  have h2 : isL (a / 2 ^ (b % 64).toNat) := ediv_pow_small a _ _ _ (by omega) (by omega) ha
  unfold doL
  repeat' (first | exact wrap64_isL _ | exact h0 | exact h1 | exact h2 | exact wrap_i64_isL _ | split)
end Go.Proofs.Ytencepjebdadcaa.A
