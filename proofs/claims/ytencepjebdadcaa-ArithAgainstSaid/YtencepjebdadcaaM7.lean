/- The reference's Long comes to what arith.Long comes to. -/
import Derived.Test.YtencepjebdadcaaM6
import Derived.Test.YtencepjebdadcaaAx3
namespace Go.Proofs.Ytencepjebdadcaa.A
open Go.RowKit Go.Proofs.Ytencepjebdadcaa.A.P Go.Proofs.YtencepjebdadcaaW.PrintWords
set_option linter.unusedVariables false
set_option linter.unusedSimpArgs false

theorem long_l0 (n : Nat) (hn : n ≤ 64) : ∀ (d k i : Nat) (a : Int), n - i = d → i ≤ n → d < k → larchref14_Long.l0 k (wrap64 a) n i = some (wrap64 (a * 2 ^ d), 0) := by
  intro d
  induction d with
  | zero =>
    intro k i a h1 h2 h3
    obtain ⟨k, rfl⟩ : ∃ m, k = m + 1 := ⟨k - 1, by omega⟩
    simp only [larchref14_Long.l0]
    rw [if_neg (by omega)]
    simp
  | succ d ih =>
    intro k i a h1 h2 h3
    obtain ⟨k, rfl⟩ : ∃ m, k = m + 1 := ⟨k - 1, by omega⟩
    simp only [larchref14_Long.l0]
    have e2 : wrap64 ((i : Int) + 1) = ((i + 1 : Nat) : Int) := by unfold wrap64; omega
    have e3 : wrap64 (wrap64 a + wrap64 a) = wrap64 (a * 2) := by unfold wrap64; omega
    rw [if_pos (by omega), e2, e3, ih k (i + 1) (a * 2) (by omega) (by omega) (by omega)]
    rw [Int.mul_assoc, Int.pow_succ, Int.mul_comm (2 ^ d) 2]
theorem long_l1 (n : Nat) (hn : n ≤ 64) : ∀ (d k i x : Nat), x < 18446744073709551616 → n - i = d → i ≤ n → d < k → larchref14_Long.l1 k n x i = some (wrap64 ((x / 2 ^ d : Nat) : Int), 0) := by
  intro d
  induction d with
  | zero =>
    intro k i x hx h1 h2 h3
    obtain ⟨k, rfl⟩ : ∃ m, k = m + 1 := ⟨k - 1, by omega⟩
    simp only [larchref14_Long.l1]
    rw [if_neg (by omega)]
    simp
  | succ d ih =>
    intro k i x hx h1 h2 h3
    obtain ⟨k, rfl⟩ : ∃ m, k = m + 1 := ⟨k - 1, by omega⟩
    simp only [larchref14_Long.l1]
    have e2 : wrap64 ((i : Int) + 1) = ((i + 1 : Nat) : Int) := by unfold wrap64; omega
    rw [if_pos (by omega), e2, half_u64 x hx, ih k (i + 1) (x / 2) (by omega) (by omega) (by omega) (by omega)]
    rw [Nat.div_div_eq_div_mul, Nat.pow_succ, Nat.mul_comm]

theorem lbits_val0 : wrap64 (Int.tdiv (wrap64 (127 - 127)) 2) = 0 := by simp [wrap64]
theorem lbits_val1 : wrap64 (Int.tdiv (wrap64 (129 - 127)) 2) = 1 := by simp [wrap64]
theorem lbits_val2 : wrap64 (Int.tdiv (wrap64 (131 - 127)) 2) = 2 := by simp [wrap64]
/-- what arith.Long comes to -/
def longP (op a b : Int) : Int × Int := if op = 148 then (cmpP a b, 0) else doL (wrap64 (op - 1)) a b
theorem longP_of {op a b : Int} (h : op ≠ 148) (h' : -9223372036854775807 ≤ op) (h2 : op ≤ 9223372036854775807) : longP op a b = doL (op - 1) a b := by
  unfold longP
  rw [if_neg h, show wrap64 (op - 1) = op - 1 by unfold wrap64; omega]

theorem ref_j4 (K : Nat) (op a b : Int) (h : op = 127 ∨ op = 129 ∨ op = 131) : larchref14_Long.j4 (K + 1) op a b op true = some (longP op a b) := by
  rw [longP_of (by omega) (by omega) (by omega)]
  simp only [larchref14_Long.j4, if_true]
  rcases h with rfl | rfl | rfl
  · have e : larchref14_bits.f 0 a b 64 = some (wrap64 (bitsL (fun p q => p && q) 64 (IntKind.u64.wrap a) (IntKind.u64.wrap b) 0 1)) := by
      unfold larchref14_bits.f; rw [if_pos (by omega), if_pos rfl]; rfl
    rw [lbits_val0, e, Option.bind_some, long_and]
    simp [doL]
  · have e : larchref14_bits.f 1 a b 64 = some (wrap64 (bitsL (fun p q => p || q) 64 (IntKind.u64.wrap a) (IntKind.u64.wrap b) 0 1)) := by
      unfold larchref14_bits.f; rw [if_pos (by omega), if_neg (by omega), if_pos rfl]; rfl
    rw [lbits_val1, e, Option.bind_some, long_or]
    simp [doL]
  · have e : larchref14_bits.f 2 a b 64 = some (wrap64 (bitsL (fun p q => p != q) 64 (IntKind.u64.wrap a) (IntKind.u64.wrap b) 0 1)) := by
      unfold larchref14_bits.f; rw [if_pos (by omega), if_neg (by omega), if_neg (by omega), if_pos rfl]; rfl
    rw [lbits_val2, e, Option.bind_some, long_xor]
    simp [doL]

theorem tdiv_one (a : Int) : a.tdiv (-1) = -a := by rw [Int.tdiv_neg, Int.tdiv_one]
theorem tmod_one (a : Int) : a.tmod (-1) = 0 := by rw [Int.tmod_neg, Int.tmod_one]

theorem ref_l_j0 (K : Nat) (op a b : Int) (hop : isL op) (ha : isL a) (hb : isL b) : larchref14_Long.j0 (K + 70) op a b (b % 64) = some (longP op a b) := by
  obtain ⟨n, hn⟩ := Int.eq_ofNat_of_zero_le (Int.emod_nonneg b (show (64 : Int) ≠ 0 by decide))
  have hn31 : n ≤ 63 := by omega
  simp only [larchref14_Long.j0]
  by_cases c96 : op = 97
  · subst c96; rw [if_pos rfl, longP_of (by omega) (by omega) (by omega)]; simp [doL]
  rw [if_neg c96]
  by_cases c100 : op = 101
  · subst c100; rw [if_pos rfl, longP_of (by omega) (by omega) (by omega)]; simp [doL]
  rw [if_neg c100]
  by_cases c104 : op = 105
  · subst c104; rw [if_pos rfl, longP_of (by omega) (by omega) (by omega)]; simp [doL]
  rw [if_neg c104]
  by_cases c108 : op = 109
  · subst c108
    rw [if_pos rfl, longP_of (by omega) (by omega) (by omega)]
    simp only [larchref14_Long.j1, beq_self_eq_true, if_true]
    by_cases h0 : b = 0
    · rw [if_pos h0]; simp [doL, h0]
    · rw [if_neg h0]
      by_cases h1 : b = -1
      · subst h1; simp [doL, tdiv_one]
      · rw [if_neg h1]; simp [doL, h0]
  rw [if_neg c108]
  by_cases c112 : op = 113
  · subst c112
    rw [longP_of (by omega) (by omega) (by omega)]
    simp only [larchref14_Long.j1, beq_self_eq_true, if_true]
    by_cases h0 : b = 0
    · rw [if_pos h0]; simp [doL, h0]
    · rw [if_neg h0]
      by_cases h1 : b = -1
      · subst h1; simp [doL, tmod_one]
      · rw [if_neg h1]; simp [doL, h0]
  have hne : (op == 113) = false := beq_eq_false_iff_ne.2 c112
  simp only [larchref14_Long.j1, hne, Bool.false_eq_true, if_false]
  by_cases c120 : op = 121
  · subst c120
    rw [if_pos rfl, hn, longP_of (by omega) (by omega) (by omega)]
    have h := long_l0 n (by omega) n (K + 68) 0 a (by omega) (by omega) (by omega)
    rw [wrap64_same ha] at h
    have h' : larchref14_Long.l0 (K + 68) a n 0 = some (wrap64 (a * 2 ^ n), 0) := h
    rw [h']
    simp [doL, hn]
  rw [if_neg c120]
  by_cases c122 : op = 123
  · subst c122
    rw [if_pos rfl, hn, refUnder a ha n (by omega) _ (by omega), Option.bind_some, longP_of (by omega) (by omega) (by omega)]
    simp [doL, hn]
  rw [if_neg c122]
  by_cases c124 : op = 125
  · subst c124
    rw [if_pos rfl, hn, longP_of (by omega) (by omega) (by omega)]
    have hx : IntKind.u64.wrap a = (((a % 18446744073709551616).toNat : Nat) : Int) := by rw [IntKind.wrap_u64]; omega
    have h := long_l1 n (by omega) n (K + 68) 0 (a % 18446744073709551616).toNat (by omega) (by omega) (by omega) (by omega)
    have h' : larchref14_Long.l1 (K + 68) n (IntKind.u64.wrap a) 0 = some (wrap64 (((a % 18446744073709551616).toNat / 2 ^ n : Nat) : Int), 0) := by rw [hx]; exact h
    rw [h']
    have e : ((((a % 18446744073709551616).toNat / 2 ^ n : Nat)) : Int) = a % 18446744073709551616 / 2 ^ n := by
      rw [Int.natCast_ediv, Int.toNat_of_nonneg (Int.emod_nonneg _ (by decide)), cast_pow]
    rw [e]
    simp [doL, hn]
  rw [if_neg c124]
  by_cases c126 : op = 127
  · subst c126; rw [if_pos rfl, beq_self_eq_true]; exact ref_j4 _ _ a b (by simp)
  rw [if_neg c126]
  by_cases c128 : op = 129
  · subst c128; rw [if_pos rfl, beq_self_eq_true]; exact ref_j4 _ _ a b (by simp)
  rw [if_neg c128]
  by_cases c130 : op = 131
  · subst c130; rw [beq_self_eq_true]; exact ref_j4 _ _ a b (by simp)
  have hne : (op == 131) = false := beq_eq_false_iff_ne.2 c130
  rw [hne]
  simp only [larchref14_Long.j4, Bool.false_eq_true, if_false]
  by_cases c148 : op = 148
  · subst c148
    simp only [longP, if_true, cmpP, gt_iff_lt]
    repeat' split
    all_goals rfl
  · rw [if_neg c148]
    congr 1
    unfold longP
    rw [if_neg c148]
    have ne : ∀ c : Int, op ≠ c + 1 → 0 ≤ c → c ≤ 200 → ¬ wrap64 (op - 1) = c := by
      intro c h h0 h1 h2
      unfold isL at hop
      unfold wrap64 at h2
      omega
    unfold doL
    rw [if_neg (ne 96 c96 (by omega) (by omega)), if_neg (ne 100 c100 (by omega) (by omega)), if_neg (ne 104 c104 (by omega) (by omega)), if_neg (ne 108 c108 (by omega) (by omega)), if_neg (ne 112 c112 (by omega) (by omega)),
      if_neg (ne 120 c120 (by omega) (by omega)), if_neg (ne 122 c122 (by omega) (by omega)), if_neg (ne 124 c124 (by omega) (by omega)), if_neg (ne 126 c126 (by omega) (by omega)), if_neg (ne 128 c128 (by omega) (by omega)), if_neg (ne 130 c130 (by omega) (by omega))]

theorem refLong (K : Nat) (op a b : Int) (hop : isL op) (ha : isL a) (hb : isL b) : larchref14_Long.f (K + 70) op a b = some (longP op a b) := by
  unfold larchref14_Long.f
  have h := ref_l_j0 K op a b hop ha hb
  rw [← by64 b hb] at h
  split at h
  · rename_i hh; rw [if_pos hh]; exact h
  · rename_i hh; rw [if_neg hh]; exact h
theorem long_f (op a b : Int) (hop : isL op) (ha : isL a) (hb : isL b) : arith_Long.f op a b = some (longP op a b) := by
  unfold arith_Long.f longP
  rw [if_pos ⟨hop, ha, hb⟩]
  split <;> rfl
end Go.Proofs.Ytencepjebdadcaa.A
