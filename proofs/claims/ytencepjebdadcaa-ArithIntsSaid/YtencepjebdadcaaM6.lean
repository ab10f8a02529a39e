/- The reference's Int comes to what arith.Int comes to. -/
import Derived.Test.YtencepjebdadcaaM5
import Derived.Test.YtencepjebdadcaaAx2
namespace Go.Proofs.Ytencepjebdadcaa.A
open Go.RowKit Go.Proofs.Ytencepjebdadcaa.A.P Go.Proofs.YtencepjebdadcaaW.PrintWords
set_option linter.unusedVariables false
set_option linter.unusedSimpArgs false

theorem cast_pow (n : Nat) : ((2 ^ n : Nat) : Int) = (2 : Int) ^ n := by simp
theorem refRoundW (x : Int) : larchref14_Round.f (wrap64 x) = some (wrap32 x) := by rw [refRound _ (wrap64_isL x), wrap32_wrap64]

theorem bits_val0 : wrap64 (Int.tdiv (wrap64 (126 - 126)) 2) = 0 := by simp [wrap64]
theorem bits_val1 : wrap64 (Int.tdiv (wrap64 (128 - 126)) 2) = 1 := by simp [wrap64]
theorem bits_val2 : wrap64 (Int.tdiv (wrap64 (130 - 126)) 2) = 2 := by simp [wrap64]

theorem ref_j3 (K : Nat) (op a b : Int) (h : op = 126 ∨ op = 128 ∨ op = 130) : larchref14_Int.j3 (K + 1) op a b true = some (doS op a b) := by
  simp only [larchref14_Int.j3, if_true]
  rcases h with rfl | rfl | rfl
  · have e : larchref14_bits.f 0 a b 32 = some (wrap64 (bitsL (fun p q => p && q) 32 (IntKind.u64.wrap a) (IntKind.u64.wrap b) 0 1)) := by
      unfold larchref14_bits.f; rw [if_pos (by omega), if_pos rfl]; rfl
    rw [bits_val0, e, Option.bind_some, refRoundW, Option.bind_some, int_and]
    simp [doS]
  · have e : larchref14_bits.f 1 a b 32 = some (wrap64 (bitsL (fun p q => p || q) 32 (IntKind.u64.wrap a) (IntKind.u64.wrap b) 0 1)) := by
      unfold larchref14_bits.f; rw [if_pos (by omega), if_neg (by omega), if_pos rfl]; rfl
    rw [bits_val1, e, Option.bind_some, refRoundW, Option.bind_some, int_or]
    simp [doS]
  · have e : larchref14_bits.f 2 a b 32 = some (wrap64 (bitsL (fun p q => p != q) 32 (IntKind.u64.wrap a) (IntKind.u64.wrap b) 0 1)) := by
      unfold larchref14_bits.f; rw [if_pos (by omega), if_neg (by omega), if_neg (by omega), if_pos rfl]; rfl
    rw [bits_val2, e, Option.bind_some, refRoundW, Option.bind_some, int_xor]
    simp [doS]

theorem ref_j1 (K : Nat) (op a b : Int) (ha : isI a) (hb : isI b) : larchref14_Int.j1 (K + 70) op a b (b % 32) = some (doS op a b) := by
  obtain ⟨n, hn⟩ := Int.eq_ofNat_of_zero_le (Int.emod_nonneg b (show (32 : Int) ≠ 0 by decide))
  have hn31 : n ≤ 31 := by omega
  have hnt : (b % 32).toNat = n := by omega
  have haL := isI_isL ha
  simp only [larchref14_Int.j1]
  by_cases c96 : op = 96
  · subst c96; rw [if_pos rfl, refRoundW, Option.bind_some]; simp [doS]
  rw [if_neg c96]
  by_cases c100 : op = 100
  · subst c100; rw [if_pos rfl, refRoundW, Option.bind_some]; simp [doS]
  rw [if_neg c100]
  by_cases c104 : op = 104
  · subst c104; rw [if_pos rfl, refRoundW, Option.bind_some]; simp [doS]
  rw [if_neg c104]
  by_cases c108 : op = 108
  · subst c108
    rw [if_pos rfl]
    simp only [larchref14_Int.j2, beq_self_eq_true, if_true]
    by_cases h0 : b = 0
    · rw [if_pos h0]; simp [doS, h0]
    · rw [if_neg h0, refRoundW, Option.bind_some]; simp [doS, h0]
  rw [if_neg c108]
  by_cases c112 : op = 112
  · subst c112
    simp only [larchref14_Int.j2, beq_self_eq_true, if_true]
    by_cases h0 : b = 0
    · rw [if_pos h0]; simp [doS, h0]
    · rw [if_neg h0, if_neg (by omega)]; simp [doS, h0]
  have hne : (op == 112) = false := beq_eq_false_iff_ne.2 c112
  simp only [larchref14_Int.j2, hne, Bool.false_eq_true, if_false]
  by_cases c120 : op = 120
  · subst c120
    rw [if_pos rfl, hn, refPower n (by omega) _ (by omega), Option.bind_some, refRoundW, Option.bind_some, cast_pow]
    simp [doS, hn]
  rw [if_neg c120]
  by_cases c122 : op = 122
  · subst c122
    rw [if_pos rfl, hn, refUnder a haL n (by omega) _ (by omega), Option.bind_some]
    simp [doS, hn]
  rw [if_neg c122]
  by_cases c124 : op = 124
  · subst c124
    rw [if_pos rfl, hn]
    have hmod : isL (a % 4294967296) := by unfold isL; omega
    have hdiv : isL (a % 4294967296 / 2 ^ n) := ediv_pow_small _ _ _ _ (by omega) (by omega) hmod
    have hI := ha
    unfold isI at hI
    by_cases hneg : a < 0
    · rw [if_pos hneg, show wrap64 (a + 4294967296) = a % 4294967296 by unfold wrap64; omega, refUnder _ hmod n (by omega) _ (by omega), Option.bind_some, refRound _ hdiv, Option.bind_some]
      simp [doS, hn]
    · have e : a = a % 4294967296 := by omega
      rw [if_neg hneg, refUnder a haL n (by omega) _ (by omega), Option.bind_some, refRound (a / 2 ^ n) (by rw [e]; exact hdiv), Option.bind_some]
      simp [doS, hn, ← e]
  rw [if_neg c124]
  by_cases c126 : op = 126
  · subst c126; rw [if_pos rfl, beq_self_eq_true]; exact ref_j3 _ _ a b (by simp)
  rw [if_neg c126]
  by_cases c128 : op = 128
  · subst c128; rw [if_pos rfl, beq_self_eq_true]; exact ref_j3 _ _ a b (by simp)
  rw [if_neg c128]
  by_cases c130 : op = 130
  · subst c130; rw [beq_self_eq_true]; exact ref_j3 _ _ a b (by simp)
  have hne : (op == 130) = false := beq_eq_false_iff_ne.2 c130
  rw [hne]
  simp [larchref14_Int.j3, doS, c96, c100, c104, c108, c112, c120, c122, c124, c126, c128, c130]

theorem refInt (K : Nat) (op a b : Int) (hb : isL b) : larchref14_Int.f (K + 71) op a b = some (if isI a ∧ isI b then doS op a b else (0, 2)) := by
  unfold larchref14_Int.f
  rw [refIs, Option.bind_some, refIs]
  by_cases h1 : isI a
  · by_cases h2 : isI b
    · simp only [h1, h2, decide_true, if_true, Option.bind_some, Bool.not_true, larchref14_Int.j0, Bool.false_eq_true, if_false, and_self]
      have h := ref_j1 K op a b h1 h2
      rw [← by32 b hb] at h
      split at h
      · rename_i hh; rw [if_pos hh]; exact h
      · rename_i hh; rw [if_neg hh]; exact h
    · simp [h1, h2, larchref14_Int.j0]
  · simp [h1, larchref14_Int.j0]

theorem roundA (a : Int) : arith_Round.f a = some (wrap32 a) := by
  unfold arith_Round.f
  congr 1
  unfold wrap64 wrap32
  omega
theorem int_true {op a b : Int} {r : Int × Int} (ha : isI a) (hb : isI b) (h : doS op a b = r) : arith_Int.f op a b = some r := by
  unfold arith_Int.f
  rw [if_pos ⟨ha, hb⟩, h]
theorem works_true : larchlaw14_works.f = some true := by
  unfold larchlaw14_works.f
  rw [int_true (r := (-2147483648, 0)) (by unfold isI; omega) (by unfold isI; omega) (by simp [doS, wrap32]),
    int_true (r := (15, 0)) (by unfold isI; omega) (by unfold isI; omega) (by simp [doS, wrap32]),
    int_true (r := (-3, 0)) (by unfold isI; omega) (by unfold isI; omega) (by simp [doS, wrap32]),
    int_true (r := (0, 5)) (by unfold isI; omega) (by unfold isI; omega) (by simp [doS]), roundA]
  simp [wrap32]
end Go.Proofs.Ytencepjebdadcaa.A
