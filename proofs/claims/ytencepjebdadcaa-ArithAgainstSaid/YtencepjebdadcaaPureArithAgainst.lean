/- The plain statement of ArithAgainst: each condition is just where its neighbour is not, and comparing longs tells what comparing ints does. -/
import Derived.Test.YtencepjebdadcaaM7
import Derived.Test.YtencepjebdadcaaAx4
namespace Go.Proofs.Ytencepjebdadcaa.Pure
open Go.RowKit Go.Proofs.Ytencepjebdadcaa.A.P Go.Proofs.Ytencepjebdadcaa.A Go.Proofs.YtencepjebdadcaaW.PrintWords Go.Proofs.YtencepjebdadcaaW.PrintLast
set_option linter.unusedVariables false
set_option linter.unusedSimpArgs false
namespace Against

theorem among_six (x : Int) : ∃ r : Int, larchbase_Among.f x 6 = some r ∧ 0 ≤ r ∧ r ≤ 5 := by
  unfold larchbase_Among.f
  have e1 : IntKind.u64.wrap 6 = 6 := IntWalk.u64_in 6 (by omega)
  have h3 : 0 ≤ IntKind.u64.wrap x := by rw [IntKind.wrap_u64]; exact Int.emod_nonneg _ (by omega)
  rw [if_neg (by omega), e1, if_neg (by omega), Int.tmod_eq_emod_of_nonneg h3]
  refine ⟨_, rfl, ?_⟩
  have h4 : 0 ≤ IntKind.u64.wrap x % 6 := Int.emod_nonneg _ (by omega)
  have h5 : IntKind.u64.wrap x % 6 < 6 := Int.emod_lt_of_pos _ (by omega)
  generalize IntKind.u64.wrap x % 6 = r at *
  unfold wrap64
  omega
theorem if_f (op a b : Int) (ha : isI a) (hb : isI b) (h1 : 153 ≤ op) (h2 : op ≤ 164) : arith_If.f op a b = some (if op < 159 then ifP (op + 6) a 0 else ifP op a b, 0) := by
  unfold arith_If.f
  rw [if_pos ⟨⟨ha, hb⟩, h1, h2⟩]
theorem ifP_next (op a b : Int) (h : op = 159 ∨ op = 161 ∨ op = 163) : (ifP op a b != ifP (op + 1) a b) = true := by
  rcases h with rfl | rfl | rfl
  · simp only [ifP]
    by_cases h : a = b
    · subst h; simp
    · have e : (a == b) = false := beq_eq_false_iff_ne.2 h
      simp [bne, e]
  · simp only [ifP]; by_cases h : a < b <;> simp [h]
  · simp only [ifP]; by_cases h : b < a <;> simp [h]
end Against

theorem ArithAgainst : larchlaw14_ArithAgainst.Pure := by
  intro op a b h0 h1 h2
  obtain ⟨r, hr, r0, r5⟩ := Against.among_six op
  have ha := wrap32_isI a
  have hb := wrap32_isI b
  unfold larchlaw14_ArithAgainst.f
  rw [works_true, Option.bind_some, if_pos rfl, roundA, Option.bind_some, roundA, Option.bind_some, hr, Option.bind_some]
  generalize wrap32 a = x at *
  generalize wrap32 b = y at *
  have e1 : wrap64 (153 + wrap64 (2 * r)) = 153 + 2 * r := by unfold wrap64; omega
  have e2 : wrap64 (153 + 2 * r + 1) = 153 + 2 * r + 1 := by unfold wrap64; omega
  have hne : ((if 153 + 2 * r < 159 then ifP (153 + 2 * r + 6) x 0 else ifP (153 + 2 * r) x y) != (if 153 + 2 * r + 1 < 159 then ifP (153 + 2 * r + 1 + 6) x 0 else ifP (153 + 2 * r + 1) x y)) = true := by
    by_cases hc : r ≤ 2
    · rw [if_pos (by omega), if_pos (by omega), show 153 + 2 * r + 1 + 6 = 153 + 2 * r + 6 + 1 by omega]
      exact Against.ifP_next _ _ _ (by omega)
    · rw [if_neg (by omega), if_neg (by omega)]
      exact Against.ifP_next _ _ _ (by omega)
  rw [e1, Against.if_f _ x y ha hb (by omega) (by omega), Option.bind_some, e2, Against.if_f _ x y ha hb (by omega) (by omega), Option.bind_some]
  rw [long_f 148 x y (by unfold isL; omega) (isI_isL ha) (isI_isL hb), Option.bind_some, Against.if_f 161 x y ha hb (by omega) (by omega), Option.bind_some]
  rw [if_pos rfl, if_pos rfl, if_pos hne, if_pos (by simp [longP]), if_pos rfl]
  congr 1
  rw [beq_iff_eq, if_neg (by omega)]
  simp only [longP, if_true, cmpP, ifP]
  by_cases hc : x < y
  · simp [hc]
  · by_cases hd : y < x <;> simp [hc, hd]

end Go.Proofs.Ytencepjebdadcaa.Pure
