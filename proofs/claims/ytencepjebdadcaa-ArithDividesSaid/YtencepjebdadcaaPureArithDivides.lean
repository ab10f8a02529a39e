/- The plain statement of ArithDivides: a number is its division times the divisor, and what is left, which is nearer to nought than the divisor. -/
import Derived.Test.YtencepjebdadcaaM7
import Derived.Test.YtencepjebdadcaaAx4
namespace Go.Proofs.Ytencepjebdadcaa.Pure
open Go.RowKit Go.Proofs.Ytencepjebdadcaa.A.P Go.Proofs.Ytencepjebdadcaa.A Go.Proofs.YtencepjebdadcaaW.PrintWords Go.Proofs.YtencepjebdadcaaW.PrintLast
set_option linter.unusedVariables false
set_option linter.unusedSimpArgs false
namespace Divides

theorem long_div (a b : Int) (ha : isL a) (hb : isL b) (h : b ≠ 0) : arith_Long.f 109 a b = some (wrap64 (a.tdiv b), 0) := by
  rw [long_f _ _ _ (by unfold isL; omega) ha hb, longP_of (by omega) (by omega) (by omega)]
  simp [doL, h]
theorem long_rem (a b : Int) (ha : isL a) (hb : isL b) (h : b ≠ 0) : arith_Long.f 113 a b = some (a.tmod b, 0) := by
  rw [long_f _ _ _ (by unfold isL; omega) ha hb, longP_of (by omega) (by omega) (by omega)]
  simp [doL, h]
theorem long_mul (a b : Int) (ha : isL a) (hb : isL b) : arith_Long.f 105 a b = some (wrap64 (a * b), 0) := by
  rw [long_f _ _ _ (by unfold isL; omega) ha hb, longP_of (by omega) (by omega) (by omega)]
  simp [doL]
theorem long_add (a b : Int) (ha : isL a) (hb : isL b) : arith_Long.f 97 a b = some (wrap64 (a + b), 0) := by
  rw [long_f _ _ _ (by unfold isL; omega) ha hb, longP_of (by omega) (by omega) (by omega)]
  simp [doL]
theorem int_div (a b : Int) (ha : isI a) (hb : isI b) (h : b ≠ 0) : arith_Int.f 108 a b = some (wrap32 (a.tdiv b), 0) := by
  unfold arith_Int.f; rw [if_pos ⟨ha, hb⟩]; simp [doS, h]
theorem int_rem (a b : Int) (ha : isI a) (hb : isI b) (h : b ≠ 0) : arith_Int.f 112 a b = some (a.tmod b, 0) := by
  unfold arith_Int.f; rw [if_pos ⟨ha, hb⟩]; simp [doS, h]
theorem int_mul (a b : Int) (ha : isI a) (hb : isI b) : arith_Int.f 104 a b = some (wrap32 (a * b), 0) := by
  unfold arith_Int.f; rw [if_pos ⟨ha, hb⟩]; simp [doS]
theorem int_add (a b : Int) (ha : isI a) (hb : isI b) : arith_Int.f 96 a b = some (wrap32 (a + b), 0) := by
  unfold arith_Int.f; rw [if_pos ⟨ha, hb⟩]; simp [doS]

theorem back64 (a b : Int) (ha : isL a) : wrap64 (wrap64 (wrap64 (a.tdiv b) * b) + a.tmod b) = a := by
  rw [add64_l, ← add64_l, mul64_l, add64_l, show a.tdiv b * b + a.tmod b = a by rw [Int.mul_comm]; exact Int.mul_tdiv_add_tmod a b, wrap64_same ha]
theorem back32 (a b : Int) (ha : isI a) : wrap32 (wrap32 (wrap32 (a.tdiv b) * b) + a.tmod b) = a := by
  rw [add32_l, ← add32_l, mul32_l, add32_l, show a.tdiv b * b + a.tmod b = a by rw [Int.mul_comm]; exact Int.mul_tdiv_add_tmod a b, wrap32_same ha]

/-- The end of the statement, once what is near is known. -/
theorem rest_0 (K : Nat) (a b x : Int) (hx : isI x) (hxa : wrap32 a = x) (hyb : wrap32 b = 0) : larchlaw14_ArithDivides.j0 (K + 1) a b 0 0 a true = some true := by
  have e1 : arith_Int.f 108 x 0 = some (0, 5) := by unfold arith_Int.f; rw [if_pos ⟨hx, by unfold isI; omega⟩]; simp [doS]
  have e2 : arith_Int.f 112 x 0 = some (0, 5) := by unfold arith_Int.f; rw [if_pos ⟨hx, by unfold isI; omega⟩]; simp [doS]
  rw [larchlaw14_ArithDivides.j0, roundA, Option.bind_some, roundA, Option.bind_some, hxa, hyb, e1, Option.bind_some, e2, Option.bind_some, if_pos rfl, if_pos rfl, if_pos rfl, if_pos rfl, if_pos rfl]
theorem rest_1 (K : Nat) (a b x y : Int) (hx : isI x) (hy : isI y) (h0 : y ≠ 0) (hxa : wrap32 a = x) (hyb : wrap32 b = y) : larchlaw14_ArithDivides.j0 (K + 1) a b 0 0 a true = some true := by
  have hr : isI (x.tmod y) := tmod_small x y _ _ (by omega) (by omega) hx
  rw [larchlaw14_ArithDivides.j0, roundA, Option.bind_some, roundA, Option.bind_some, hxa, hyb, int_div x y hx hy h0, Option.bind_some, int_rem x y hx hy h0, Option.bind_some, if_neg h0, int_mul _ y (wrap32_isI _) hy, Option.bind_some,
      int_add _ _ (wrap32_isI _) hr, Option.bind_some, back32 x y hx, if_pos rfl, if_pos rfl, if_pos rfl, if_pos rfl, if_pos rfl, if_pos rfl, beq_self_eq_true]
theorem rest (K : Nat) (a b : Int) : larchlaw14_ArithDivides.j0 (K + 1) a b 0 0 a true = some true := by
  by_cases h0 : wrap32 b = 0
  · exact rest_0 K a b _ (wrap32_isI a) rfl h0
  · exact rest_1 K a b _ _ (wrap32_isI a) (wrap32_isI b) h0 rfl rfl

theorem near (a b : Int) (ha : isL a) (hb : isL b) (h0 : b ≠ 0) (h1 : a.tmod b ≠ 0) (h2 : ((decide (a.tmod b < 0)) == (decide (a < 0))) = true) (h3 : b ≠ -9223372036854775808) :
    a.tmod b > wrap64 (-(mx b (wrap64 (-b)))) ∧ a.tmod b < mx b (wrap64 (-b)) := by
  have hn : (a.tmod b).natAbs < b.natAbs := by
    rw [Int.natAbs_tmod]
    exact Nat.mod_lt _ (by omega)
  unfold isL at hb
  have e : wrap64 (-b) = -b := by unfold wrap64; omega
  rw [e]
  have e2 : mx b (-b) = b.natAbs := by unfold mx; split <;> omega
  rw [e2]
  unfold wrap64
  omega
theorem sign (a b : Int) (h1 : a.tmod b ≠ 0) : ((decide (a.tmod b < 0)) == (decide (a < 0))) = true := by
  rw [beq_iff_eq, decide_eq_decide]
  rcases Int.le_total 0 a with h | h
  · have := Int.tmod_nonneg b h
    omega
  · have e : a.tmod b = -((-a).tmod b) := by rw [Int.neg_tmod]; simp
    have h3 := Int.tmod_nonneg b (show 0 ≤ -a by omega)
    constructor
    · intro _
      rcases Int.lt_or_eq_of_le h with h4 | h4
      · exact h4
      · subst h4
        simp at h1
    · intro _
      omega
end Divides

theorem ArithDivides : larchlaw14_ArithDivides.Pure := by
  intro a b h1 h2
  refine ⟨1, ?_⟩
  have ha := isL_wf h1
  have hb := isL_wf h2
  unfold larchlaw14_ArithDivides.f
  rw [works_true, Option.bind_some, if_pos rfl]
  by_cases h0 : b = 0
  · subst h0
    have e1 : arith_Long.f 109 a 0 = some (0, 5) := by
      rw [long_f _ _ _ (by unfold isL; omega) ha hb, longP_of (by omega) (by omega) (by omega)]
      simp [doL]
    have e2 : arith_Long.f 113 a 0 = some (0, 5) := by
      rw [long_f _ _ _ (by unfold isL; omega) ha hb, longP_of (by omega) (by omega) (by omega)]
      simp [doL]
    rw [e1, Option.bind_some, e2, Option.bind_some]
    simp
  · have hr : isL (a.tmod b) := tmod_small a b _ _ (by omega) (by omega) ha
    rw [Divides.long_div a b ha hb h0, Option.bind_some, Divides.long_rem a b ha hb h0, Option.bind_some, if_neg h0, Divides.long_mul _ b (wrap64_isL _) hb, Option.bind_some,
      Divides.long_add _ _ (wrap64_isL _) hr, Option.bind_some, Divides.back64 a b ha]
    have R := Divides.rest 0 a b
    simp only
    by_cases c1 : a.tmod b = 0
    · rw [if_pos c1]
      exact R
    · rw [if_neg c1, if_pos (Divides.sign a b c1)]
      by_cases c2 : b = -9223372036854775808
      · rw [if_pos c2]
        exact R
      · have N := Divides.near a b ha hb h0 c1 (Divides.sign a b c1) c2
        rw [if_neg c2, if_pos N.1, decide_eq_true N.2]
        exact R

end Go.Proofs.Ytencepjebdadcaa.Pure
