/- The plain statement of ArithOnes: the program's operations of one number and its conditions come to what the reference's come to. -/
import Derived.Test.YtencepjebdadcaaM6
import Derived.Test.YtencepjebdadcaaAx5
namespace Go.Proofs.Ytencepjebdadcaa.Pure
open Go.RowKit Go.Proofs.Ytencepjebdadcaa.A.P Go.Proofs.Ytencepjebdadcaa.A Go.Proofs.YtencepjebdadcaaW.PrintWords Go.Proofs.YtencepjebdadcaaW.PrintLast
set_option linter.unusedVariables false
set_option linter.unusedSimpArgs false
namespace Ones

theorem is_one (K : Nat) (a : Int) : P.arith_is.f (K + 2) [a] = some (decide (isI a)) := by
  have e1 : wrap64 (0 + 1) = 1 := by unfold wrap64; omega
  simp only [P.arith_is.f, P.arith_is.l0, roundA, Option.bind_some, rd, List.length_cons, List.length_nil, e1]
  by_cases ha : isI a
  · have ha' := (round_eq a).2 ha
    simp [← ha', ha]
  · have ha' : ¬ a = wrap32 a := fun h => ha ((round_eq a).1 h)
    simp [ha', ha]
/-- what One comes to -/
def oneP (op a : Int) : Int × Int :=
  if op = 117 then (wrap64 (-a), 0) else if op = 136 then (wrap32 a, 0) else if isI a then
    (if op = 116 then (wrap32 (-a), 0) else if op = 133 then (a, 0) else if op = 145 then ((a + 128) % 256 - 128, 0) else if op = 146 then (a % 65536, 0) else if op = 147 then ((a + 32768) % 65536 - 32768, 0) else (0, 2)) else (0, 2)
theorem i8_w (a : Int) : wrap64 (IntKind.i8.wrap a) = (a + 128) % 256 - 128 := by
  simp only [IntKind.wrap, IntKind.bits, IntKind.signed]
  unfold wrap64
  simp
  split <;> omega
theorem i16_w (a : Int) : wrap64 (IntKind.i16.wrap a) = (a + 32768) % 65536 - 32768 := by
  simp only [IntKind.wrap, IntKind.bits, IntKind.signed]
  unfold wrap64
  simp
  split <;> omega
theorem u16_w (a : Int) : wrap64 (IntKind.u16.wrap a) = a % 65536 := by
  simp only [IntKind.wrap, IntKind.bits, IntKind.signed]
  unfold wrap64
  simp
  omega
theorem one_f (K : Nat) (op a : Int) : arith_One.f (K + 2) op a = some (oneP op a) := by
  unfold arith_One.f oneP
  by_cases c1 : op = 117
  · rw [if_pos c1, if_pos c1]
  rw [if_neg c1, if_neg c1]
  by_cases c2 : op = 136
  · rw [if_pos c2, if_pos c2, roundA]; rfl
  rw [if_neg c2, if_neg c2, is_one, Option.bind_some]
  by_cases h : isI a
  · simp only [h, decide_true, if_true, roundA, Option.bind_some, wrap32_wrap64, i8_w, i16_w, u16_w]
    repeat' split
    all_goals rfl
  · simp [h]

theorem low_f (a : Int) (z K : Nat) (hz : z ≤ 62) (hz1 : 1 ≤ z) (ha : isL a) : larchref14_low.f (K + 70) a z = some (a % ((2 ^ z : Nat) : Int)) := by
  unfold larchref14_low.f
  have hp : 2 ^ z ≤ 2 ^ 62 := Nat.pow_le_pow_right (by omega) hz
  have hp0 : 0 < 2 ^ z := Nat.pow_pos (by omega)
  rw [refPower z hz _ (by omega), Option.bind_some]
  generalize hP : 2 ^ z = p at *
  have e := tmod_if a (p : Int)
  have q1 : 0 ≤ a % (p : Int) := Int.emod_nonneg _ (by omega)
  have q2 : a % (p : Int) < p := Int.emod_lt_of_pos _ (by omega)
  have q3 : 0 ≤ (-a) % (p : Int) := Int.emod_nonneg _ (by omega)
  have q4 : (-a) % (p : Int) < p := Int.emod_lt_of_pos _ (by omega)
  have q5 : (-a) % (p : Int) = if a % (p : Int) = 0 then 0 else p - a % (p : Int) := by
    split
    · rename_i h0
      have : (p : Int) ∣ a := Int.dvd_of_emod_eq_zero h0
      exact Int.emod_eq_zero_of_dvd ((Int.dvd_neg).2 this)
    · rename_i h0
      have h1 : -a = (p - a % (p : Int)) + p * (-(a / p) - 1) := by
        have := Int.emod_add_mul_ediv a p
        rw [Int.mul_sub, Int.mul_neg]
        omega
      rw [h1, Int.add_mul_emod_self_left, Int.emod_eq_of_lt (by omega) (by omega)]
  rw [if_neg (by omega)]
  split
  · rename_i hneg
    rw [Option.bind_some]
    congr 1
    have ha0 : ¬ 0 ≤ a := by
      intro h
      rw [if_pos h] at e
      omega
    rw [if_neg ha0] at e
    by_cases hz0 : a % (p : Int) = 0
    · rw [if_pos hz0] at q5
      omega
    · rw [if_neg hz0] at q5
      rw [e, q5]
      unfold wrap64
      omega
  · congr 1
    by_cases ha0 : 0 ≤ a
    · rw [if_pos ha0] at e
      exact e
    · rw [if_neg ha0] at e
      by_cases hz0 : a % (p : Int) = 0
      · rw [if_pos hz0] at q5
        omega
      · rw [if_neg hz0] at q5
        omega
theorem signed_f (x : Int) (z K : Nat) (hz : z ≤ 62) (hz1 : 1 ≤ z) (h0 : 0 ≤ x) (h1 : x < ((2 ^ z : Nat) : Int)) : larchref14_signed.f (K + 70) x z = some (if x ≥ ((2 ^ (z - 1) : Nat) : Int) then x - ((2 ^ z : Nat) : Int) else x) := by
  unfold larchref14_signed.f
  have hp : 2 ^ z ≤ 2 ^ 62 := Nat.pow_le_pow_right (by omega) hz
  have e1 : wrap64 ((z : Int) - 1) = ((z - 1 : Nat) : Int) := by unfold wrap64; omega
  rw [e1, refPower (z - 1) (by omega) _ (by omega), Option.bind_some]
  split
  · rw [refPower z hz _ (by omega), Option.bind_some]
    congr 1
    unfold wrap64
    omega
  · rfl

theorem refOne (K : Nat) (op a : Int) (ha : isL a) : larchref14_One.f (K + 71) op a = some (oneP op a) := by
  have L8 := low_f a 8 K (by omega) (by omega) ha
  have L16 := low_f a 16 K (by omega) (by omega) ha
  have b8 : (2 : Nat) ^ 8 = 256 := rfl
  have b7 : (2 : Nat) ^ 7 = 128 := rfl
  have b16 : (2 : Nat) ^ 16 = 65536 := rfl
  have b15 : (2 : Nat) ^ 15 = 32768 := rfl
  have S8 := signed_f (a % 256) 8 K (by omega) (by omega) (by omega) (by rw [b8]; omega)
  have S16 := signed_f (a % 65536) 16 K (by omega) (by omega) (by omega) (by rw [b16]; omega)
  rw [b8] at L8
  rw [b16] at L16
  simp only [b8, b16, show 8 - 1 = 7 from rfl, show 16 - 1 = 15 from rfl, b7, b15] at S8 S16
  have L8' : larchref14_low.f (K + 70) a 8 = some (a % 256) := L8
  have L16' : larchref14_low.f (K + 70) a 16 = some (a % 65536) := L16
  have S8' : larchref14_signed.f (K + 70) (a % 256) 8 = some ((a + 128) % 256 - 128) := by
    have : larchref14_signed.f (K + 70) (a % 256) 8 = _ := S8
    rw [this]; congr 1; split <;> omega
  have S16' : larchref14_signed.f (K + 70) (a % 65536) 16 = some ((a + 32768) % 65536 - 32768) := by
    have : larchref14_signed.f (K + 70) (a % 65536) 16 = _ := S16
    rw [this]; congr 1; split <;> omega
  unfold larchref14_One.f
  have hj : larchref14_One.j0 (K + 71) op a false = some (if op = 116 then (wrap32 (-a), 0) else if op = 117 then (wrap64 (-a), 0) else if op = 133 then (a, 0) else if op = 136 then (wrap32 a, 0) else if op = 145 then ((a + 128) % 256 - 128, 0) else if op = 146 then (a % 65536, 0) else if op = 147 then ((a + 32768) % 65536 - 32768, 0) else (0, 2)) := by
    simp only [larchref14_One.j0, Bool.false_eq_true, if_false, refRoundW, refRound a ha, L8', L16', S8', S16', Option.bind_some]
    repeat' split
    all_goals rfl
  rw [hj, refIs]
  by_cases c1 : op = 117
  · subst c1; simp [oneP]
  by_cases c2 : op = 136
  · subst c2; simp [oneP]
  by_cases hI : isI a
  · simp only [c1, c2, if_false, hI, decide_true, Option.bind_some, Bool.not_true, hj, oneP, if_true]
  · simp [c1, c2, hI, larchref14_One.j0, oneP]

theorem refIf (K : Nat) (op a b : Int) : larchref14_If.f (K + 2) op a b = arith_If.f op a b := by
  unfold larchref14_If.f arith_If.f
  rw [refIs, Option.bind_some, refIs]
  by_cases h1 : isI a
  · by_cases h2 : isI b
    · simp only [h1, h2, decide_true, if_true, Option.bind_some, and_self, true_and]
      by_cases c1 : op < 153
      · rw [if_pos c1, if_neg (by omega)]
        simp [larchref14_If.j0]
      · rw [if_neg c1]
        by_cases c2 : op > 164
        · rw [if_neg (by omega)]
          simp [larchref14_If.j0, c2]
        · rw [if_pos (by omega)]
          have cd : decide (op > 164) = false := decide_eq_false c2
          simp only [larchref14_If.j0, cd, Bool.false_eq_true, if_false]
          have hj : ∀ o x y : Int, 159 ≤ o → o ≤ 164 → larchref14_If.j1 (K + 1) o x y = some (ifP o x y, 0) := by
            intro o x y ho1 ho2
            unfold ifP
            simp only [larchref14_If.j1]
            have hd : ∀ p q : Prop, [Decidable p] → [Decidable q] → (p ↔ ¬ q) → decide p = !decide q := by
              intro p q _ _ hpq
              by_cases hq : q
              · have hp : ¬ p := fun hp => (hpq.1 hp) hq
                simp [hp, hq]
              · have hp : p := hpq.2 hq
                simp [hp, hq]
            rw [hd (x ≥ y) (x < y) (by omega), hd (x ≤ y) (y < x) (by omega)]
            by_cases d1 : o = 159
            · simp [d1]
            by_cases d2 : o = 160
            · simp [d2]
            by_cases d3 : o = 161
            · simp [d3]
            by_cases d4 : o = 162
            · simp [d4]
            by_cases d5 : o = 163
            · simp [d5]
            simp [d1, d2, d3, d4, d5]
          by_cases c3 : op ≤ 158
          · rw [if_pos c3, show wrap64 (op + 6) = op + 6 by unfold wrap64; omega, hj _ _ _ (by omega) (by omega), if_pos (by omega)]
          · rw [if_neg c3, hj _ _ _ (by omega) (by omega), if_neg (by omega)]
    · simp [h1, h2, larchref14_If.j0]
  · simp [h1, larchref14_If.j0]
end Ones

theorem ArithOnes : larchlaw14_ArithOnes.Pure := by
  intro op a b h0 h1 h2
  refine ⟨71, ?_⟩
  have ha := isL_wf h1
  unfold larchlaw14_ArithOnes.f
  rw [Ones.one_f 69, Option.bind_some, Ones.refOne 0 op a ha, Option.bind_some, Ones.refIf 69]
  obtain ⟨r, hr⟩ : ∃ r, arith_If.f op a b = some r := ⟨_, rfl⟩
  rw [hr, Option.bind_some, Option.bind_some, if_pos rfl, if_pos rfl, if_pos (by simp), if_pos rfl, works_true]
  rfl

end Go.Proofs.Ytencepjebdadcaa.Pure
