/- The plain statement of ArithStays: what comes of ints is an int, and a number gone round differs by a multiple of 2 to the 32. -/
import Derived.Test.YtencepjebdadcaaM6
namespace Go.Proofs.Ytencepjebdadcaa.Pure
open Go.RowKit Go.Proofs.Ytencepjebdadcaa.A.P Go.Proofs.Ytencepjebdadcaa.A Go.Proofs.YtencepjebdadcaaW.PrintWords Go.Proofs.YtencepjebdadcaaW.PrintLast
set_option linter.unusedVariables false
set_option linter.unusedSimpArgs false

theorem small_f (x : Int) : larchlaw14_small.f x = some (decide (isI x)) := by
  unfold larchlaw14_small.f
  by_cases h : x ≥ -2147483648
  · rw [if_pos h]
    congr 1
    rw [decide_eq_decide]
    unfold isI
    omega
  · rw [if_neg h]
    have : ¬ isI x := by unfold isI; omega
    simp [this]
theorem is_one (a : Int) : P.arith_is.f 2 [a] = some (decide (isI a)) := by
  have e1 : wrap64 (0 + 1) = 1 := by unfold wrap64; omega
  simp only [P.arith_is.f, P.arith_is.l0, roundA, Option.bind_some, rd, List.length_cons, List.length_nil, e1]
  by_cases ha : isI a
  · have ha' := (round_eq a).2 ha
    simp [← ha', ha]
  · have ha' : ¬ a = wrap32 a := fun h => ha ((round_eq a).1 h)
    simp [ha', ha]
/-- what One comes to -/
def oneP (op a : Int) : Int × Int :=
  if op = 117 then (wrap64 (-a), 0) else if op = 136 then (wrap32 a, 0) else if isI a then
    (if op = 116 then (wrap32 (wrap64 (-a)), 0) else if op = 133 then (a, 0) else if op = 145 then (wrap64 (IntKind.i8.wrap a), 0) else if op = 146 then (wrap64 (IntKind.u16.wrap a), 0) else if op = 147 then (wrap64 (IntKind.i16.wrap a), 0) else (0, 2)) else (0, 2)
theorem one_f (op a : Int) : arith_One.f 2 op a = some (oneP op a) := by
  unfold arith_One.f oneP
  split
  · rfl
  · split
    · rw [roundA]; rfl
    · rw [is_one, Option.bind_some]
      by_cases h : isI a
      · simp only [h, decide_true, if_true]
        split
        · rw [roundA]; rfl
        · repeat' split
          all_goals rfl
      · simp [h]
theorem one_isI (op a : Int) (h : (oneP op a).2 = 0) (h117 : op ≠ 117) : isI (oneP op a).1 := by
  unfold oneP at *
  rw [if_neg h117] at *
  repeat' split
  all_goals first
    | exact wrap32_isI _
    | assumption
    | (simp_all; done)
    | (simp only [IntKind.wrap, IntKind.bits, IntKind.signed]; unfold isI wrap64; simp; split <;> omega)
    | (simp only [IntKind.wrap, IntKind.bits, IntKind.signed]; unfold isI wrap64; simp; omega)

theorem ArithStays : larchlaw14_ArithStays.Pure := by
  intro op a b h0 h1 h2
  refine ⟨2, ?_⟩
  have ha := isL_wf h1
  have hb := isL_wf h2
  have hr := wrap32_isI a
  have hx : (IntKind.u64.wrap ((IntKind.u64.wrap a) * 4294967296) == IntKind.u64.wrap ((IntKind.u64.wrap (wrap32 a)) * 4294967296)) = true := by
    rw [beq_iff_eq]
    simp only [IntKind.wrap_u64]
    unfold wrap32
    omega
  have hI : (if isI a ∧ isI b then doS op a b else (0, 2)).2 = 0 → isI (if isI a ∧ isI b then doS op a b else (0, 2)).1 := by
    intro h
    split
    · rename_i hh; exact doS_isI op a b hh.1
    · unfold isI; omega
  unfold larchlaw14_ArithStays.f
  rw [works_true, Option.bind_some, if_pos rfl, show arith_Int.f op a b = some (if isI a ∧ isI b then doS op a b else (0, 2)) from rfl, Option.bind_some, one_f, Option.bind_some, roundA, Option.bind_some]
  generalize (if isI a ∧ isI b then doS op a b else (0, 2)) = x at *
  simp only [small_f, Option.bind_some, hr, decide_true, if_true, hx]
  have h1' : (oneP op a).2 = 0 → op ≠ 117 → isI (oneP op a).1 := fun h h' => one_isI op a h h'
  generalize oneP op a = y at *
  by_cases c1 : x.2 = 0
  · have d1 := hI c1
    by_cases c2 : y.2 = 0
    · by_cases c3 : op = 117
      · simp [c1, d1, c2, c3]
      · have d2 := h1' c2 c3
        simp [c1, d1, c2, c3, d2]
    · simp [c1, d1, c2]
  · by_cases c2 : y.2 = 0
    · by_cases c3 : op = 117
      · simp [c1, c2, c3]
      · have d2 := h1' c2 c3
        simp [c1, c2, c3, d2]
    · simp [c1, c2]
end Go.Proofs.Ytencepjebdadcaa.Pure
