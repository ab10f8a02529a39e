/- The plain statement of ArithInts: the program's operations of ints and the reference's come to the same, for all whole numbers in range. -/
import Derived.Test.YtencepjebdadcaaM6
namespace Go.Proofs.Ytencepjebdadcaa.Pure
open Go.RowKit Go.Proofs.Ytencepjebdadcaa.A.P Go.Proofs.Ytencepjebdadcaa.A Go.Proofs.YtencepjebdadcaaW.PrintWords Go.Proofs.YtencepjebdadcaaW.PrintLast

theorem ArithInts : larchlaw14_ArithInts.Pure := by
  intro op a b h0 h1 h2
  refine ⟨71, ?_⟩
  have ha := isL_wf h1
  have hb := isL_wf h2
  unfold larchlaw14_ArithInts.f
  rw [show arith_Int.f op a b = some (if isI a ∧ isI b then doS op a b else (0, 2)) from rfl, Option.bind_some, refInt 0 op a b hb, Option.bind_some, if_pos rfl, if_pos rfl, roundA, Option.bind_some, refRound a ha, Option.bind_some, if_pos rfl, works_true]
  rfl

end Go.Proofs.Ytencepjebdadcaa.Pure
