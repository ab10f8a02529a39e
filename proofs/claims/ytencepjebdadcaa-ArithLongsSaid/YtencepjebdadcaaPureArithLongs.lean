/- The plain statement of ArithLongs: the program's operations of longs and the reference's come to the same, for all whole numbers in range. -/
import Derived.Test.YtencepjebdadcaaM7
namespace Go.Proofs.Ytencepjebdadcaa.Pure
open Go.RowKit Go.Proofs.Ytencepjebdadcaa.A.P Go.Proofs.Ytencepjebdadcaa.A Go.Proofs.YtencepjebdadcaaW.PrintWords Go.Proofs.YtencepjebdadcaaW.PrintLast

theorem ArithLongs : larchlaw14_ArithLongs.Pure := by
  intro op a b h0 h1 h2
  refine ⟨70, ?_⟩
  have hop := isL_wf h0
  have ha := isL_wf h1
  have hb := isL_wf h2
  unfold larchlaw14_ArithLongs.f
  rw [long_f op a b hop ha hb, Option.bind_some, refLong 0 op a b hop ha hb, Option.bind_some, if_pos rfl, if_pos rfl, works_true]
  rfl

end Go.Proofs.Ytencepjebdadcaa.Pure
