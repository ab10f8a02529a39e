/- 'find': the search with the closure made. -/
import Derived.Test.YtbhdodkkebgjcaaL2
namespace Go.Proofs.Ytbhdodkkebgjcaa.A.P
open Go.RowKit Go.Proofs.YtbhdodkkebgjcaaW.PrintWords Go.Proofs.YtbhdodkkebgjcaaW.PrintLast Go.Proofs.YtbhdodkkebgjcaaW.PrintMore
set_option linter.unusedSimpArgs false
set_option linter.unusedVariables false
set_option maxHeartbeats 8000000 in
theorem find_any (A0 : Option Addr) (c0 : Nat) (xs : List S38) (key : Int) (w : World) (hr : Kd.C k38 w A0 xs.length xs) (hc : xs.length ≤ c0) (hn : xs.length ≤ 5864062014700) (hs : Rise xs) :
    Calls Try.prog 27 #[.slice A0 xs.length c0, .int .i64 key, .func (.func 28) #[] #[]] w fun e w' => SearchPost xs key w e w' := by
  have HB := Aside0.mk (below_alloc (Below.refl w.heap.size w) (.cells #[.func (.func 28) #[] #[]] 51))
  have HS := Lib.hid (search_any A0 c0 xs key w.heap.size (w.alloc (.cells #[.func (.func 28) #[] #[]] 51)) (Kd.C_below hr HB.out) hc (blk_new _ _) hn hs)
  have hmf : ∀ (fn : Fn) (first cap : Array Value) (w : World), (Instr.makeFunc fn first cap).run Try.prog w = .ok (.func fn first cap) w := fun _ _ _ _ => rfl
  clear hr hs
  go_enter Try.func27, Try.ntmps27
  go_wp2_with fail
  refine HS.out.mono ?_
  rintro e w1 ⟨i, b, rfl, hb, hf, hbl⟩
  have HBB := Aside0.mk hb
  clear hb
  go_wp2
  go_ret2
  exact ⟨i, b, rfl, HBB.out, hf, below_then HB.out HB.out.size hbl⟩
end Go.Proofs.Ytbhdodkkebgjcaa.A.P
