/- The list's search: contracts of the closure, of the library's binary search and of 'look'. -/
import Derived.Test.YtbhdodkkebgjcaaAx0
import Derived.Lib.Hide
namespace Go.Proofs.Ytbhdodkkebgjcaa.A.P
open Go.RowKit Go.Proofs.YtbhdodkkebgjcaaW.PrintWords Go.Proofs.YtbhdodkkebgjcaaW.PrintLast Go.Proofs.YtbhdodkkebgjcaaW.PrintMore
set_option linter.unusedSimpArgs false
set_option linter.unusedVariables false
theorem object_any (x0 x1 x2 : Int) (w : World) :
    Calls Try.prog 28 #[.agg #[.int .i64 x0, .int .i64 x1, .int .i64 x2]] w fun e w' => e = .returned (.int .i64 x0) ∧ Below w.heap.size w w' := by
  go_enter Try.func28, Try.ntmps28
  go_wp2
  go_ret
  exact ⟨rfl, below_alloc (Below.refl _ _) _⟩
theorem compare_any (x y : Int) (w : World) :
    Calls Try.prog 33 #[.int .i64 x, .int .i64 y] w fun e w' => e = .returned (.int .i64 (if x < y then -1 else if y < x then 1 else 0)) ∧ Below w.heap.size w w' := by
  by_cases h1 : x < y
  · have d1 : decide (x < y) = true := decide_eq_true h1
    rw [if_pos h1]
    clear h1
    go_enter Try.func33, Try.ntmps33
    go_wp2
    go_ret
    exact ⟨rfl, by repeat (first | exact Below.refl _ _ | apply pw_below_drewN | apply below_drew)⟩
  · have d1 : decide (x < y) = false := decide_eq_false h1
    rw [if_neg h1]
    by_cases h2 : y < x
    · have d2 : decide (y < x) = true := decide_eq_true h2
      rw [if_pos h2]
      clear h1 h2
      go_enter Try.func33, Try.ntmps33
      go_wp2
      go_ret
      exact ⟨rfl, by repeat (first | exact Below.refl _ _ | apply pw_below_drewN | apply below_drew)⟩
    · have d2 : decide (y < x) = false := decide_eq_false h2
      rw [if_neg h2]
      clear h1 h2
      go_enter Try.func33, Try.ntmps33
      go_wp2
      go_ret
      exact ⟨rfl, by repeat (first | exact Below.refl _ _ | apply pw_below_drewN | apply below_drew)⟩
/-- How two numbers compare. -/
def cmpI (x y : Int) : Int := if x < y then -1 else if y < x then 1 else 0
theorem cmp_any (x0 x1 x2 key : Int) (bx : Nat) (w : World) (hb : w.heap[bx]? = some (.cells #[.func (.func 28) #[] #[]] 51 (0, 0))) :
    Calls Try.prog 32 #[.agg #[.int .i64 x0, .int .i64 x1, .int .i64 x2], .int .i64 key, .pointer (some ⟨bx, 0, none⟩)] w fun e w' => e = .returned (.int .i64 (cmpI x0 key)) ∧ Below w.heap.size w w' := by
  have hc : (w.alloc (.cells #[.int .i64 x0, .int .i64 x1, .int .i64 x2] 38)).cell? ⟨bx, 0, none⟩ = some (.func (.func 28) #[] #[]) := (blk_cell (blk_alloc hb _) 0).trans rfl
  clear hb
  have HCMP := Lib.hid (fun w => show Calls Try.prog 33 #[.int .i64 x0, .int .i64 key] w fun e w' => e = .returned (.int .i64 (cmpI x0 key)) ∧ Below w.heap.size w w' from compare_any x0 key w)
  generalize cmpI x0 key = r at *
  go_enter Try.func32, Try.ntmps32
  have HB := Aside0.mk (below_alloc (Below.refl w.heap.size w) (.cells #[.int .i64 x0, .int .i64 x1, .int .i64 x2] 38))
  go_wp2_with fail
  refine (object_any x0 x1 x2 _).mono ?_
  rintro e w1 ⟨rfl, hb1⟩
  have HB1 := Aside0.mk (below_then HB.out HB.out.size hb1)
  clear hb1 HB hc
  go_wp2_with fail
  refine (HCMP.out w1).mono ?_
  rintro e w2 ⟨rfl, hb2⟩
  go_wp2
  go_ret
  exact ⟨rfl, below_then HB1.out HB1.out.size hb2⟩
end Go.Proofs.Ytbhdodkkebgjcaa.A.P
