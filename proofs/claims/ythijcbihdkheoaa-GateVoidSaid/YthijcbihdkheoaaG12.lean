/- The law GateVoid's walk. -/
import Derived.Test.YthijcbihdkheoaaG11
namespace Go.Proofs.Ythijcbihdkheoaa.G
open Go.RowKit Go.Proofs.YthijcbihdkheoaaW.PrintWords Go.Proofs.YthijcbihdkheoaaW.PrintLast Go.Proofs.YthijcbihdkheoaaW.PrintMore
set_option linter.unusedSimpArgs false
set_option linter.unusedVariables false
theorem alloc_size (w : World) (o : Obj) : (w.alloc o).heap.size = w.heap.size + 1 := by simp
set_option maxRecDepth 100000 in
set_option maxHeartbeats 8000000 in
theorem GateVoid_walk (n : Int) (w : World) : Calls Try.prog 7 #[.int .i64 n] w fun e w' => e = .returned (.bool true) ∧ Below w.heap.size w w' := by
  go_enter Try.func7, Try.ntmps7
  go_wp2_with fail
  refine (works_any w).mono ?_
  rintro e w1 ⟨rfl, hb1⟩
  have HB := Aside0.mk hb1
  clear hb1
  go_wp2_with fail
  refine (void13 (.pointer none) n (.slice none 0 0) _ (nosink_nil _)).mono ?_
  rintro e w' ⟨rfl, rfl⟩
  have hz := blk_alloc (blk_new w1 (.cells #[.slice none 0 0, .bool false] 48 (0, 0))) (.cells #[.int .i64 0, .int .i64 0, .slice none 0 0] 52 (0, 0))
  have hy := blk_new (w1.alloc (.cells #[.slice none 0 0, .bool false] 48 (0, 0))) (.cells #[.int .i64 0, .int .i64 0, .slice none 0 0] 52 (0, 0))
  rw [alloc_size] at hy
  have HZ := Aside0.mk hz
  have HY := Aside0.mk hy
  clear hz hy
  go_wp2_with fail
  refine (void13 _ n (.slice none 0 0) _ (nosink_zero _ _ HZ.out)).mono ?_
  rintro e w' ⟨rfl, rfl⟩
  go_wp2_with fail
  refine (void21 _ n _ _ (nogate_nil _)).mono ?_
  rintro e w' ⟨rfl, rfl⟩
  go_wp2_with fail
  refine (void21 _ n _ _ (nogate_zero _ _ HY.out)).mono ?_
  rintro e w' ⟨rfl, rfl⟩
  go_wp2_with fail
  refine (void19 _ _ _ (nogate_nil _)).mono ?_
  rintro e w' ⟨rfl, rfl⟩
  go_wp2_with fail
  refine (void19 _ _ _ (nogate_zero _ _ (blk_alloc (blk_alloc HY.out _) _))).mono ?_
  rintro e w' ⟨rfl, rfl⟩
  go_wp2_with fail
  refine (void12 _ _ (nosink_nil _)).mono ?_
  rintro e w' ⟨rfl, rfl⟩
  go_wp2_with fail
  refine (void12 _ _ (nosink_zero _ _ (blk_alloc (blk_alloc HZ.out _) _))).mono ?_
  rintro e w' ⟨rfl, rfl⟩
  go_wp2_with fail
  refine (void15 _ _ (nosink_nil _)).mono ?_
  rintro e w' ⟨rfl, rfl⟩
  go_wp2_with fail
  refine (void15 _ _ (nosink_zero _ _ (blk_alloc (blk_alloc HZ.out _) _))).mono ?_
  rintro e w' ⟨rfl, rfl⟩
  go_wp2_with fail
  refine (void18 _ _ (nogate_nil _)).mono ?_
  rintro e w' ⟨rfl, rfl⟩
  go_wp2_with fail
  refine (void18 _ _ (nogate_zero _ _ (blk_alloc (blk_alloc HY.out _) _))).mono ?_
  rintro e w' ⟨rfl, rfl⟩
  go_wp2_with fail
  refine (void22 _ _ (nogate_nil _)).mono ?_
  rintro e w' ⟨rfl, rfl⟩
  go_wp2_with fail
  refine (void22 _ _ (nogate_zero _ _ (blk_alloc (blk_alloc HY.out _) _))).mono ?_
  rintro e w' ⟨rfl, rfl⟩
  go_wp2_with fail
  refine (void23 _ _ (nogate_nil _)).mono ?_
  rintro e w' ⟨rfl, rfl⟩
  go_wp2_with fail
  refine (void23 _ _ (nogate_zero _ _ (blk_alloc (blk_alloc HY.out _) _))).mono ?_
  rintro e w' ⟨rfl, rfl⟩
  go_wp2_with fail
  refine (void20 _ _ (nogate_nil _)).mono ?_
  rintro e w' ⟨rfl, rfl⟩
  go_wp2_with fail
  refine (void20 _ _ (nogate_zero _ _ (blk_alloc (blk_alloc HY.out _) _))).mono ?_
  rintro e w' ⟨rfl, rfl⟩
  go_wp2
  go_ret
  exact ⟨by simp, below_alloc (below_alloc (below_alloc (below_alloc HB.out _) _) _) _⟩
end Go.Proofs.Ythijcbihdkheoaa.G
