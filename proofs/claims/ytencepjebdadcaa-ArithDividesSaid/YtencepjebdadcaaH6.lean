/- arith.If: what each call comes to. -/
import Derived.Test.YtencepjebdadcaaH4
namespace Go.Proofs.Ytencepjebdadcaa.A
open Go.RowKit Go.Proofs.YtencepjebdadcaaW.PrintWords Go.Proofs.YtencepjebdadcaaW.PrintLast Go.Proofs.YtencepjebdadcaaW.PrintMore
set_option linter.unusedVariables false
set_option linter.unusedSimpArgs false


set_option maxRecDepth 100000 in
theorem if_no (op a b : Int) (w : World) (h : ¬ ((isI a ∧ isI b) ∧ 153 ≤ op ∧ op ≤ 164)) :
    Calls Try.prog 22 #[.int .i64 op, .int .i64 a, .int .i64 b] w fun e w' => e = .returned (.tuple #[.bool false, .int .i64 2]) ∧ Below w.heap.size w w' := by
  by_cases hi : isI a ∧ isI b
  · have HI := Lib.hid (is_any a b w)
    rw [decide_eq_true hi] at HI
    have h2 : op < 153 ∨ ¬ op < 153 ∧ 164 < op := by
      by_cases q : op < 153
      · exact .inl q
      · exact .inr ⟨q, by have hh : ¬ (153 ≤ op ∧ op ≤ 164) := fun hh => h ⟨hi, hh⟩; omega⟩
    clear h hi
    rcases h2 with h2 | ⟨h2, h3⟩
    · have h2b : decide (op < 153) = true := decide_eq_true h2
      go_enter Try.func22, Try.ntmps22
      go_wp2_with fail
      refine HI.out.mono ?_
      rintro e w1 ⟨rfl, ⟨m, rfl⟩⟩
      go_wp2
      go_ret2
      exact ⟨rfl, pw_below_drewN (below_alloc (Below.refl _ _) _) _⟩
    · have h2b : decide (op < 153) = false := decide_eq_false h2
      have h3b : decide (164 < op) = true := decide_eq_true h3
      go_enter Try.func22, Try.ntmps22
      go_wp2_with fail
      refine HI.out.mono ?_
      rintro e w1 ⟨rfl, ⟨m, rfl⟩⟩
      go_wp2
      go_ret2
      exact ⟨rfl, pw_below_drewN (below_alloc (Below.refl _ _) _) _⟩
  · have HI := Lib.hid (is_any a b w)
    rw [decide_eq_false hi] at HI
    clear h hi
    go_enter Try.func22, Try.ntmps22
    go_wp2_with fail
    refine HI.out.mono ?_
    rintro e w1 ⟨rfl, ⟨m, rfl⟩⟩
    go_wp2
    go_ret2
    exact ⟨rfl, pw_below_drewN (below_alloc (Below.refl _ _) _) _⟩

theorem arith_If.calls (a0 a1 a2 : Int) (r1 : Bool) (r2 : Int) (w : World) (h : arith_If.f a0 a1 a2 = some (r1, r2)) :
    Calls Try.prog 22 #[.int .i64 a0, .int .i64 a1, .int .i64 a2] w fun e w' => e = .returned (.tuple #[.bool r1, .int .i64 r2]) ∧ Below w.heap.size w w' := by
  unfold arith_If.f at h
  have h := Option.some.inj h
  by_cases hi : (isI a1 ∧ isI a2) ∧ 153 ≤ a0 ∧ a0 ≤ 164
  · rw [if_pos hi] at h
    simp only [Prod.mk.injEq] at h
    obtain ⟨rfl, rfl⟩ := h
    obtain ⟨hi, h1, h2⟩ := hi
    have hop : a0 = 153 ∨ a0 = 154 ∨ a0 = 155 ∨ a0 = 156 ∨ a0 = 157 ∨ a0 = 158 ∨ a0 = 159 ∨ a0 = 160 ∨ a0 = 161 ∨ a0 = 162 ∨ a0 = 163 ∨ a0 = 164 := by omega
    rcases hop with rfl | rfl | rfl | rfl | rfl | rfl | rfl | rfl | rfl | rfl | rfl | rfl
    · exact if_153 a1 a2 w hi
    · exact if_154 a1 a2 w hi
    · exact if_155 a1 a2 w hi
    · exact if_156 a1 a2 w hi
    · exact if_157 a1 a2 w hi
    · exact if_158 a1 a2 w hi
    · exact if_159 a1 a2 w hi
    · exact if_160 a1 a2 w hi
    · exact if_161 a1 a2 w hi
    · exact if_162 a1 a2 w hi
    · exact if_163 a1 a2 w hi
    · exact if_164 a1 a2 w hi
  · rw [if_neg hi] at h
    simp only [Prod.mk.injEq] at h
    obtain ⟨rfl, rfl⟩ := h
    exact if_no a0 a1 a2 w hi
end Go.Proofs.Ytencepjebdadcaa.A
