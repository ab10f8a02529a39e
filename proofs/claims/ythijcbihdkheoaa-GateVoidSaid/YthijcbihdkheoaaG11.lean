/- What a sink and a gate that no call made answer. -/
import Derived.Test.YthijcbihdkheoaaG6
namespace Go.Proofs.Ythijcbihdkheoaa.G
open Go.RowKit Go.Proofs.YthijcbihdkheoaaW.PrintWords Go.Proofs.YthijcbihdkheoaaW.PrintLast Go.Proofs.YthijcbihdkheoaaW.PrintMore
set_option linter.unusedSimpArgs false
set_option linter.unusedVariables false

/-- No sink. -/
def NoSink (p : Value) (w : World) : Prop := Calls Try.prog 26 #[p] w fun e w' => e = .returned (.bool false) ∧ w = w'
/-- No gate. -/
def NoGate (p : Value) (w : World) : Prop := Calls Try.prog 29 #[p] w fun e w' => e = .returned (.bool false) ∧ w = w'
theorem nosink_nil (w : World) : NoSink (.pointer none) w := is_nil w
theorem nosink_zero (g : Nat) (w : World) (hb : w.heap[g]? = some (.cells #[.slice none 0 0, .bool false] 48 (0, 0))) : NoSink (.pointer (some ⟨g, 0, none⟩)) w := is_any g _ false w hb
theorem nogate_nil (w : World) : NoGate (.pointer none) w := by
  unfold NoGate
  go_enter Try.func29, Try.ntmps29
  go_wp2
  go_ret
  exact ⟨rfl, rfl⟩
theorem nogate_zero (g : Nat) (w : World) (hb : w.heap[g]? = some (.cells #[.int .i64 0, .int .i64 0, .slice none 0 0] 52 (0, 0))) : NoGate (.pointer (some ⟨g, 0, none⟩)) w := by
  have h1 : w.cell? ⟨g, 1, none⟩ = some (.int .i64 0) := (blk_cell hb 1).trans rfl
  unfold NoGate
  clear hb
  go_enter Try.func29, Try.ntmps29
  go_wp2
  go_ret
  exact ⟨rfl, rfl⟩
theorem void13 (p : Value) (n : Int) (v : Value) (w : World) (h : NoSink p w) : Calls Try.prog 13 #[p, .int .i64 n, v] w fun e w' => e = .returned (.tuple #[.int .i64 0, .int .i64 1]) ∧ w = w' := by
  have H := Lib.hid h
  clear h
  unfold NoSink at H
  go_enter Try.func13, Try.ntmps13
  go_wp2_with fail
  refine H.out.mono ?_
  rintro e w' ⟨rfl, rfl⟩
  go_wp2
  go_ret2
  exact ⟨rfl, rfl⟩
theorem void12 (p : Value) (w : World) (h : NoSink p w) : Calls Try.prog 12 #[p] w fun e w' => e = .returned (.slice none 0 0) ∧ w = w' := by
  have H := Lib.hid h
  clear h
  unfold NoSink at H
  go_enter Try.func12, Try.ntmps12
  go_wp2_with fail
  refine H.out.mono ?_
  rintro e w' ⟨rfl, rfl⟩
  go_wp2
  go_ret
  exact ⟨rfl, rfl⟩
theorem void15 (p : Value) (w : World) (h : NoSink p w) : Calls Try.prog 15 #[p] w fun e w' => e = .returned (.int .i64 0) ∧ w = w' := by
  have H := Lib.hid h
  clear h
  unfold NoSink at H
  go_enter Try.func15, Try.ntmps15
  go_wp2_with fail
  refine H.out.mono ?_
  rintro e w' ⟨rfl, rfl⟩
  go_wp2
  go_ret
  exact ⟨rfl, rfl⟩
theorem void21 (p : Value) (n : Int) (v : Value) (w : World) (h : NoGate p w) : Calls Try.prog 21 #[p, .int .i64 n, v] w fun e w' => e = .returned (.tuple #[.int .i64 0, .int .i64 1]) ∧ w = w' := by
  have H := Lib.hid h
  clear h
  unfold NoGate at H
  go_enter Try.func21, Try.ntmps21
  go_wp2_with fail
  refine H.out.mono ?_
  rintro e w' ⟨rfl, rfl⟩
  go_wp2
  go_ret2
  exact ⟨rfl, rfl⟩
theorem void19 (p : Value) (v : Value) (w : World) (h : NoGate p w) : Calls Try.prog 19 #[p, v] w fun e w' => e = .returned (.int .i64 1) ∧ w = w' := by
  have H := Lib.hid h
  clear h
  unfold NoGate at H
  go_enter Try.func19, Try.ntmps19
  go_wp2_with fail
  refine H.out.mono ?_
  rintro e w' ⟨rfl, rfl⟩
  go_wp2
  go_ret
  exact ⟨rfl, rfl⟩
theorem void18 (p : Value) (w : World) (h : NoGate p w) : Calls Try.prog 18 #[p] w fun e w' => e = .returned (.slice none 0 0) ∧ w = w' := by
  have H := Lib.hid h
  clear h
  unfold NoGate at H
  go_enter Try.func18, Try.ntmps18
  go_wp2_with fail
  refine H.out.mono ?_
  rintro e w' ⟨rfl, rfl⟩
  go_wp2
  go_ret
  exact ⟨rfl, rfl⟩
theorem void20 (p : Value) (w : World) (h : NoGate p w) : Calls Try.prog 20 #[p] w fun e w' => e = .returned (.int .i64 0) ∧ w = w' := by
  have H := Lib.hid h
  clear h
  unfold NoGate at H
  go_enter Try.func20, Try.ntmps20
  go_wp2_with fail
  refine H.out.mono ?_
  rintro e w' ⟨rfl, rfl⟩
  go_wp2
  go_ret
  exact ⟨rfl, rfl⟩
theorem void22 (p : Value) (w : World) (h : NoGate p w) : Calls Try.prog 22 #[p] w fun e w' => e = .returned (.int .i64 0) ∧ w = w' := by
  have H := Lib.hid h
  clear h
  unfold NoGate at H
  go_enter Try.func22, Try.ntmps22
  go_wp2_with fail
  refine H.out.mono ?_
  rintro e w' ⟨rfl, rfl⟩
  go_wp2
  go_ret
  exact ⟨rfl, rfl⟩
theorem void23 (p : Value) (w : World) (h : NoGate p w) : Calls Try.prog 23 #[p] w fun e w' => e = .returned (.int .i64 0) ∧ w = w' := by
  have H := Lib.hid h
  clear h
  unfold NoGate at H
  go_enter Try.func23, Try.ntmps23
  go_wp2_with fail
  refine H.out.mono ?_
  rintro e w' ⟨rfl, rfl⟩
  go_wp2
  go_ret
  exact ⟨rfl, rfl⟩
end Go.Proofs.Ythijcbihdkheoaa.G
