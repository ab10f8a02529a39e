/- Owner: IndexFunc with its closure. -/
import Derived.Test.YtbhdodkkebgjcaaL3
namespace Go.Proofs.Ytbhdodkkebgjcaa.A.P
open Go.RowKit Go.Proofs.YtbhdodkkebgjcaaW.PrintWords Go.Proofs.YtbhdodkkebgjcaaW.PrintLast Go.Proofs.YtbhdodkkebgjcaaW.PrintMore
set_option linter.unusedSimpArgs false
set_option linter.unusedVariables false
theorem eq_any (x0 x1 x2 o : Int) (bx : Nat) (w : World) (hb : w.heap[bx]? = some (.cells #[.int .i64 o] 3 (0, 0))) :
    Calls Try.prog 26 #[.agg #[.int .i64 x0, .int .i64 x1, .int .i64 x2], .pointer (some ⟨bx, 0, none⟩)] w fun e w' => e = .returned (.bool (x0 == o)) ∧ Below w.heap.size w w' := by
  have hc : (w.alloc (.cells #[.int .i64 x0, .int .i64 x1, .int .i64 x2] 38)).cell? ⟨bx, 0, none⟩ = some (.int .i64 o) := (blk_cell (blk_alloc hb _) 0).trans rfl
  have HB := Aside0.mk (below_alloc (Below.refl w.heap.size w) (.cells #[.int .i64 x0, .int .i64 x1, .int .i64 x2] 38))
  clear hb
  go_enter Try.func26, Try.ntmps26
  go_wp2
  go_ret
  exact ⟨by simp, HB.out⟩
/-- Where the object is, first; -1 where it is not. -/
structure Idx (xs : List S38) (o k : Int) : Prop where
  has : (k = -1 ∧ ∀ j : Int, 0 ≤ j → j < xs.length → (rd_T38 xs j).f0 ≠ o) ∨ (0 ≤ k ∧ k < xs.length ∧ (rd_T38 xs k).f0 = o ∧ ∀ j : Int, 0 ≤ j → j < k → (rd_T38 xs j).f0 ≠ o)
def IdxPost (xs : List S38) (o : Int) (w : World) (e : Ending) (w' : World) : Prop := ∃ k : Int, e = .returned (.int .i64 k) ∧ Idx xs o k ∧ Below w.heap.size w w'
set_option maxHeartbeats 8000000 in
set_option maxRecDepth 100000 in
theorem index_any (A0 : Option Addr) (c0 : Nat) (xs : List S38) (o : Int) (bx : Nat) (w : World) (hr : Kd.C k38 w A0 xs.length xs) (hc : xs.length ≤ c0) (hb : w.heap[bx]? = some (.cells #[.int .i64 o] 3 (0, 0))) (hn : xs.length ≤ 5864062014700) :
    Calls Try.prog 25 #[.slice A0 xs.length c0, .func (.func 26) #[] #[.pointer (some ⟨bx, 0, none⟩)]] w fun e w' => IdxPost xs o w e w' := by
  have HR := Aside0.mk hr
  have HBX := Aside0.mk hb
  clear hr hb
  go_enter Try.func25, Try.ntmps25
  go_wp2
  go_loopg [8] xs.length (fun kq v8 w' => ∃ j : Int, v8 = .int .i64 j ∧ 0 ≤ j ∧ Aside0 (j = xs.length - kq) ∧ Aside0 (∀ i : Int, 0 ≤ i → i < j → (rd_T38 xs i).f0 ≠ o) ∧ Aside0 (Below w.heap.size w w'))
  case atStart => exact ⟨0, rfl, by omega, ⟨by omega⟩, ⟨fun i h1 h2 => by omega⟩, ⟨Below.refl _ _⟩⟩
  case round =>
    obtain ⟨j, rfl, h0, hk, HI, HB⟩ := hrel
    by_cases q1 : j < (xs.length : Int)
    · have q1b : decide (j < (xs.length : Int)) = true := decide_eq_true q1
      obtain ⟨ad, e5, hx0, hx1, hx2⟩ := at_T38 (Kd.C_below HR.out HB.out) j h0 q1
      cases e5
      have HC := Lib.hid (eq_any (rd_T38 xs j).f0 (rd_T38 xs j).f1 (rd_T38 xs j).f2 o bx wr (blk_below HBX.out HB.out))
      generalize (rd_T38 xs j).f1 = y1 at *
      generalize (rd_T38 xs j).f2 = y2 at *
      by_cases q2 : (rd_T38 xs j).f0 = o
      · have d2 : ((rd_T38 xs j).f0 == o) = true := beq_iff_eq.mpr q2
        have Q2 := Aside0.mk q2
        clear q2
        go_wp2_with fail
        refine HC.out.mono ?_
        rintro e w2 ⟨rfl, hb2⟩
        go_wp2
        go_ret
        exact ⟨j, rfl, ⟨.inr ⟨h0, q1, Q2.out, HI.out⟩⟩, below_then HB.out HB.out.size hb2⟩
      · have d2 : ((rd_T38 xs j).f0 == o) = false := beq_eq_false_iff_ne.mpr q2
        have Q2 := Aside0.mk q2
        clear q2
        go_wp2_with fail
        refine HC.out.mono ?_
        rintro e w2 ⟨rfl, hb2⟩
        have HB2 := Aside0.mk (below_then HB.out HB.out.size hb2)
        clear hb2
        go_wp2
        go_roundg (gk - 1)
        case measure => have := hk.out; omega
        case rel => exact ⟨j + 1, by first | rfl | simp, by omega, ⟨by have := hk.out; omega⟩, ⟨fun i g1 g2 => by
          rcases Int.lt_or_le i j with h | h
          · exact HI.out i g1 h
          · obtain rfl : i = j := by omega
            exact Q2.out⟩, HB2⟩
    · have q1b : decide (j < (xs.length : Int)) = false := decide_eq_false q1
      go_wp2
      go_ret
      exact ⟨-1, rfl, ⟨.inl ⟨rfl, fun i g1 g2 => HI.out i g1 (by omega)⟩⟩, HB.out⟩
end Go.Proofs.Ytbhdodkkebgjcaa.A.P
