/- The law GateAgain's walk. -/
import Derived.Test.YthijcbihdkheoaaG3
namespace Go.Proofs.Ythijcbihdkheoaa.G
open Go.RowKit Go.Proofs.YthijcbihdkheoaaW.PrintWords Go.Proofs.YthijcbihdkheoaaW.PrintLast Go.Proofs.YthijcbihdkheoaaW.PrintMore
set_option linter.unusedSimpArgs false
set_option linter.unusedVariables false

theorem among_some (x n : Int) (w : World) (h1 : 1 ≤ n) (h2 : n ≤ 9223372036854775807) :
    Calls Try.prog 14 #[.int .i64 x, .int .i64 n] w fun e w' => ∃ r, e = .returned (.int .i64 r) ∧ 0 ≤ r ∧ r < n ∧ Drawn0 w w' := by
  refine (among_any x n w h1 h2).mono ?_
  rintro e w' ⟨rfl, hd⟩
  exact ⟨_, rfl, Int.emod_nonneg _ (by omega), Int.emod_lt_of_pos _ (by omega), hd⟩

theorem putP_nil (ls : List Int) : putP [] 0 ls = (ls, (ls.length : Int), 0) := by
  unfold putP
  rw [if_neg (by simp)]
  simp

theorem putP_again (xs : List Int) (a b : Int) (h0 : 0 ≤ a) (h1 : a ≤ b) (h2 : b ≤ xs.length) : putP xs a ((xs.take b.toNat).drop a.toNat) = (xs, 0, 0) := by
  have hl : ((xs.take b.toNat).drop a.toNat).length = b.toNat - a.toNat := by rw [List.length_drop, List.length_take]; omega
  unfold putP
  rw [if_neg (by omega), hl, show min (b.toNat - a.toNat) (xs.length - a.toNat) = b.toNat - a.toNat by omega]
  have e1 : (xs.drop a.toNat).take (b.toNat - a.toNat) = (xs.take b.toNat).drop a.toNat := by rw [List.drop_take]
  have e2 : ((xs.take b.toNat).drop a.toNat).take (b.toNat - a.toNat) = (xs.take b.toNat).drop a.toNat := List.take_of_length_le (by omega)
  have e3 : ((xs.take b.toNat).drop a.toNat).drop (b.toNat - a.toNat) = [] := List.drop_eq_nil_of_le (by omega)
  rw [e1, e2, if_pos rfl, e3]
  simp

theorem GateAgain_walk (A : Option Addr) (c : Nat) (l : List Int) (at_ n : Int) (w : World) (hr : Rd w A l) (hc : l.length ≤ c) :
    Calls Try.prog 4 #[.slice A l.length c, .int .i64 at_, .int .i64 n] w fun e w' => e = .returned (.bool true) ∧ Below w.heap.size w w' := by
  obtain ⟨i, hi, his⟩ := info3'
  have hlm := hr.2.1
  have hcases : ∃ l1 : List Int, l1.length ≤ 200 ∧ Rd w A l1 ∧ l1.length ≤ c ∧ ((200 < l.length ∧ ∀ W : World, (Instr.slice 27 (.slice A l.length c) none (some (.int .i64 200)) none).run Try.prog W = .ok (.slice A l1.length c) W) ∨
      (l.length ≤ 200 ∧ ∀ W : World, (Instr.slice 27 (.slice A l.length c) none (some (.int .i64 (l.length : Int))) none).run Try.prog W = .ok (.slice A l1.length c) W)) := by
    by_cases h : 200 < l.length
    · obtain ⟨cut, rd, le⟩ := print_take_of (P := Try.prog) (Value.int .i64) (0 : Int) 27 3 .i64 Try.underlying27 hi his A c l 200 (by omega) (by omega) hc
      exact ⟨_, by rw [List.length_take]; omega, Rd.of (rd w hr.ints), le, .inl ⟨h, cut⟩⟩
    · obtain ⟨cut, rd, le⟩ := print_take_of (P := Try.prog) (Value.int .i64) (0 : Int) 27 3 .i64 Try.underlying27 hi his A c l l.length (by omega) (by omega) hc
      exact ⟨_, by rw [List.length_take]; omega, Rd.of (rd w hr.ints), le, .inr ⟨by omega, cut⟩⟩
  obtain ⟨l1, h200, hr1, hc1, hcase⟩ := hcases
  rcases hcase with ⟨hlt, hcut⟩ | ⟨hlt, hcut⟩
  all_goals
    go_enter Try.func4, Try.ntmps4
    go_wp2_with fail
    refine (works_any w).mono ?_
    rintro e w1 ⟨rfl, hb1⟩
    go_wp2_with fail
    refine (make_at w.heap.size w1 hb1.size).mono ?_
    rintro e w2 ⟨rfl, hs2, hb2⟩
    have hb2' := below_then hb1 hb1.size hb2
    go_wp2_with fail
    refine (put_to w.heap.size w1.heap.size _ [] 0 A c _ l1 l1 l1.length 0 w2 hs2 rfl (Kd.C_below hr1 hb2') hc1 (by simp; omega) (putP_nil l1)).mono ?_
    rintro e w3 ⟨rfl, hp3⟩
    have hb3 := hb2'.trans (hp3.below hs2)
    obtain ⟨v3, hs3, -, -⟩ := hp3
    go_wp2_with fail
    refine (among_some at_ (l1.length + 1) w3 (by omega) (by omega)).mono ?_
    rintro e w4 ⟨fr, rfl, hf0, hf1, ⟨m4, rfl⟩⟩
    have hb4 := pw_below_drewN hb3 m4
    have hs4 : SinkAt (w3.drewN m4) w.heap.size w1.heap.size v3 l1 := hs3.below (pw_below_drewN (Below.refl _ _) _)
    generalize w3.drewN m4 = w5 at *
    clear hs3 hb3
    go_wp2_with fail
    refine (among_some n (l1.length - fr + 1) w5 (by omega) (by omega)).mono ?_
    rintro e w6 ⟨r2, rfl, hg0, hg1, ⟨m5, rfl⟩⟩
    have hb6 := pw_below_drewN hb4 m5
    have hs6 : SinkAt (w5.drewN m5) w.heap.size w1.heap.size v3 l1 := hs4.below (pw_below_drewN (Below.refl _ _) _)
    generalize w5.drewN m5 = w7 at *
    clear hs4 hb4
    obtain ⟨A5, cut5, rd5, le5⟩ := print_mid_of (P := Try.prog) (Value.int .i64) (0 : Int) 27 3 .i64 .i64 Try.underlying27 hi his A c l1 fr (fr + r2) hf0 (by omega) (by omega) hc1
    have RD5 := Aside0.mk (Rd.of (rd5 w hr1.ints))
    have P5 := Aside0.mk (putP_again l1 fr (fr + r2) hf0 (by omega) (by omega))
    have hl5 : ((l1.take (fr + r2).toNat).drop fr.toNat).length ≤ 200 := by rw [List.length_drop, List.length_take]; omega
    clear rd5
    generalize (l1.take (fr + r2).toNat).drop fr.toNat = l5 at *
    go_wp2_with fail
    refine (put_to w.heap.size w1.heap.size v3 l1 fr A5 (c - fr.toNat) _ l5 l1 0 0 w7 hs6 rfl (Kd.C_below RD5.out hb6) le5 (by omega) P5.out).mono ?_
    rintro e w8 ⟨rfl, hp8⟩
    have hb8 := hb6.trans (hp8.below hs6)
    obtain ⟨v8, hs8, -, -⟩ := hp8
    go_wp2_with fail
    refine (all_at w.heap.size w1.heap.size v8 l1 w8 hs8 (by omega)).mono ?_
    rintro e w9 ⟨u, A9, c9, rfl, rfl, hl9, ho9, hb9⟩
    obtain ⟨A', c', he, _, hr9⟩ := own_rd ho9
    injection he with he1 _ he2
    subst he1 he2
    have hb9' := below_then hb8 hb8.size hb9
    go_wp2_with fail
    refine (same_any A9 c9 l1 A c l1 w9 hr9 hl9 (Kd.C_below hr1 hb9') hc1).mono ?_
    rintro e w10 ⟨rfl, ⟨m, rfl⟩⟩
    go_wp2
    go_ret
    exact ⟨by simp, pw_below_drewN hb9' m⟩
end Go.Proofs.Ythijcbihdkheoaa.G
