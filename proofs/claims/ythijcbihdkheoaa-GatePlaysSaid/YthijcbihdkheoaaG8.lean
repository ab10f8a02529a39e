/- The law GateBounds's walk. -/
import Derived.Test.YthijcbihdkheoaaG7
namespace Go.Proofs.Ythijcbihdkheoaa.G
open Go.RowKit Go.Proofs.YthijcbihdkheoaaW.PrintWords Go.Proofs.YthijcbihdkheoaaW.PrintLast Go.Proofs.YthijcbihdkheoaaW.PrintMore
set_option linter.unusedSimpArgs false
set_option linter.unusedVariables false

theorem row_at {w : World} {A : Option Addr} {n : Nat} {xs : List (List Int)} (h : (Kd.slice 3 (Kd.int .i64)).C w A n xs) (i : Int) (h0 : 0 ≤ i) (h1 : i < n) :
    ∃ ad A' c' x, A = some ad ∧ w.cell? (ad.add i.toNat) = some (.slice A' (List.length x) c') ∧ x.length ≤ c' ∧ Rd w A' x := by
  obtain ⟨hn, hm, hf⟩ := h
  subst hn
  obtain ⟨a, rfl, hat⟩ := hf (by omega)
  have hlt : i.toNat < xs.length := by omega
  obtain ⟨c, hc, ⟨A', c', rfl, hl, hC⟩, hcell⟩ := hat i.toNat xs[i.toNat] (by simp [hlt])
  refine ⟨a, A', c', xs[i.toNat], rfl, ?_, hl, hC⟩
  have := hcell 0 _ rfl
  simpa [Kd.slice] using this
theorem take_case {w : World} {A : Option Addr} {c : Nat} {x : List Int} (k : Int) (hk : 0 ≤ k) (hr : Rd w A x) (hc : x.length ≤ c) :
    ∃ l : List Int, l.length ≤ k ∧ Rd w A l ∧ l.length ≤ c ∧ ((k < x.length ∧ ∀ W : World, (Instr.slice 27 (.slice A x.length c) none (some (.int .i64 k)) none).run Try.prog W = .ok (.slice A l.length c) W) ∨
      (¬ k < x.length ∧ ∀ W : World, (Instr.slice 27 (.slice A x.length c) none (some (.int .i64 (x.length : Int))) none).run Try.prog W = .ok (.slice A l.length c) W)) := by
  obtain ⟨i, hi, his⟩ := info3'
  have hlm := hr.2.1
  by_cases h : k < x.length
  · obtain ⟨cut, rd, le⟩ := print_take_of (P := Try.prog) (Value.int .i64) (0 : Int) 27 3 .i64 Try.underlying27 hi his A c x k hk (by omega) hc
    exact ⟨_, by rw [List.length_take]; omega, Rd.of (rd w hr.ints), le, .inl ⟨h, cut⟩⟩
  · obtain ⟨cut, rd, le⟩ := print_take_of (P := Try.prog) (Value.int .i64) (0 : Int) 27 3 .i64 Try.underlying27 hi his A c x x.length (by omega) (by omega) hc
    exact ⟨_, by rw [List.length_take]; omega, Rd.of (rd w hr.ints), le, .inr ⟨h, cut⟩⟩
theorem OfferPost.gate {w w' : World} {B g : Nat} {u : Value} {next limit : Int} {ws ws' : List Int} (h : OfferPost w B g u next limit ws' w') (hg : GateAt w B g u next limit ws) : (∃ u', GateAt w' B g u' next limit ws') ∧ Below B w w' := by
  obtain ⟨u', hs, ht, hv⟩ := h
  refine ⟨⟨u', hs⟩, below_of_turn ht (fun k hk => ?_) (by have := hg.ge; have := hg.lt; omega)⟩
  rcases hk with rfl | hk
  · exact hg.ge
  · exact own_base hg.own k hk.symm
set_option maxRecDepth 100000 in
set_option maxHeartbeats 8000000 in
theorem GateBounds_walk (lim : Int) (A0 : Option Addr) (c0 : Nat) (l : List (List Int)) (w : World) (hr0 : (Kd.slice 3 (Kd.int .i64)).C w A0 l.length l) (hc0 : l.length ≤ c0) :
    Calls Try.prog 5 #[.int .i64 lim, .slice A0 l.length c0] w fun e w' => e = .returned (.bool true) ∧ Below w.heap.size w w' := by
  have hlm := hr0.2.1
  have HR0 := Aside0.mk hr0
  clear hr0
  go_enter Try.func5, Try.ntmps5
  go_wp2_with fail
  refine (works_any w).mono ?_
  rintro e w1 ⟨rfl, hb1⟩
  go_wp2_with fail
  refine (among_some lim 20 w1 (by omega) (by omega)).mono ?_
  rintro e w2' ⟨L0, rfl, hL0, hL1, ⟨m2, rfl⟩⟩
  have hB2 := Aside0.mk (pw_below_drewN hb1 m2)
  clear hb1
  generalize w1.drewN m2 = w2 at *
  have hs2 := hB2.out.size
  obtain ⟨L, hLe, hLa, hLb⟩ : ∃ L, Aside0 (L = wrap64 (1 + L0)) ∧ 1 ≤ L ∧ L ≤ 20 := ⟨_, ⟨rfl⟩, by unfold wrap64; omega, by unfold wrap64; omega⟩
  have hLb' : 1 + L0 = L := by rw [hLe.out]; unfold wrap64; omega
  go_wp2_with fail
  clear hLb' hLe hL0 hL1
  refine (new_ok w.heap.size 0 L w2 hs2 (by decide) hLa).mono ?_
  rintro e w3 ⟨rfl, hg3, hb3⟩
  have hB3 := Aside0.mk (hB2.out.then' hb3 hs2)
  have HG3 := Aside0.mk hg3
  clear hg3 hb3 hB2 hs2
  generalize w2.heap.size = g at *
  go_wp2
  go_loopg [7] 60 (fun kq v7 w' => ∃ (j : Int) (u : Value) (ws : List Int), v7 = .int .i64 j ∧ 0 ≤ j ∧ Aside0 (j = 60 - kq) ∧ ws.length ≤ L ∧ Aside0 (GateAt w' w.heap.size g u 0 L ws) ∧ Aside0 (Below w.heap.size w w'))
  case atStart => exact ⟨0, _, [], rfl, by omega, ⟨by simp⟩, by simp; omega, ⟨HG3.out⟩, hB3⟩
  case round =>
    clear hB3 HG3
    obtain ⟨j, u, ws, rfl, hj0, hjk, hwL, HG, HB⟩ := hrel
    have hBs := HB.out.size
    have EXIT := Lib.hid (free_at w.heap.size g u 0 L ws wr HG.out hLa (by omega))
    by_cases q1 : j < (l.length : Int)
    · have q1b : decide (j < (l.length : Int)) = true := decide_eq_true q1
      by_cases q2 : j < 60
      · have q2b : decide (j < 60) = true := decide_eq_true q2
        clear EXIT
        go_wp2_with fail
        refine (wait_at w.heap.size g u 0 L ws wr HG.out hLa (by omega)).mono ?_
        rintro e w4 ⟨u4, A4, c4, rfl, rfl, hl4, ho4, hb4⟩
        have HB4 := Aside0.mk (HB.out.then' hb4 hBs)
        have HG4 := Aside0.mk (HG.out.below hb4)
        have HR4 := Aside0.mk (rd_of_own ho4)
        clear hBs hb4 ho4 HG HB
        obtain ⟨ad, A5, c5, x, e5, hcell5, hc5, hrx⟩ := row_at (Kd.C_below HR0.out HB4.out) j hj0 q1
        cases e5
        have hxm := hrx.2.1
        obtain ⟨y, hy100, hry, hcy, hcase⟩ := take_case 100 (by decide) hrx hc5
        have HRY := Aside0.mk hry
        clear hry hrx
        rcases hcase with ⟨hlt, hcut⟩ | ⟨hlt, hcut⟩
        all_goals
          go_wp2_with fail
          go_quiet (fail)
          have HB5 := Aside0.mk (pw_below_drewN HB4.out nq)
          have HG5 := Aside0.mk (HG4.out.below (pw_below_drewN (Below.refl _ _) nq))
          have HRY5 := Aside0.mk (Kd.C_below HRY.out (pw_below_drewN (Below.refl w4.heap.size w4) nq))
          have HR5 := Aside0.mk (Kd.C_below HR4.out (pw_below_drewN (Below.refl w4.heap.size w4) nq))
          clear HB4 HG4 HRY HR4 hcell5 hcut hlt hxm
          have hBs5 : w.heap.size ≤ w4.heap.size := HB5.out.size
          have hBs5' : w4.heap.size ≤ (w4.drewN nq).heap.size := Nat.le_refl _
          generalize w4.drewN nq = w5 at *
          by_cases hf : (y.length : Int) ≤ L - ws.length
          · have hfb : decide (L - (ws.length : Int) < y.length) = false := decide_eq_false (by omega)
            have HO := Lib.hid (offer_ok w.heap.size g u 0 L ws A5 c5 y w5 HG5.out hLa (by omega) HRY5.out hf (by omega))
            go_wp2_with fail
            refine HO.out.mono ?_
            rintro e w6 ⟨rfl, hp6⟩
            obtain ⟨⟨u6, hg6⟩, hb6⟩ := hp6.gate HG5.out
            have HB6 := Aside0.mk (HB5.out.trans hb6)
            have HG6 := Aside0.mk hg6
            have hl6 : (ws ++ y).length ≤ L := by rw [List.length_append]; omega
            clear hg6 hp6 HO hb6 HB5 HG5 HRY5 HR5 hBs5 hBs5'
            generalize ws ++ y = ws6 at *
            have hl6b : decide (L < (ws6.length : Int)) = false := decide_eq_false (by omega)
            have hBs6 := HB6.out.size
            go_wp2_with fail
            refine (wait_at w.heap.size g u6 0 L ws6 w6 HG6.out hLa (by omega)).mono ?_
            rintro e w7 ⟨u7, A7, c7, rfl, rfl, hl7, ho7, hb7⟩
            have HB7 := Aside0.mk (HB6.out.then' hb7 hBs6)
            have HG7 := Aside0.mk (HG6.out.below hb7)
            clear hb7 ho7
            go_wp2
            go_roundg (gk - 1)
            case measure => have := hjk.out; omega
            case rel => exact ⟨j + 1, u6, ws6, by first | rfl | simp, by omega, ⟨by have := hjk.out; omega⟩, hl6, HG7, HB7⟩
          · have hfb : decide (L - (ws.length : Int) < y.length) = true := decide_eq_true (by omega)
            have hlb : decide (L < (ws.length : Int)) = false := decide_eq_false (by omega)
            have HO := Lib.hid (offer_full w.heap.size g u 0 L ws A5 y.length c5 w5 HG5.out hLa (by omega) (by omega))
            go_wp2_with fail
            refine HO.out.mono ?_
            rintro e w6' ⟨rfl, ⟨m6, rfl⟩⟩
            have HB6 := Aside0.mk (pw_below_drewN HB5.out m6)
            have HG6 := Aside0.mk (HG5.out.below (pw_below_drewN (Below.refl _ _) m6))
            have HR6 := Aside0.mk (Kd.C_below HR5.out (pw_below_drewN (Below.refl w5.heap.size w5) m6))
            clear HO HB5 HG5 HRY5 HR5 hBs5 hBs5'
            generalize w5.drewN m6 = w6 at *
            have hBs6 := HB6.out.size
            go_wp2_with fail
            refine (wait_at w.heap.size g u 0 L ws w6 HG6.out hLa (by omega)).mono ?_
            rintro e w7 ⟨u7, A7, c7, rfl, rfl, hl7, ho7, hb7⟩
            have HB7 := Aside0.mk (HB6.out.then' hb7 hBs6)
            have HG7 := Aside0.mk (HG6.out.below hb7)
            have HR7 := Aside0.mk (Kd.C_below HR6.out hb7)
            clear hb7 ho7 HB6 HG6 HR6
            have hBs7 := HB7.out.size
            go_wp2_with fail
            refine (wait_at w.heap.size g u 0 L ws w7 HG7.out hLa (by omega)).mono ?_
            rintro e w8 ⟨u8, A8, c8, rfl, rfl, hl8, ho8, hb8⟩
            have HB8 := Aside0.mk (HB7.out.then' hb8 hBs7)
            have HG8 := Aside0.mk (HG7.out.below hb8)
            have HR8 := Aside0.mk (Kd.C_below HR7.out hb8)
            have HR8' := Aside0.mk (rd_of_own ho8)
            clear hb8 ho8
            go_wp2_with fail
            refine (same_any A8 c8 ws A4 c4 ws w8 HR8'.out hl8 HR8.out hl4).mono ?_
            rintro e w9' ⟨rfl, ⟨m9, rfl⟩⟩
            have HB9 := Aside0.mk (pw_below_drewN HB8.out m9)
            have HG9 := Aside0.mk (HG8.out.below (pw_below_drewN (Below.refl _ _) m9))
            go_wp2
            go_roundg (gk - 1)
            case measure => have := hjk.out; omega
            case rel => exact ⟨j + 1, u, ws, by first | rfl | simp, by omega, ⟨by have := hjk.out; omega⟩, hwL, HG9, HB9⟩
      · have q2b : decide (j < 60) = false := decide_eq_false q2
        go_wp2_with fail
        refine EXIT.out.mono ?_
        rintro e w4' ⟨rfl, ⟨m4, rfl⟩⟩
        have HB4 := Aside0.mk (pw_below_drewN HB.out m4)
        have HG4 := Aside0.mk (HG.out.below (pw_below_drewN (Below.refl _ _) m4))
        clear EXIT HB HG
        have hBs4 := HB4.out.size
        generalize wr.drewN m4 = w4 at *
        go_wp2_with fail
        refine (wait_at w.heap.size g u 0 L ws w4 HG4.out hLa (by omega)).mono ?_
        rintro e w5 ⟨u5, A5, c5, rfl, rfl, hl5, ho5, hb5⟩
        go_wp2
        go_ret
        exact ⟨by simp, HB4.out.then' hb5 hBs4⟩
    · have q1b : decide (j < (l.length : Int)) = false := decide_eq_false q1
      go_wp2_with fail
      refine EXIT.out.mono ?_
      rintro e w4' ⟨rfl, ⟨m4, rfl⟩⟩
      have HB4 := Aside0.mk (pw_below_drewN HB.out m4)
      have HG4 := Aside0.mk (HG.out.below (pw_below_drewN (Below.refl _ _) m4))
      clear EXIT HB HG
      have hBs4 := HB4.out.size
      generalize wr.drewN m4 = w4 at *
      go_wp2_with fail
      refine (wait_at w.heap.size g u 0 L ws w4 HG4.out hLa (by omega)).mono ?_
      rintro e w5 ⟨u5, A5, c5, rfl, rfl, hl5, ho5, hb5⟩
      go_wp2
      go_ret
      exact ⟨by simp, HB4.out.then' hb5 hBs4⟩
end Go.Proofs.Ythijcbihdkheoaa.G
