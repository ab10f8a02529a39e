/- Printed by a program of this session out of the kit's print: functions of the law as plain Lean functions, and their walks. -/
import Derived.Test.YtbhdodkkebgjcaaAx0
import Derived.Test.YtbhdodkkebgjcaaAx1
import Derived.Test.YtbhdodkkebgjcaaAx4
import Derived.Test.YtbhdodkkebgjcaaAx7
import Derived.Test.YtbhdodkkebgjcaaL10
namespace Go.Proofs.Ytbhdodkkebgjcaa.A.P
open Go.RowKit Go.Proofs.YtbhdodkkebgjcaaW.PrintWords Go.Proofs.YtbhdodkkebgjcaaW.PrintLast Go.Proofs.YtbhdodkkebgjcaaW.PrintMore
attribute [local go_sem] max2_int min2_int max_two min_two max_three min_three max_four min_four   -- for this text's walks alone
set_option linter.unusedVariables false
set_option linter.unusedSimpArgs false

/-! ### larchlaw19_LockAlone: function 4 -/
mutual
def larchlaw19_LockAlone.j0 : Nat → List (S38) → Int → Int → Int → Int → List (S38) → Bool → Option (Bool)
  | 0, _, _, _, _, _, _, _ => none
  | k + 1, x0, x1, x2, x3, x4, x11, x53 => if x53 = true then (some true) else (larchlaw19_LockAlone.l0 k x0 x1 x2 x3 x4 x11 0)
def larchlaw19_LockAlone.l0 : Nat → List (S38) → Int → Int → Int → Int → List (S38) → Int → Option (Bool)
  | 0, _, _, _, _, _, _, _ => none
  | k + 1, x0, x1, x2, x3, x4, x11, x13 => if x13 < x4 then ((lock_Enter.f k x11 x1 x3 1).bind fun bt311 => (if bt311.2 = 8 then ((lock_Owner.f x11 x1).bind fun t315 => (larchlaw19_LockAlone.j2 k x0 x1 x2 x3 x4 x11 x13 (t315 != x2))) else (larchlaw19_LockAlone.j2 k x0 x1 x2 x3 x4 x11 x13 true))) else ((lock_Enter.f k x11 x1 x3 1).bind fun bt306 => (if bt306.2 = 0 then ((larchlaw19_same.f k x11 x0).bind fun t310 => (some t310)) else (some false)))
def larchlaw19_LockAlone.j2 : Nat → List (S38) → Int → Int → Int → Int → List (S38) → Int → Bool → Option (Bool)
  | 0, _, _, _, _, _, _, _, _ => none
  | k + 1, x0, x1, x2, x3, x4, x11, x13, x74 => if x74 = true then (some false) else ((lock_Exit.f k x11 x1 x2).bind fun bt316 => (if bt316.2 = 0 then (larchlaw19_LockAlone.l0 k x0 x1 x2 x3 x4 bt316.1 (wrap64 (x13 + 1))) else (some false)))
end
def larchlaw19_LockAlone.f (k : Nat) (l0 : List (S38)) (a1 : Int) (a2 : Int) (a3 : Int) (a4 : Int) : Option (Bool) := (larchlaw19_works.f k).bind fun t298 => (if t298 = true then ((larchbase_Among.f a4 20).bind fun t299 => ((lock_Enter.f k l0 a1 a2 (wrap64 (1 + t299))).bind fun bt300 => (if bt300.2 = 0 then (if a3 < 0 then (larchlaw19_LockAlone.j0 k l0 a1 a2 a3 (wrap64 (1 + t299)) bt300.1 true) else (if a3 = a2 then (larchlaw19_LockAlone.j0 k l0 a1 a2 a3 (wrap64 (1 + t299)) bt300.1 true) else ((larchlaw19_safe.f k l0 (wrap64 (1 + t299))).bind fun t304 => (if t304 = true then ((lock_Owner.f l0 a1).bind fun t305 => (larchlaw19_LockAlone.j0 k l0 a1 a2 a3 (wrap64 (1 + t299)) bt300.1 (decide (t305 ≥ 0)))) else (larchlaw19_LockAlone.j0 k l0 a1 a2 a3 (wrap64 (1 + t299)) bt300.1 true))))) else (larchlaw19_LockAlone.j0 k l0 a1 a2 a3 (wrap64 (1 + t299)) bt300.1 true)))) else (some false))
theorem larchlaw19_LockAlone.mono_l : ∀ k, (∀ y0 y1 y2 y3 y4 y5 y6, LeO (larchlaw19_LockAlone.j0 k y0 y1 y2 y3 y4 y5 y6) (larchlaw19_LockAlone.j0 (k + 1) y0 y1 y2 y3 y4 y5 y6)) ∧ (∀ y0 y1 y2 y3 y4 y5 y6, LeO (larchlaw19_LockAlone.l0 k y0 y1 y2 y3 y4 y5 y6) (larchlaw19_LockAlone.l0 (k + 1) y0 y1 y2 y3 y4 y5 y6)) ∧ (∀ y0 y1 y2 y3 y4 y5 y6 y7, LeO (larchlaw19_LockAlone.j2 k y0 y1 y2 y3 y4 y5 y6 y7) (larchlaw19_LockAlone.j2 (k + 1) y0 y1 y2 y3 y4 y5 y6 y7))
  | 0 => ⟨fun _ _ _ _ _ _ _ r h => by simp [larchlaw19_LockAlone.j0] at h, fun _ _ _ _ _ _ _ r h => by simp [larchlaw19_LockAlone.l0] at h, fun _ _ _ _ _ _ _ _ r h => by simp [larchlaw19_LockAlone.j2] at h⟩
  | k + 1 => by
    obtain ⟨ih0, ih1, ih2⟩ := larchlaw19_LockAlone.mono_l k
    refine ⟨?_, ?_, ?_⟩
    · intro y0 y1 y2 y3 y4 y5 y6
      unfold larchlaw19_LockAlone.j0
      repeat' first
      | (with_reducible exact ih0 _ _ _ _ _ _ _)
      | (with_reducible exact ih1 _ _ _ _ _ _ _)
      | (with_reducible exact ih2 _ _ _ _ _ _ _ _)
      | (with_reducible exact larchlaw19_safe.mono _ _ _)
      | (with_reducible exact larchlaw19_same.mono _ _ _)
      | (with_reducible exact larchlaw19_works.mono _)
      | (with_reducible exact lock_Enter.mono _ _ _ _ _)
      | (with_reducible exact lock_Exit.mono _ _ _ _)
      | (with_reducible exact LeO.refl _)
      | (with_reducible exact LeO.none _)
      | (with_reducible refine LeO.ite ?_ ?_)
      | (with_reducible refine LeO.bind ?_ (fun _ => ?_))
      | exact ih0 _ _ _ _ _ _ _
      | exact ih1 _ _ _ _ _ _ _
      | exact ih2 _ _ _ _ _ _ _ _
      | exact larchlaw19_safe.mono _ _ _
      | exact larchlaw19_same.mono _ _ _
      | exact larchlaw19_works.mono _
      | exact lock_Enter.mono _ _ _ _ _
      | exact lock_Exit.mono _ _ _ _
      | exact LeO.none _
      | refine LeO.ite ?_ ?_
      | refine LeO.bind ?_ (fun _ => ?_)
    · intro y0 y1 y2 y3 y4 y5 y6
      unfold larchlaw19_LockAlone.l0
      repeat' first
      | (with_reducible exact ih0 _ _ _ _ _ _ _)
      | (with_reducible exact ih1 _ _ _ _ _ _ _)
      | (with_reducible exact ih2 _ _ _ _ _ _ _ _)
      | (with_reducible exact larchlaw19_safe.mono _ _ _)
      | (with_reducible exact larchlaw19_same.mono _ _ _)
      | (with_reducible exact larchlaw19_works.mono _)
      | (with_reducible exact lock_Enter.mono _ _ _ _ _)
      | (with_reducible exact lock_Exit.mono _ _ _ _)
      | (with_reducible exact LeO.refl _)
      | (with_reducible exact LeO.none _)
      | (with_reducible refine LeO.ite ?_ ?_)
      | (with_reducible refine LeO.bind ?_ (fun _ => ?_))
      | exact ih0 _ _ _ _ _ _ _
      | exact ih1 _ _ _ _ _ _ _
      | exact ih2 _ _ _ _ _ _ _ _
      | exact larchlaw19_safe.mono _ _ _
      | exact larchlaw19_same.mono _ _ _
      | exact larchlaw19_works.mono _
      | exact lock_Enter.mono _ _ _ _ _
      | exact lock_Exit.mono _ _ _ _
      | exact LeO.none _
      | refine LeO.ite ?_ ?_
      | refine LeO.bind ?_ (fun _ => ?_)
    · intro y0 y1 y2 y3 y4 y5 y6 y7
      unfold larchlaw19_LockAlone.j2
      repeat' first
      | (with_reducible exact ih0 _ _ _ _ _ _ _)
      | (with_reducible exact ih1 _ _ _ _ _ _ _)
      | (with_reducible exact ih2 _ _ _ _ _ _ _ _)
      | (with_reducible exact larchlaw19_safe.mono _ _ _)
      | (with_reducible exact larchlaw19_same.mono _ _ _)
      | (with_reducible exact larchlaw19_works.mono _)
      | (with_reducible exact lock_Enter.mono _ _ _ _ _)
      | (with_reducible exact lock_Exit.mono _ _ _ _)
      | (with_reducible exact LeO.refl _)
      | (with_reducible exact LeO.none _)
      | (with_reducible refine LeO.ite ?_ ?_)
      | (with_reducible refine LeO.bind ?_ (fun _ => ?_))
      | exact ih0 _ _ _ _ _ _ _
      | exact ih1 _ _ _ _ _ _ _
      | exact ih2 _ _ _ _ _ _ _ _
      | exact larchlaw19_safe.mono _ _ _
      | exact larchlaw19_same.mono _ _ _
      | exact larchlaw19_works.mono _
      | exact lock_Enter.mono _ _ _ _ _
      | exact lock_Exit.mono _ _ _ _
      | exact LeO.none _
      | refine LeO.ite ?_ ?_
      | refine LeO.bind ?_ (fun _ => ?_)
theorem larchlaw19_LockAlone.mono : ∀ a0 a1 a2 a3 a4 k, LeO (larchlaw19_LockAlone.f k a0 a1 a2 a3 a4) (larchlaw19_LockAlone.f (k + 1) a0 a1 a2 a3 a4) := by
  intro a0 a1 a2 a3 a4 k
  obtain ⟨ih0, ih1, ih2⟩ := larchlaw19_LockAlone.mono_l k
  unfold larchlaw19_LockAlone.f
  repeat' first
      | (with_reducible exact ih0 _ _ _ _ _ _ _)
      | (with_reducible exact ih1 _ _ _ _ _ _ _)
      | (with_reducible exact ih2 _ _ _ _ _ _ _ _)
      | (with_reducible exact larchlaw19_safe.mono _ _ _)
      | (with_reducible exact larchlaw19_same.mono _ _ _)
      | (with_reducible exact larchlaw19_works.mono _)
      | (with_reducible exact lock_Enter.mono _ _ _ _ _)
      | (with_reducible exact lock_Exit.mono _ _ _ _)
      | (with_reducible exact LeO.refl _)
      | (with_reducible exact LeO.none _)
      | (with_reducible refine LeO.ite ?_ ?_)
      | (with_reducible refine LeO.bind ?_ (fun _ => ?_))
      | exact ih0 _ _ _ _ _ _ _
      | exact ih1 _ _ _ _ _ _ _
      | exact ih2 _ _ _ _ _ _ _ _
      | exact larchlaw19_safe.mono _ _ _
      | exact larchlaw19_same.mono _ _ _
      | exact larchlaw19_works.mono _
      | exact lock_Enter.mono _ _ _ _ _
      | exact lock_Exit.mono _ _ _ _
      | exact LeO.none _
      | refine LeO.ite ?_ ?_
      | refine LeO.bind ?_ (fun _ => ?_)
set_option maxHeartbeats 8000000 in
set_option maxRecDepth 100000 in
theorem larchlaw19_LockAlone.calls (k : Nat) (A0 : Option Addr) (c0 : Nat) (l0 : List (S38)) (a1 : Int) (a2 : Int) (a3 : Int) (a4 : Int) (r : Bool) (w : World) (hr0 : Kd.C k38 w A0 l0.length l0) (hc0 : l0.length ≤ c0) (h : larchlaw19_LockAlone.f k l0 a1 a2 a3 a4 = some r) :
    Calls Try.prog 4 #[.slice A0 l0.length c0, .int .i64 a1, .int .i64 a2, .int .i64 a3, .int .i64 a4] w fun e w' => e = .returned (.bool r) ∧ Below w.heap.size w w' := by
  have HR0 := Aside0.mk hr0
  have HC0 := Aside0.mk hc0
  clear hr0 hc0
  have HB := Aside0.mk (Below.refl w.heap.size w)
  have H : ((larchlaw19_works.f k).bind fun t298 => (if t298 = true then ((larchbase_Among.f a4 20).bind fun t299 => ((lock_Enter.f k l0 a1 a2 (wrap64 (1 + t299))).bind fun bt300 => (if bt300.2 = 0 then (if a3 < 0 then (larchlaw19_LockAlone.j0 k l0 a1 a2 a3 (wrap64 (1 + t299)) bt300.1 true) else (if a3 = a2 then (larchlaw19_LockAlone.j0 k l0 a1 a2 a3 (wrap64 (1 + t299)) bt300.1 true) else ((larchlaw19_safe.f k l0 (wrap64 (1 + t299))).bind fun t304 => (if t304 = true then ((lock_Owner.f l0 a1).bind fun t305 => (larchlaw19_LockAlone.j0 k l0 a1 a2 a3 (wrap64 (1 + t299)) bt300.1 (decide (t305 ≥ 0)))) else (larchlaw19_LockAlone.j0 k l0 a1 a2 a3 (wrap64 (1 + t299)) bt300.1 true))))) else (larchlaw19_LockAlone.j0 k l0 a1 a2 a3 (wrap64 (1 + t299)) bt300.1 true)))) else (some false))) = some r := h
  clear h
  replace H := Option.bind_eq_some_iff.mp H
  obtain ⟨t298, A60, H⟩ := H
  replace H : (if t298 = true then ((larchbase_Among.f a4 20).bind fun t299 => ((lock_Enter.f k l0 a1 a2 (wrap64 (1 + t299))).bind fun bt300 => (if bt300.2 = 0 then (if a3 < 0 then (larchlaw19_LockAlone.j0 k l0 a1 a2 a3 (wrap64 (1 + t299)) bt300.1 true) else (if a3 = a2 then (larchlaw19_LockAlone.j0 k l0 a1 a2 a3 (wrap64 (1 + t299)) bt300.1 true) else ((larchlaw19_safe.f k l0 (wrap64 (1 + t299))).bind fun t304 => (if t304 = true then ((lock_Owner.f l0 a1).bind fun t305 => (larchlaw19_LockAlone.j0 k l0 a1 a2 a3 (wrap64 (1 + t299)) bt300.1 (decide (t305 ≥ 0)))) else (larchlaw19_LockAlone.j0 k l0 a1 a2 a3 (wrap64 (1 + t299)) bt300.1 true))))) else (larchlaw19_LockAlone.j0 k l0 a1 a2 a3 (wrap64 (1 + t299)) bt300.1 true)))) else (some false)) = some r := H
  have A6 := Aside0.mk A60
  clear A60
  by_cases c7 : t298 = true
  · subst c7
    have H1 : ((larchbase_Among.f a4 20).bind fun t299 => ((lock_Enter.f k l0 a1 a2 (wrap64 (1 + t299))).bind fun bt300 => (if bt300.2 = 0 then (if a3 < 0 then (larchlaw19_LockAlone.j0 k l0 a1 a2 a3 (wrap64 (1 + t299)) bt300.1 true) else (if a3 = a2 then (larchlaw19_LockAlone.j0 k l0 a1 a2 a3 (wrap64 (1 + t299)) bt300.1 true) else ((larchlaw19_safe.f k l0 (wrap64 (1 + t299))).bind fun t304 => (if t304 = true then ((lock_Owner.f l0 a1).bind fun t305 => (larchlaw19_LockAlone.j0 k l0 a1 a2 a3 (wrap64 (1 + t299)) bt300.1 (decide (t305 ≥ 0)))) else (larchlaw19_LockAlone.j0 k l0 a1 a2 a3 (wrap64 (1 + t299)) bt300.1 true))))) else (larchlaw19_LockAlone.j0 k l0 a1 a2 a3 (wrap64 (1 + t299)) bt300.1 true)))) = some r := by rw [if_pos rfl] at H; exact H
    clear H
    have H := H1
    clear H1
    replace H := Option.bind_eq_some_iff.mp H
    obtain ⟨t299, A80, H⟩ := H
    replace H : ((lock_Enter.f k l0 a1 a2 (wrap64 (1 + t299))).bind fun bt300 => (if bt300.2 = 0 then (if a3 < 0 then (larchlaw19_LockAlone.j0 k l0 a1 a2 a3 (wrap64 (1 + t299)) bt300.1 true) else (if a3 = a2 then (larchlaw19_LockAlone.j0 k l0 a1 a2 a3 (wrap64 (1 + t299)) bt300.1 true) else ((larchlaw19_safe.f k l0 (wrap64 (1 + t299))).bind fun t304 => (if t304 = true then ((lock_Owner.f l0 a1).bind fun t305 => (larchlaw19_LockAlone.j0 k l0 a1 a2 a3 (wrap64 (1 + t299)) bt300.1 (decide (t305 ≥ 0)))) else (larchlaw19_LockAlone.j0 k l0 a1 a2 a3 (wrap64 (1 + t299)) bt300.1 true))))) else (larchlaw19_LockAlone.j0 k l0 a1 a2 a3 (wrap64 (1 + t299)) bt300.1 true))) = some r := H
    have A8 := Aside0.mk A80
    clear A80
    replace H := Option.bind_eq_some_iff.mp H
    obtain ⟨⟨t300, t301⟩, A90, H⟩ := H
    replace H : (if t301 = 0 then (if a3 < 0 then (larchlaw19_LockAlone.j0 k l0 a1 a2 a3 (wrap64 (1 + t299)) t300 true) else (if a3 = a2 then (larchlaw19_LockAlone.j0 k l0 a1 a2 a3 (wrap64 (1 + t299)) t300 true) else ((larchlaw19_safe.f k l0 (wrap64 (1 + t299))).bind fun t304 => (if t304 = true then ((lock_Owner.f l0 a1).bind fun t305 => (larchlaw19_LockAlone.j0 k l0 a1 a2 a3 (wrap64 (1 + t299)) t300 (decide (t305 ≥ 0)))) else (larchlaw19_LockAlone.j0 k l0 a1 a2 a3 (wrap64 (1 + t299)) t300 true))))) else (larchlaw19_LockAlone.j0 k l0 a1 a2 a3 (wrap64 (1 + t299)) t300 true)) = some r := H
    have A9 := Aside0.mk A90
    clear A90
    have HC10 := Aside0.mk H
    clear H
    go_enter Try.func4, Try.ntmps4
    go_upto_region 5 with (first | ((with_reducible refine gate_callee (f := 17) rfl ?_); refine goesL_ (some 18) rfl rfl Try.func17 (by kernel_rfl) rfl #[] rfl (by (try simp only [List.map_toArray, List.map_cons, List.map_nil]); first | done | rfl | (simp only [List.length_drop, List.length_take]; rfl)) ?_; (with_reducible refine (larchlaw19_works.calls k  true _ A6.out).mono ?_); rintro e w11 ⟨rfl, hb⟩; refine ⟨_, rfl, ?_⟩; have n0_ := Aside0.mk (below_step (by repeat (first | (with_reducible first | exact HB.out | apply below_alloc | apply pw_below_drewN | apply below_drew1) | exact HB.out)) hb); clear HB; have HB := n0_; clear n0_; (try clear hb); (try clear hb2); (try clear hk); (try clear hi)) | ((with_reducible refine gate_callee (f := 18) rfl ?_); refine goesL_ (some 21) rfl rfl Try.func18 (by kernel_rfl) rfl #[.int .i64 a4, .int .i64 20] rfl (by (try simp only [List.map_toArray, List.map_cons, List.map_nil]); first | done | rfl | (simp only [List.length_drop, List.length_take]; rfl)) ?_; (with_reducible refine (larchbase_Among.calls a4 20 t299 _ A8.out).mono ?_); rintro e w' ⟨rfl, ⟨nd, rfl⟩⟩; refine ⟨_, rfl, ?_⟩) | ((with_reducible refine gate_callee (f := 10) rfl ?_); refine goesL_ (some 28) rfl rfl Try.func10 (by kernel_rfl) rfl #[.slice A0 l0.length c0, .int .i64 a1, .int .i64 a2, .int .i64 (wrap64 (1 + t299))] rfl (by (try simp only [List.map_toArray, List.map_cons, List.map_nil]); first | done | rfl | (simp only [List.length_drop, List.length_take]; rfl)) ?_; (with_reducible refine (lock_Enter.calls k _ _ l0 a1 a2 (wrap64 (1 + t299)) t300 t301 _ ?side1 ?side2 A9.out).mono ?_); (case side1 => repeat (first | exact (Kd.C_below HR0.out (by repeat (first | (with_reducible first | exact HB.out | apply below_alloc | apply pw_below_drewN | apply below_drew1) | exact HB.out))) | (with_reducible refine Kd.C_alloc ?_ _) | (with_reducible refine Kd.C_drewN ?_ _) | (with_reducible refine Kd.C_drew ?_))); (case side2 => exact HC0.out); rintro e w12 ⟨v302, rfl, ho0, hb⟩; refine ⟨_, rfl, ?_⟩; have n0_ := Aside0.mk (Kd.R_lower ho0 (below_size (by repeat (first | (with_reducible first | exact HB.out | apply below_alloc | apply pw_below_drewN | apply below_drew1) | exact HB.out)))); have n1_ := Aside0.mk (below_step (by repeat (first | (with_reducible first | exact HB.out | apply below_alloc | apply pw_below_drewN | apply below_drew1) | exact HB.out)) hb); clear HB; have HO303 := n0_; have HB := n1_; clear n0_ n1_; (try clear hb); (try clear hb2); (try clear hk); (try clear hi); (try clear ho0)))
    (try simp only [Act.put, List.setIfInBounds_toArray, List.set_cons_zero, List.set_cons_succ])
    go_cut [53] (fun v53 wc => ∃ (kq : Nat) (x53_9 : Bool), v53 = .bool x53_9 ∧ Aside0 (larchlaw19_LockAlone.j0 kq l0 a1 a2 a3 (wrap64 (1 + t299)) t300 x53_9 = some r) ∧ Aside0 (kq ≤ k) ∧ Aside0 (Kd.R k38 38 wc w.heap.size (fun _ => True) v302 t300) ∧ Aside0 (Below w.heap.size w wc))
    case first =>
      have H := HC10.out
      clear HC10
      by_cases c13 : t301 = 0
      · rw [if_pos c13] at H
        have c13b0 : (t301 == 0) = true := beq_iff_eq.mpr c13
        have c13b1 : (t301 != 0) = false := bne_eq_false_iff_eq.mpr c13
        clear c13
        (first | rw [c13b0] | (simp only [i64_w, i32_w]; rw [c13b0]) | skip)
        by_cases c14 : a3 < 0
        · rw [if_pos c14] at H
          have c14b0 : decide (a3 < 0) = true := decide_eq_true c14
          clear c14
          have H' := Aside0.mk H
          clear H
          go_wp2
          go_meet
          case rel => exact ⟨_, (true), (by first | rfl | (simp; done) | (simp [*]; done)), H', ⟨by first | omega | exact Nat.le_refl _⟩, ⟨by (with_reducible repeat (first | apply Kd.R_alloc | apply Kd.R_drewN | apply Kd.R_drew)); exact HO303.out⟩, ⟨by repeat (first | (with_reducible first | exact HB.out | apply below_alloc | apply pw_below_drewN | apply below_drew1) | exact HB.out)⟩⟩
        · rw [if_neg c14] at H
          have c14b0 : decide (a3 < 0) = false := decide_eq_false c14
          clear c14
          by_cases c15 : a3 = a2
          · rw [if_pos c15] at H
            have c15b0 : (a3 == a2) = true := beq_iff_eq.mpr c15
            have c15b1 : (a3 != a2) = false := bne_eq_false_iff_eq.mpr c15
            clear c15
            have H' := Aside0.mk H
            clear H
            go_wp2
            go_meet
            case rel => exact ⟨_, (true), (by first | rfl | (simp; done) | (simp [*]; done)), H', ⟨by first | omega | exact Nat.le_refl _⟩, ⟨by (with_reducible repeat (first | apply Kd.R_alloc | apply Kd.R_drewN | apply Kd.R_drew)); exact HO303.out⟩, ⟨by repeat (first | (with_reducible first | exact HB.out | apply below_alloc | apply pw_below_drewN | apply below_drew1) | exact HB.out)⟩⟩
          · rw [if_neg c15] at H
            have c15b0 : (a3 == a2) = false := beq_eq_false_iff_ne.mpr c15
            have c15b1 : (a3 != a2) = true := bne_iff_ne.mpr c15
            replace H := Option.bind_eq_some_iff.mp H
            obtain ⟨t304, A160, H⟩ := H
            replace H : (if t304 = true then ((lock_Owner.f l0 a1).bind fun t305 => (larchlaw19_LockAlone.j0 k l0 a1 a2 a3 (wrap64 (1 + t299)) t300 (decide (t305 ≥ 0)))) else (larchlaw19_LockAlone.j0 k l0 a1 a2 a3 (wrap64 (1 + t299)) t300 true)) = some r := H
            have A16 := Aside0.mk A160
            clear A160
            by_cases c17 : t304 = true
            · subst c17
              have H1 : ((lock_Owner.f l0 a1).bind fun t305 => (larchlaw19_LockAlone.j0 k l0 a1 a2 a3 (wrap64 (1 + t299)) t300 (decide (t305 ≥ 0)))) = some r := by rw [if_pos rfl] at H; exact H
              clear H
              have H := H1
              clear H1
              replace H := Option.bind_eq_some_iff.mp H
              obtain ⟨t305, A180, H⟩ := H
              replace H : (larchlaw19_LockAlone.j0 k l0 a1 a2 a3 (wrap64 (1 + t299)) t300 (decide (t305 ≥ 0))) = some r := H
              have A18 := Aside0.mk A180
              clear A180
              have H' := Aside0.mk H
              clear H
              go_wp2_with (first | (go_at_call 7; (with_reducible refine (larchlaw19_safe.calls k _ _ l0 (wrap64 (1 + t299)) true _ ?side1 ?side2 A16.out).mono ?_); (case side1 => repeat (first | exact (Kd.C_below HR0.out HB.out) | (with_reducible refine Kd.C_alloc ?_ _) | (with_reducible refine Kd.C_drewN ?_ _) | (with_reducible refine Kd.C_drew ?_))); (case side2 => exact HC0.out); rintro e w' ⟨rfl, ⟨nd, rfl⟩⟩) | (go_at_call 19; (with_reducible refine (lock_Owner.calls _ _ l0 a1 t305 _ ?side1 ?side2 A18.out).mono ?_); (case side1 => repeat (first | exact (Kd.C_below HR0.out (by repeat (first | (with_reducible first | exact HB.out | apply below_alloc | apply pw_below_drewN | apply below_drew1) | exact HB.out))) | (with_reducible refine Kd.C_alloc ?_ _) | (with_reducible refine Kd.C_drewN ?_ _) | (with_reducible refine Kd.C_drew ?_))); (case side2 => exact HC0.out); rintro e w19 ⟨rfl, hb⟩; have n0_ := Aside0.mk (Kd.R_below (by (with_reducible repeat (first | apply Kd.R_alloc | apply Kd.R_drewN | apply Kd.R_drew)); exact HO303.out) hb); have n1_ := Aside0.mk (below_step (by repeat (first | (with_reducible first | exact HB.out | apply below_alloc | apply pw_below_drewN | apply below_drew1) | exact HB.out)) hb); clear HO303; clear HB; have HO303 := n0_; have HB := n1_; clear n0_ n1_; (try clear hb); (try clear hb2); (try clear hk); (try clear hi)))
              go_meet
              case rel => exact ⟨_, (decide (t305 ≥ 0)), (by first | rfl | (simp; done) | (simp [*]; done)), H', ⟨by first | omega | exact Nat.le_refl _⟩, ⟨by (with_reducible repeat (first | apply Kd.R_alloc | apply Kd.R_drewN | apply Kd.R_drew)); exact HO303.out⟩, ⟨by repeat (first | (with_reducible first | exact HB.out | apply below_alloc | apply pw_below_drewN | apply below_drew1) | exact HB.out)⟩⟩
            · replace c17 := Bool.eq_false_iff.mpr c17
              subst c17
              have H1 : (larchlaw19_LockAlone.j0 k l0 a1 a2 a3 (wrap64 (1 + t299)) t300 true) = some r := by rw [if_neg (show ¬ (false = true) by decide)] at H; exact H
              clear H
              have H := H1
              clear H1
              have H' := Aside0.mk H
              clear H
              go_wp2_with (first | (go_at_call 7; (with_reducible refine (larchlaw19_safe.calls k _ _ l0 (wrap64 (1 + t299)) false _ ?side1 ?side2 A16.out).mono ?_); (case side1 => repeat (first | exact (Kd.C_below HR0.out HB.out) | (with_reducible refine Kd.C_alloc ?_ _) | (with_reducible refine Kd.C_drewN ?_ _) | (with_reducible refine Kd.C_drew ?_))); (case side2 => exact HC0.out); rintro e w' ⟨rfl, ⟨nd, rfl⟩⟩))
              go_meet
              case rel => exact ⟨_, (true), (by first | rfl | (simp; done) | (simp [*]; done)), H', ⟨by first | omega | exact Nat.le_refl _⟩, ⟨by (with_reducible repeat (first | apply Kd.R_alloc | apply Kd.R_drewN | apply Kd.R_drew)); exact HO303.out⟩, ⟨by repeat (first | (with_reducible first | exact HB.out | apply below_alloc | apply pw_below_drewN | apply below_drew1) | exact HB.out)⟩⟩
      · rw [if_neg c13] at H
        have c13b0 : (t301 == 0) = false := beq_eq_false_iff_ne.mpr c13
        have c13b1 : (t301 != 0) = true := bne_iff_ne.mpr c13
        (first | rw [c13b0] | (simp only [i64_w, i32_w]; rw [c13b0]) | skip)
        have H' := Aside0.mk H
        clear H
        go_wp2
        go_meet
        case rel => exact ⟨_, (true), (by first | rfl | (simp; done) | (simp [*]; done)), H', ⟨by first | omega | exact Nat.le_refl _⟩, ⟨by (with_reducible repeat (first | apply Kd.R_alloc | apply Kd.R_drewN | apply Kd.R_drew)); exact HO303.out⟩, ⟨by repeat (first | (with_reducible first | exact HB.out | apply below_alloc | apply pw_below_drewN | apply below_drew1) | exact HB.out)⟩⟩
    case rest =>
      clear HC10
      try clear c1
      try clear p2
      try clear c4
      try clear p6
      try clear c7
      try clear c10
      try clear c13
      try clear c13b0
      try clear c13b1
      try clear c14
      try clear c14b0
      try clear c15
      try clear c15b0
      try clear c15b1
      try clear c17
      try clear c18
      obtain ⟨kq, x53_9, rfl, HA, HJ9, HO_11, HB⟩ := hcut
      cases kq with
      | zero => exact absurd HA.out (by simp [larchlaw19_LockAlone.j0])
      | succ kj9 =>
        have H := HA.out
        clear HA
        simp only [larchlaw19_LockAlone.j0] at H
        by_cases c20 : x53_9 = true
        · subst c20
          have H1 : (some true) = some r := by rw [if_pos rfl] at H; exact H
          clear H
          have H := H1
          clear H1
          obtain rfl := Option.some.inj H
          go_wp2
          go_ret
          exact ⟨by first | rfl | (simp [errW_none, errW_some] <;> rfl) | (simp [*, errW_none, errW_some] <;> rfl), by repeat (first | (with_reducible first | exact HB.out | apply below_alloc | apply pw_below_drewN | apply below_drew1) | exact HB.out)⟩
        · replace c20 := Bool.eq_false_iff.mpr c20
          subst c20
          have H1 : (larchlaw19_LockAlone.l0 kj9 l0 a1 a2 a3 (wrap64 (1 + t299)) t300 0) = some r := by rw [if_neg (show ¬ (false = true) by decide)] at H; exact H
          clear H
          have H := H1
          clear H1
          have H' := Aside0.mk H
          clear H
          go_wp2
          go_loopg [11, 13] kj9 (fun kq v11 v13 w' => ∃ (x11_2 : List (S38)) (x13_2 : Int), v13 = .int .i64 x13_2 ∧ Aside0 (larchlaw19_LockAlone.l0 kq l0 a1 a2 a3 (wrap64 (1 + t299)) x11_2 x13_2 = some r) ∧ Aside0 (kq ≤ kj9) ∧ Aside0 (Kd.R k38 38 w' w.heap.size (fun _ => True) v11 x11_2) ∧ Aside0 (Below w.heap.size w w'))
          case atStart => exact ⟨(t300), (0), (by first | rfl | (simp; done) | (simp [*]; done)), H', ⟨Nat.le_refl _⟩, ⟨by (with_reducible repeat (first | apply Kd.R_alloc | apply Kd.R_drewN | apply Kd.R_drew)); exact HO_11.out⟩, ⟨by repeat (first | (with_reducible first | exact HB.out | apply below_alloc | apply pw_below_drewN | apply below_drew1) | exact HB.out)⟩⟩
          case round =>
            clear H'
            try clear c1
            try clear c2
            try clear p2
            try clear c4
            try clear p6
            try clear c7
            try clear c10
            try clear c13
            try clear c13b0
            try clear c13b1
            try clear c14
            try clear c14b0
            try clear c15
            try clear c15b0
            try clear c15b1
            try clear c17
            try clear c18
            try clear c20
            try clear p2
            try clear p6
            obtain ⟨x11_2, x13_2, rfl, HA, HK2, HO_11, HB⟩ := hrel
            cases gk with
            | zero => exact absurd HA.out (by simp [larchlaw19_LockAlone.l0])
            | succ k2 =>
              have H := HA.out
              clear HA
              simp only [larchlaw19_LockAlone.l0] at H
              by_cases c21 : x13_2 < (wrap64 (1 + t299))
              · rw [if_pos c21] at H
                have c21b0 : decide (x13_2 < (wrap64 (1 + t299))) = true := decide_eq_true c21
                clear c21
                replace H := Option.bind_eq_some_iff.mp H
                obtain ⟨⟨t311, t312⟩, A220, H⟩ := H
                replace H : (if t312 = 8 then ((lock_Owner.f x11_2 a1).bind fun t315 => (larchlaw19_LockAlone.j2 k2 l0 a1 a2 a3 (wrap64 (1 + t299)) x11_2 x13_2 (t315 != a2))) else (larchlaw19_LockAlone.j2 k2 l0 a1 a2 a3 (wrap64 (1 + t299)) x11_2 x13_2 true)) = some r := H
                have A22 := Aside0.mk A220
                clear A220
                have HC23 := Aside0.mk H
                clear H
                obtain ⟨Ao24, co24, eo24⟩ := Kd.R_slice HO_11.out
                subst eo24
                go_upto_region 11 with (first | ((with_reducible refine gate_callee (f := 10) rfl ?_); refine goesL_ (some 63) rfl rfl Try.func10 (by kernel_rfl) rfl #[.slice Ao24 x11_2.length co24, .int .i64 a1, .int .i64 a3, .int .i64 1] rfl (by (try simp only [List.map_toArray, List.map_cons, List.map_nil]); first | done | rfl | (simp only [List.length_drop, List.length_take]; rfl)) ?_; (with_reducible refine (lock_Enter.calls k2 _ _ x11_2 a1 a3 1 t311 t312 _ ?side1 ?side2 A22.out).mono ?_); (case side1 => repeat (first | exact (Kd.R_reads' HO_11.out).2.2 | (with_reducible refine Kd.C_alloc ?_ _) | (with_reducible refine Kd.C_drewN ?_ _) | (with_reducible refine Kd.C_drew ?_))); (case side2 => exact (Kd.R_reads' HO_11.out).2.1); rintro e w25 ⟨v313, rfl, ho0, hb⟩; refine ⟨_, rfl, ?_⟩; have n0_ := Aside0.mk (Kd.R_elder' (by (with_reducible repeat (first | apply Kd.R_alloc | apply Kd.R_drewN | apply Kd.R_drew)); exact HO_11.out) (Kd.R_base ho0) hb); have n1_ := Aside0.mk (Kd.R_lower (Kd.R_new' ho0 (Kd.R_lt (by (with_reducible repeat (first | apply Kd.R_alloc | apply Kd.R_drewN | apply Kd.R_drew)); exact HO_11.out))) (below_size (by repeat (first | (with_reducible first | exact HB.out | apply below_alloc | apply pw_below_drewN | apply below_drew1) | exact HB.out)))); have n2_ := Aside0.mk (below_step (by repeat (first | (with_reducible first | exact HB.out | apply below_alloc | apply pw_below_drewN | apply below_drew1) | exact HB.out)) hb); clear HO_11; clear HB; have HO_11 := n0_; have HO314 := n1_; have HB := n2_; clear n0_ n1_ n2_; (try clear hb); (try clear hb2); (try clear hk); (try clear hi); (try clear ho0)))
                (try simp only [Act.put, List.setIfInBounds_toArray, List.set_cons_zero, List.set_cons_succ])
                go_cut [74] (fun v74 wc => ∃ (kq : Nat) (x74_22 : Bool), v74 = .bool x74_22 ∧ Aside0 (larchlaw19_LockAlone.j2 kq l0 a1 a2 a3 (wrap64 (1 + t299)) x11_2 x13_2 x74_22 = some r) ∧ Aside0 (kq ≤ k2) ∧ Aside0 (Kd.R k38 38 wc w.heap.size (fun _ => True) (.slice Ao24 x11_2.length co24) x11_2) ∧ Aside0 (Below w.heap.size w wc))
                case first =>
                  have H := HC23.out
                  clear HC23
                  by_cases c26 : t312 = 8
                  · rw [if_pos c26] at H
                    have c26b0 : (t312 == 8) = true := beq_iff_eq.mpr c26
                    have c26b1 : (t312 != 8) = false := bne_eq_false_iff_eq.mpr c26
                    clear c26
                    (first | rw [c26b0] | (simp only [i64_w, i32_w]; rw [c26b0]) | skip)
                    replace H := Option.bind_eq_some_iff.mp H
                    obtain ⟨t315, A270, H⟩ := H
                    replace H : (larchlaw19_LockAlone.j2 k2 l0 a1 a2 a3 (wrap64 (1 + t299)) x11_2 x13_2 (t315 != a2)) = some r := H
                    have A27 := Aside0.mk A270
                    clear A270
                    have H' := Aside0.mk H
                    clear H
                    go_wp2_with (first | (go_at_call 19; (with_reducible refine (lock_Owner.calls _ _ x11_2 a1 t315 _ ?side1 ?side2 A27.out).mono ?_); (case side1 => repeat (first | exact (Kd.R_reads' HO_11.out).2.2 | (with_reducible refine Kd.C_alloc ?_ _) | (with_reducible refine Kd.C_drewN ?_ _) | (with_reducible refine Kd.C_drew ?_))); (case side2 => exact (Kd.R_reads' HO_11.out).2.1); rintro e w28 ⟨rfl, hb⟩; have n0_ := Aside0.mk (Kd.R_below (by (with_reducible repeat (first | apply Kd.R_alloc | apply Kd.R_drewN | apply Kd.R_drew)); exact HO_11.out) hb); have n1_ := Aside0.mk (Kd.R_below (by (with_reducible repeat (first | apply Kd.R_alloc | apply Kd.R_drewN | apply Kd.R_drew)); exact HO314.out) hb); have n2_ := Aside0.mk (below_step (by repeat (first | (with_reducible first | exact HB.out | apply below_alloc | apply pw_below_drewN | apply below_drew1) | exact HB.out)) hb); clear HO_11; clear HO314; clear HB; have HO_11 := n0_; have HO314 := n1_; have HB := n2_; clear n0_ n1_ n2_; (try clear hb); (try clear hb2); (try clear hk); (try clear hi)))
                    go_meet
                    case rel => exact ⟨_, ((t315 != a2)), (by first | rfl | (simp; done) | (simp [*]; done)), H', ⟨by have := HJ9.out; have := HK2.out; first | omega | exact Nat.le_refl _⟩, ⟨by (with_reducible repeat (first | apply Kd.R_alloc | apply Kd.R_drewN | apply Kd.R_drew)); exact Kd.R_mono HO_11.out (fun _ hk => trivial)⟩, ⟨by repeat (first | (with_reducible first | exact HB.out | apply below_alloc | apply pw_below_drewN | apply below_drew1) | exact HB.out)⟩⟩
                  · rw [if_neg c26] at H
                    have c26b0 : (t312 == 8) = false := beq_eq_false_iff_ne.mpr c26
                    have c26b1 : (t312 != 8) = true := bne_iff_ne.mpr c26
                    (first | rw [c26b0] | (simp only [i64_w, i32_w]; rw [c26b0]) | skip)
                    have H' := Aside0.mk H
                    clear H
                    go_wp2
                    go_meet
                    case rel => exact ⟨_, (true), (by first | rfl | (simp; done) | (simp [*]; done)), H', ⟨by have := HJ9.out; have := HK2.out; first | omega | exact Nat.le_refl _⟩, ⟨by (with_reducible repeat (first | apply Kd.R_alloc | apply Kd.R_drewN | apply Kd.R_drew)); exact Kd.R_mono HO_11.out (fun _ hk => trivial)⟩, ⟨by repeat (first | (with_reducible first | exact HB.out | apply below_alloc | apply pw_below_drewN | apply below_drew1) | exact HB.out)⟩⟩
                case rest =>
                  clear HC23
                  try clear c1
                  try clear c2
                  try clear p2
                  try clear c4
                  try clear p6
                  try clear c7
                  try clear c10
                  try clear c13
                  try clear c13b0
                  try clear c13b1
                  try clear c14
                  try clear c14b0
                  try clear c15
                  try clear c15b0
                  try clear c15b1
                  try clear c17
                  try clear c18
                  try clear c20
                  try clear c21
                  try clear c21b0
                  try clear c26
                  try clear c26b0
                  try clear c26b1
                  try clear p2
                  try clear p6
                  obtain ⟨kq, x74_22, rfl, HA, HJ22, HO_11, HB⟩ := hcut
                  cases kq with
                  | zero => exact absurd HA.out (by simp [larchlaw19_LockAlone.j2])
                  | succ kj22 =>
                    have H := HA.out
                    clear HA
                    simp only [larchlaw19_LockAlone.j2] at H
                    by_cases c29 : x74_22 = true
                    · subst c29
                      have H1 : (some false) = some r := by rw [if_pos rfl] at H; exact H
                      clear H
                      have H := H1
                      clear H1
                      obtain rfl := Option.some.inj H
                      go_wp2
                      go_ret
                      exact ⟨by first | rfl | (simp [errW_none, errW_some] <;> rfl) | (simp [*, errW_none, errW_some] <;> rfl), by repeat (first | (with_reducible first | exact HB.out | apply below_alloc | apply pw_below_drewN | apply below_drew1) | exact HB.out)⟩
                    · replace c29 := Bool.eq_false_iff.mpr c29
                      subst c29
                      have H1 : ((lock_Exit.f kj22 x11_2 a1 a2).bind fun bt316 => (if bt316.2 = 0 then (larchlaw19_LockAlone.l0 kj22 l0 a1 a2 a3 (wrap64 (1 + t299)) bt316.1 (wrap64 (x13_2 + 1))) else (some false))) = some r := by rw [if_neg (show ¬ (false = true) by decide)] at H; exact H
                      clear H
                      have H := H1
                      clear H1
                      replace H := Option.bind_eq_some_iff.mp H
                      obtain ⟨⟨t316, t317⟩, A300, H⟩ := H
                      replace H : (if t317 = 0 then (larchlaw19_LockAlone.l0 kj22 l0 a1 a2 a3 (wrap64 (1 + t299)) t316 (wrap64 (x13_2 + 1))) else (some false)) = some r := H
                      have A30 := Aside0.mk A300
                      clear A300
                      by_cases c31 : t317 = 0
                      · rw [if_pos c31] at H
                        have c31b0 : (t317 == 0) = true := beq_iff_eq.mpr c31
                        have c31b1 : (t317 != 0) = false := bne_eq_false_iff_eq.mpr c31
                        clear c31
                        have H' := Aside0.mk H
                        clear H
                        go_wp2_with (first | ((with_reducible refine gate_callee (f := 12) rfl ?_); refine goesL_ (some 79) rfl rfl Try.func12 (by kernel_rfl) rfl #[.slice Ao24 x11_2.length co24, .int .i64 a1, .int .i64 a2] rfl (by (try simp only [List.map_toArray, List.map_cons, List.map_nil]); first | done | rfl | (simp only [List.length_drop, List.length_take]; rfl)) ?_; (with_reducible refine (lock_Exit.calls kj22 _ _ x11_2 a1 a2 t316 t317 _ ?side1 ?side2 A30.out).mono ?_); (case side1 => repeat (first | exact (Kd.R_reads' HO_11.out).2.2 | (with_reducible refine Kd.C_alloc ?_ _) | (with_reducible refine Kd.C_drewN ?_ _) | (with_reducible refine Kd.C_drew ?_))); (case side2 => exact (Kd.R_reads' HO_11.out).2.1); rintro e w32 ⟨v318, rfl, ho0, hb⟩; refine ⟨_, rfl, ?_⟩; have n0_ := Aside0.mk (Kd.R_elder' (by (with_reducible repeat (first | apply Kd.R_alloc | apply Kd.R_drewN | apply Kd.R_drew)); exact HO_11.out) (Kd.R_base ho0) hb); have n1_ := Aside0.mk (Kd.R_lower (Kd.R_new' ho0 (Kd.R_lt (by (with_reducible repeat (first | apply Kd.R_alloc | apply Kd.R_drewN | apply Kd.R_drew)); exact HO_11.out))) (below_size (by repeat (first | (with_reducible first | exact HB.out | apply below_alloc | apply pw_below_drewN | apply below_drew1) | exact HB.out)))); have n2_ := Aside0.mk (below_step (by repeat (first | (with_reducible first | exact HB.out | apply below_alloc | apply pw_below_drewN | apply below_drew1) | exact HB.out)) hb); clear HO_11; clear HB; have HO_11 := n0_; have HO319 := n1_; have HB := n2_; clear n0_ n1_ n2_; (try clear hb); (try clear hb2); (try clear hk); (try clear hi); (try clear ho0)))
                        go_roundg kj22
                        case measure => have := HJ9.out; have := HK2.out; have := HJ22.out; omega
                        case rel => exact ⟨(t316), (wrap64 (x13_2 + 1)), (by first | rfl | (simp; done) | (simp [*]; done)), H', ⟨by have := HJ9.out; have := HK2.out; have := HJ22.out; omega⟩, ⟨by (with_reducible repeat (first | apply Kd.R_alloc | apply Kd.R_drewN | apply Kd.R_drew)); exact Kd.R_mono HO319.out (fun _ hk => trivial)⟩, ⟨by repeat (first | (with_reducible first | exact HB.out | apply below_alloc | apply pw_below_drewN | apply below_drew1) | exact HB.out)⟩⟩
                      · rw [if_neg c31] at H
                        have c31b0 : (t317 == 0) = false := beq_eq_false_iff_ne.mpr c31
                        have c31b1 : (t317 != 0) = true := bne_iff_ne.mpr c31
                        obtain rfl := Option.some.inj H
                        go_wp2_with (first | ((with_reducible refine gate_callee (f := 12) rfl ?_); refine goesL_ (some 79) rfl rfl Try.func12 (by kernel_rfl) rfl #[.slice Ao24 x11_2.length co24, .int .i64 a1, .int .i64 a2] rfl (by (try simp only [List.map_toArray, List.map_cons, List.map_nil]); first | done | rfl | (simp only [List.length_drop, List.length_take]; rfl)) ?_; (with_reducible refine (lock_Exit.calls kj22 _ _ x11_2 a1 a2 t316 t317 _ ?side1 ?side2 A30.out).mono ?_); (case side1 => repeat (first | exact (Kd.R_reads' HO_11.out).2.2 | (with_reducible refine Kd.C_alloc ?_ _) | (with_reducible refine Kd.C_drewN ?_ _) | (with_reducible refine Kd.C_drew ?_))); (case side2 => exact (Kd.R_reads' HO_11.out).2.1); rintro e w33 ⟨v318, rfl, ho0, hb⟩; refine ⟨_, rfl, ?_⟩; have n0_ := Aside0.mk (Kd.R_elder' (by (with_reducible repeat (first | apply Kd.R_alloc | apply Kd.R_drewN | apply Kd.R_drew)); exact HO_11.out) (Kd.R_base ho0) hb); have n1_ := Aside0.mk (Kd.R_lower (Kd.R_new' ho0 (Kd.R_lt (by (with_reducible repeat (first | apply Kd.R_alloc | apply Kd.R_drewN | apply Kd.R_drew)); exact HO_11.out))) (below_size (by repeat (first | (with_reducible first | exact HB.out | apply below_alloc | apply pw_below_drewN | apply below_drew1) | exact HB.out)))); have n2_ := Aside0.mk (below_step (by repeat (first | (with_reducible first | exact HB.out | apply below_alloc | apply pw_below_drewN | apply below_drew1) | exact HB.out)) hb); clear HO_11; clear HB; have HO_11 := n0_; have HO319 := n1_; have HB := n2_; clear n0_ n1_ n2_; (try clear hb); (try clear hb2); (try clear hk); (try clear hi); (try clear ho0)))
                        go_ret
                        exact ⟨by first | rfl | (simp [errW_none, errW_some] <;> rfl) | (simp [*, errW_none, errW_some] <;> rfl), by repeat (first | (with_reducible first | exact HB.out | apply below_alloc | apply pw_below_drewN | apply below_drew1) | exact HB.out)⟩
              · rw [if_neg c21] at H
                have c21b0 : decide (x13_2 < (wrap64 (1 + t299))) = false := decide_eq_false c21
                clear c21
                replace H := Option.bind_eq_some_iff.mp H
                obtain ⟨⟨t306, t307⟩, A340, H⟩ := H
                replace H : (if t307 = 0 then ((larchlaw19_same.f k2 x11_2 l0).bind fun t310 => (some t310)) else (some false)) = some r := H
                have A34 := Aside0.mk A340
                clear A340
                by_cases c35 : t307 = 0
                · rw [if_pos c35] at H
                  have c35b0 : (t307 == 0) = true := beq_iff_eq.mpr c35
                  have c35b1 : (t307 != 0) = false := bne_eq_false_iff_eq.mpr c35
                  clear c35
                  replace H := Option.bind_eq_some_iff.mp H
                  obtain ⟨t310, A360, H⟩ := H
                  replace H : (some t310) = some r := H
                  have A36 := Aside0.mk A360
                  clear A360
                  obtain rfl := Option.some.inj H
                  obtain ⟨Ao37, co37, eo37⟩ := Kd.R_slice HO_11.out
                  subst eo37
                  go_wp2_with (first | ((with_reducible refine gate_callee (f := 10) rfl ?_); refine goesL_ (some 88) rfl rfl Try.func10 (by kernel_rfl) rfl #[.slice Ao37 x11_2.length co37, .int .i64 a1, .int .i64 a3, .int .i64 1] rfl (by (try simp only [List.map_toArray, List.map_cons, List.map_nil]); first | done | rfl | (simp only [List.length_drop, List.length_take]; rfl)) ?_; (with_reducible refine (lock_Enter.calls k2 _ _ x11_2 a1 a3 1 t306 t307 _ ?side1 ?side2 A34.out).mono ?_); (case side1 => repeat (first | exact (Kd.R_reads' HO_11.out).2.2 | (with_reducible refine Kd.C_alloc ?_ _) | (with_reducible refine Kd.C_drewN ?_ _) | (with_reducible refine Kd.C_drew ?_))); (case side2 => exact (Kd.R_reads' HO_11.out).2.1); rintro e w38 ⟨v308, rfl, ho0, hb⟩; refine ⟨_, rfl, ?_⟩; have n0_ := Aside0.mk (Kd.R_elder' (by (with_reducible repeat (first | apply Kd.R_alloc | apply Kd.R_drewN | apply Kd.R_drew)); exact HO_11.out) (Kd.R_base ho0) hb); have n1_ := Aside0.mk (Kd.R_lower (Kd.R_new' ho0 (Kd.R_lt (by (with_reducible repeat (first | apply Kd.R_alloc | apply Kd.R_drewN | apply Kd.R_drew)); exact HO_11.out))) (below_size (by repeat (first | (with_reducible first | exact HB.out | apply below_alloc | apply pw_below_drewN | apply below_drew1) | exact HB.out)))); have n2_ := Aside0.mk (below_step (by repeat (first | (with_reducible first | exact HB.out | apply below_alloc | apply pw_below_drewN | apply below_drew1) | exact HB.out)) hb); clear HO_11; clear HB; have HO_11 := n0_; have HO309 := n1_; have HB := n2_; clear n0_ n1_ n2_; (try clear hb); (try clear hb2); (try clear hk); (try clear hi); (try clear ho0)) | (go_at_call 16; (with_reducible refine (larchlaw19_same.calls k2 _ _ x11_2 _ _ l0 t310 _ ?side1 ?side2 ?side3 ?side4 A36.out).mono ?_); (case side1 => repeat (first | exact (Kd.R_reads' HO_11.out).2.2 | (with_reducible refine Kd.C_alloc ?_ _) | (with_reducible refine Kd.C_drewN ?_ _) | (with_reducible refine Kd.C_drew ?_))); (case side2 => exact (Kd.R_reads' HO_11.out).2.1); (case side3 => repeat (first | exact (Kd.C_below HR0.out HB.out) | (with_reducible refine Kd.C_alloc ?_ _) | (with_reducible refine Kd.C_drewN ?_ _) | (with_reducible refine Kd.C_drew ?_))); (case side4 => exact HC0.out); rintro e w' ⟨rfl, ⟨nd, rfl⟩⟩))
                  go_ret
                  exact ⟨by first | rfl | (simp [errW_none, errW_some] <;> rfl) | (simp [*, errW_none, errW_some] <;> rfl), by repeat (first | (with_reducible first | exact HB.out | apply below_alloc | apply pw_below_drewN | apply below_drew1) | exact HB.out)⟩
                · rw [if_neg c35] at H
                  have c35b0 : (t307 == 0) = false := beq_eq_false_iff_ne.mpr c35
                  have c35b1 : (t307 != 0) = true := bne_iff_ne.mpr c35
                  obtain rfl := Option.some.inj H
                  obtain ⟨Ao39, co39, eo39⟩ := Kd.R_slice HO_11.out
                  subst eo39
                  go_wp2_with (first | ((with_reducible refine gate_callee (f := 10) rfl ?_); refine goesL_ (some 88) rfl rfl Try.func10 (by kernel_rfl) rfl #[.slice Ao39 x11_2.length co39, .int .i64 a1, .int .i64 a3, .int .i64 1] rfl (by (try simp only [List.map_toArray, List.map_cons, List.map_nil]); first | done | rfl | (simp only [List.length_drop, List.length_take]; rfl)) ?_; (with_reducible refine (lock_Enter.calls k2 _ _ x11_2 a1 a3 1 t306 t307 _ ?side1 ?side2 A34.out).mono ?_); (case side1 => repeat (first | exact (Kd.R_reads' HO_11.out).2.2 | (with_reducible refine Kd.C_alloc ?_ _) | (with_reducible refine Kd.C_drewN ?_ _) | (with_reducible refine Kd.C_drew ?_))); (case side2 => exact (Kd.R_reads' HO_11.out).2.1); rintro e w40 ⟨v308, rfl, ho0, hb⟩; refine ⟨_, rfl, ?_⟩; have n0_ := Aside0.mk (Kd.R_elder' (by (with_reducible repeat (first | apply Kd.R_alloc | apply Kd.R_drewN | apply Kd.R_drew)); exact HO_11.out) (Kd.R_base ho0) hb); have n1_ := Aside0.mk (Kd.R_lower (Kd.R_new' ho0 (Kd.R_lt (by (with_reducible repeat (first | apply Kd.R_alloc | apply Kd.R_drewN | apply Kd.R_drew)); exact HO_11.out))) (below_size (by repeat (first | (with_reducible first | exact HB.out | apply below_alloc | apply pw_below_drewN | apply below_drew1) | exact HB.out)))); have n2_ := Aside0.mk (below_step (by repeat (first | (with_reducible first | exact HB.out | apply below_alloc | apply pw_below_drewN | apply below_drew1) | exact HB.out)) hb); clear HO_11; clear HB; have HO_11 := n0_; have HO309 := n1_; have HB := n2_; clear n0_ n1_ n2_; (try clear hb); (try clear hb2); (try clear hk); (try clear hi); (try clear ho0)))
                  go_ret
                  exact ⟨by first | rfl | (simp [errW_none, errW_some] <;> rfl) | (simp [*, errW_none, errW_some] <;> rfl), by repeat (first | (with_reducible first | exact HB.out | apply below_alloc | apply pw_below_drewN | apply below_drew1) | exact HB.out)⟩
  · replace c7 := Bool.eq_false_iff.mpr c7
    subst c7
    have H1 : (some false) = some r := by rw [if_neg (show ¬ (false = true) by decide)] at H; exact H
    clear H
    have H := H1
    clear H1
    obtain rfl := Option.some.inj H
    go_enter Try.func4, Try.ntmps4
    go_wp2_with (first | ((with_reducible refine gate_callee (f := 17) rfl ?_); refine goesL_ (some 18) rfl rfl Try.func17 (by kernel_rfl) rfl #[] rfl (by (try simp only [List.map_toArray, List.map_cons, List.map_nil]); first | done | rfl | (simp only [List.length_drop, List.length_take]; rfl)) ?_; (with_reducible refine (larchlaw19_works.calls k  false _ A6.out).mono ?_); rintro e w41 ⟨rfl, hb⟩; refine ⟨_, rfl, ?_⟩; have n0_ := Aside0.mk (below_step (by repeat (first | (with_reducible first | exact HB.out | apply below_alloc | apply pw_below_drewN | apply below_drew1) | exact HB.out)) hb); clear HB; have HB := n0_; clear n0_; (try clear hb); (try clear hb2); (try clear hk); (try clear hi)))
    go_ret
    exact ⟨by first | rfl | (simp [errW_none, errW_some] <;> rfl) | (simp [*, errW_none, errW_some] <;> rfl), by repeat (first | (with_reducible first | exact HB.out | apply below_alloc | apply pw_below_drewN | apply below_drew1) | exact HB.out)⟩

end Go.Proofs.Ytbhdodkkebgjcaa.A.P
