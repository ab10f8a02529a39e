/- Printed by a program of this session out of the kit's print: functions of the law as plain Lean functions, and their walks. -/
import Derived.Test.YtbhdodkkebgjcaaAx0
import Derived.Test.YtbhdodkkebgjcaaAx1
namespace Go.Proofs.Ytbhdodkkebgjcaa.A.P
open Go.RowKit Go.Proofs.YtbhdodkkebgjcaaW.PrintWords Go.Proofs.YtbhdodkkebgjcaaW.PrintLast Go.Proofs.YtbhdodkkebgjcaaW.PrintMore
attribute [local go_sem] max2_int min2_int max_two min_two max_three min_three max_four min_four   -- for this text's walks alone
set_option linter.unusedVariables false
set_option linter.unusedSimpArgs false



/-! ### larchref19_Exit: function 13 -/
mutual
def larchref19_Exit.j0 : Nat → List (S38) → Int → Int → Bool → Option ((List (S38)) × Int)
  | 0, _, _, _, _ => none
  | k + 1, x0, x1, x2, x21 => if x21 = true then (some (([] : List (S38)), 2)) else ((larchref19_at.f k x0 x1).bind fun bt189 => (if bt189.2 = true then (if 0 ≤ bt189.1 then (if bt189.1 < (x0.length : Int) then (larchref19_Exit.j1 k x0 bt189.1 (((rd_T38 x0 bt189.1).f1) != x2)) else (none)) else (none)) else (larchref19_Exit.j1 k x0 bt189.1 true)))
def larchref19_Exit.j1 : Nat → List (S38) → Int → Bool → Option ((List (S38)) × Int)
  | 0, _, _, _ => none
  | k + 1, x0, x8, x38 => if x38 = true then (some (([] : List (S38)), 5)) else ((some (([] : List (S38)) : List (S38))).bind fun y192 => (if y192.length + x0.length < 5864062014805 then ((some (y192 ++ x0 : List (S38))).bind fun y195 => (if 0 ≤ x8 then (if x8 < (y195.length : Int) then ((some (y195.set (x8 : Int).toNat (⟨(rd_T38 y195 x8).f0, (rd_T38 y195 x8).f1, wrap64 (((rd_T38 y195 x8).f2) - 1)⟩ : S38) : List (S38))).bind fun y199 => (if ((rd_T38 y199 x8).f2) = 0 then ((some (([] : List (S38)) : List (S38))).bind fun y201 => (if x8 ≤ (x0.length : Int) then ((some (x0.take (x8 : Int).toNat : List (S38))).bind fun y204 => (if y201.length + y204.length < 5864062014805 then ((some (y201 ++ y204 : List (S38))).bind fun y208 => (if 0 ≤ (wrap64 (x8 + 1)) then (if (wrap64 (x8 + 1)) ≤ (x0.length : Int) then ((some (x0.drop ((wrap64 (x8 + 1)) : Int).toNat : List (S38))).bind fun y211 => (if y208.length + y211.length < 5864062014805 then (some ((y208 ++ y211), 0)) else (none))) else (none)) else (none))) else (none))) else (none))) else (some (y199, 0)))) else (none)) else (none))) else (none)))
end
def larchref19_Exit.f (k : Nat) (l0 : List (S38)) (a1 : Int) (a2 : Int) : Option ((List (S38)) × Int) := (larchref19_Check.f k l0).bind fun t188 => (if t188 = 0 then (if a1 < 1 then (larchref19_Exit.j0 k l0 a1 a2 true) else (larchref19_Exit.j0 k l0 a1 a2 (decide (a2 < 0)))) else (larchref19_Exit.j0 k l0 a1 a2 true))
theorem larchref19_Exit.mono_l : ∀ k, (∀ y0 y1 y2 y3, LeO (larchref19_Exit.j0 k y0 y1 y2 y3) (larchref19_Exit.j0 (k + 1) y0 y1 y2 y3)) ∧ (∀ y0 y1 y2, LeO (larchref19_Exit.j1 k y0 y1 y2) (larchref19_Exit.j1 (k + 1) y0 y1 y2))
  | 0 => ⟨fun _ _ _ _ r h => by simp [larchref19_Exit.j0] at h, fun _ _ _ r h => by simp [larchref19_Exit.j1] at h⟩
  | k + 1 => by
    obtain ⟨ih0, ih1⟩ := larchref19_Exit.mono_l k
    refine ⟨?_, ?_⟩
    · intro y0 y1 y2 y3
      unfold larchref19_Exit.j0
      repeat' first
      | (with_reducible exact ih0 _ _ _ _)
      | (with_reducible exact ih1 _ _ _)
      | (with_reducible exact larchref19_Check.mono _ _)
      | (with_reducible exact larchref19_at.mono _ _ _)
      | (with_reducible exact LeO.refl _)
      | (with_reducible exact LeO.none _)
      | (with_reducible refine LeO.ite ?_ ?_)
      | (with_reducible refine LeO.bind ?_ (fun _ => ?_))
      | exact ih0 _ _ _ _
      | exact ih1 _ _ _
      | exact larchref19_Check.mono _ _
      | exact larchref19_at.mono _ _ _
      | exact LeO.none _
      | refine LeO.ite ?_ ?_
      | refine LeO.bind ?_ (fun _ => ?_)
    · intro y0 y1 y2
      unfold larchref19_Exit.j1
      repeat' first
      | (with_reducible exact ih0 _ _ _ _)
      | (with_reducible exact ih1 _ _ _)
      | (with_reducible exact larchref19_Check.mono _ _)
      | (with_reducible exact larchref19_at.mono _ _ _)
      | (with_reducible exact LeO.refl _)
      | (with_reducible exact LeO.none _)
      | (with_reducible refine LeO.ite ?_ ?_)
      | (with_reducible refine LeO.bind ?_ (fun _ => ?_))
      | exact ih0 _ _ _ _
      | exact ih1 _ _ _
      | exact larchref19_Check.mono _ _
      | exact larchref19_at.mono _ _ _
      | exact LeO.none _
      | refine LeO.ite ?_ ?_
      | refine LeO.bind ?_ (fun _ => ?_)
theorem larchref19_Exit.mono : ∀ a0 a1 a2 k, LeO (larchref19_Exit.f k a0 a1 a2) (larchref19_Exit.f (k + 1) a0 a1 a2) := by
  intro a0 a1 a2 k
  obtain ⟨ih0, ih1⟩ := larchref19_Exit.mono_l k
  unfold larchref19_Exit.f
  repeat' first
      | (with_reducible exact ih0 _ _ _ _)
      | (with_reducible exact ih1 _ _ _)
      | (with_reducible exact larchref19_Check.mono _ _)
      | (with_reducible exact larchref19_at.mono _ _ _)
      | (with_reducible exact LeO.refl _)
      | (with_reducible exact LeO.none _)
      | (with_reducible refine LeO.ite ?_ ?_)
      | (with_reducible refine LeO.bind ?_ (fun _ => ?_))
      | exact ih0 _ _ _ _
      | exact ih1 _ _ _
      | exact larchref19_Check.mono _ _
      | exact larchref19_at.mono _ _ _
      | exact LeO.none _
      | refine LeO.ite ?_ ?_
      | refine LeO.bind ?_ (fun _ => ?_)
def larchref19_Exit.T9 : Bool × List (List Nat × List Nat) := (true, [([], []), ([], []), ([], []), ([1, 2], [1, 2]), ([0, 3], [0, 3]), ([], []), ([], []), ([6], [6]), ([5, 7], [5, 7]), ([4, 8, 4], [4, 8]), ([9, 9, 0, 1, 2, 3, 4, 5, 6, 7, 8, 9], [9])])
def larchref19_Exit.B9 : List Nat := [0, 0, 0, 6, 15, 0, 0, 64, 224, 511, 1023]
theorem larchref19_Exit.tab9 : rtab .any (opsOf Try.f13 9) = larchref19_Exit.T9 := by kernel_rfl
theorem larchref19_Exit.bits9 : waitsOk larchref19_Exit.T9.2 larchref19_Exit.B9 = true := by kernel_rfl
set_option maxHeartbeats 8000000 in
set_option maxRecDepth 100000 in
theorem larchref19_Exit.calls (k : Nat) (A0 : Option Addr) (c0 : Nat) (l0 : List (S38)) (a1 : Int) (a2 : Int) (r1 : List (S38)) (r2 : Int) (w : World) (hr0 : Kd.C k38 w A0 l0.length l0) (hc0 : l0.length ≤ c0) (h : larchref19_Exit.f k l0 a1 a2 = some (r1, r2)) :
    Calls Try.prog 13 #[.slice A0 l0.length c0, .int .i64 a1, .int .i64 a2] w fun e w' => ∃ v0_ : Value, e = .returned (.tuple #[v0_, .int .i64 r2]) ∧ Kd.R k38 38 w' w.heap.size (fun _ => True) v0_ r1 ∧ Below w.heap.size w w' := by
  have HR0 := Aside0.mk hr0
  have HC0 := Aside0.mk hc0
  clear hr0 hc0
  have HB := Aside0.mk (Below.refl w.heap.size w)
  have H : ((larchref19_Check.f k l0).bind fun t188 => (if t188 = 0 then (if a1 < 1 then (larchref19_Exit.j0 k l0 a1 a2 true) else (larchref19_Exit.j0 k l0 a1 a2 (decide (a2 < 0)))) else (larchref19_Exit.j0 k l0 a1 a2 true))) = some (r1, r2) := h
  clear h
  have HC4 := Aside0.mk H
  clear H
  go_enter Try.func13, Try.ntmps13
  go_upto_region 1 with (fail)
  go_cut [21] (fun v21 wc => ∃ (kq : Nat) (x21_3 : Bool), v21 = .bool x21_3 ∧ Aside0 (larchref19_Exit.j0 kq l0 a1 a2 x21_3 = some (r1, r2)) ∧ Aside0 (kq ≤ k) ∧ Aside0 (Below w.heap.size w wc))
  case first =>
    have H := HC4.out
    clear HC4
    replace H := Option.bind_eq_some_iff.mp H
    obtain ⟨t188, A50, H⟩ := H
    replace H : (if t188 = 0 then (if a1 < 1 then (larchref19_Exit.j0 k l0 a1 a2 true) else (larchref19_Exit.j0 k l0 a1 a2 (decide (a2 < 0)))) else (larchref19_Exit.j0 k l0 a1 a2 true)) = some (r1, r2) := H
    have A5 := Aside0.mk A50
    clear A50
    by_cases c6 : t188 = 0
    · rw [if_pos c6] at H
      have c6b0 : (t188 == 0) = true := beq_iff_eq.mpr c6
      have c6b1 : (t188 != 0) = false := bne_eq_false_iff_eq.mpr c6
      clear c6
      (first | rw [c6b0] | (simp only [i64_w, i32_w]; rw [c6b0]) | skip)
      by_cases c7 : a1 < 1
      · rw [if_pos c7] at H
        have c7b0 : decide (a1 < 1) = true := decide_eq_true c7
        clear c7
        have H' := Aside0.mk H
        clear H
        go_wp2_with (first | ((with_reducible refine gate_callee (f := 9) rfl ?_); refine goesL_ (some 12) rfl rfl Try.func9 (by kernel_rfl) rfl #[.slice A0 l0.length c0] rfl (by (try simp only [List.map_toArray, List.map_cons, List.map_nil]); first | done | rfl | (simp only [List.length_drop, List.length_take]; rfl)) ?_; (with_reducible refine (larchref19_Check.calls k _ _ l0 t188 _ ?side1 ?side2 A5.out).mono ?_); (case side1 => repeat (first | exact (Kd.C_below HR0.out HB.out) | (with_reducible refine Kd.C_alloc ?_ _) | (with_reducible refine Kd.C_drewN ?_ _) | (with_reducible refine Kd.C_drew ?_))); (case side2 => exact HC0.out); rintro e w' ⟨rfl, ⟨nd, rfl⟩⟩; refine ⟨_, rfl, ?_⟩))
        go_meet
        case rel => exact ⟨_, (true), (by first | rfl | (simp; done) | (simp [*]; done)), H', ⟨by first | omega | exact Nat.le_refl _⟩, ⟨by repeat (first | (with_reducible first | exact HB.out | apply below_alloc | apply pw_below_drewN | apply below_drew1) | exact HB.out)⟩⟩
      · rw [if_neg c7] at H
        have c7b0 : decide (a1 < 1) = false := decide_eq_false c7
        clear c7
        have H' := Aside0.mk H
        clear H
        go_wp2_with (first | ((with_reducible refine gate_callee (f := 9) rfl ?_); refine goesL_ (some 12) rfl rfl Try.func9 (by kernel_rfl) rfl #[.slice A0 l0.length c0] rfl (by (try simp only [List.map_toArray, List.map_cons, List.map_nil]); first | done | rfl | (simp only [List.length_drop, List.length_take]; rfl)) ?_; (with_reducible refine (larchref19_Check.calls k _ _ l0 t188 _ ?side1 ?side2 A5.out).mono ?_); (case side1 => repeat (first | exact (Kd.C_below HR0.out HB.out) | (with_reducible refine Kd.C_alloc ?_ _) | (with_reducible refine Kd.C_drewN ?_ _) | (with_reducible refine Kd.C_drew ?_))); (case side2 => exact HC0.out); rintro e w' ⟨rfl, ⟨nd, rfl⟩⟩; refine ⟨_, rfl, ?_⟩))
        go_meet
        case rel => exact ⟨_, (decide (a2 < 0)), (by first | rfl | (simp; done) | (simp [*]; done)), H', ⟨by first | omega | exact Nat.le_refl _⟩, ⟨by repeat (first | (with_reducible first | exact HB.out | apply below_alloc | apply pw_below_drewN | apply below_drew1) | exact HB.out)⟩⟩
    · rw [if_neg c6] at H
      have c6b0 : (t188 == 0) = false := beq_eq_false_iff_ne.mpr c6
      have c6b1 : (t188 != 0) = true := bne_iff_ne.mpr c6
      (first | rw [c6b0] | (simp only [i64_w, i32_w]; rw [c6b0]) | skip)
      have H' := Aside0.mk H
      clear H
      go_wp2_with (first | ((with_reducible refine gate_callee (f := 9) rfl ?_); refine goesL_ (some 12) rfl rfl Try.func9 (by kernel_rfl) rfl #[.slice A0 l0.length c0] rfl (by (try simp only [List.map_toArray, List.map_cons, List.map_nil]); first | done | rfl | (simp only [List.length_drop, List.length_take]; rfl)) ?_; (with_reducible refine (larchref19_Check.calls k _ _ l0 t188 _ ?side1 ?side2 A5.out).mono ?_); (case side1 => repeat (first | exact (Kd.C_below HR0.out HB.out) | (with_reducible refine Kd.C_alloc ?_ _) | (with_reducible refine Kd.C_drewN ?_ _) | (with_reducible refine Kd.C_drew ?_))); (case side2 => exact HC0.out); rintro e w' ⟨rfl, ⟨nd, rfl⟩⟩; refine ⟨_, rfl, ?_⟩))
      go_meet
      case rel => exact ⟨_, (true), (by first | rfl | (simp; done) | (simp [*]; done)), H', ⟨by first | omega | exact Nat.le_refl _⟩, ⟨by repeat (first | (with_reducible first | exact HB.out | apply below_alloc | apply pw_below_drewN | apply below_drew1) | exact HB.out)⟩⟩
  case rest =>
    clear HC4
    try clear c1
    try clear p2
    try clear c6
    try clear c6b0
    try clear c6b1
    try clear c7
    try clear c7b0
    obtain ⟨kq, x21_3, rfl, HA, HJ3, HB⟩ := hcut
    cases kq with
    | zero => exact absurd HA.out (by simp [larchref19_Exit.j0])
    | succ kj3 =>
      have H := HA.out
      clear HA
      simp only [larchref19_Exit.j0] at H
      by_cases c8 : x21_3 = true
      · subst c8
        have H1 : (some (([] : List (S38)), 2)) = some (r1, r2) := by rw [if_pos rfl] at H; exact H
        clear H
        have H := H1
        clear H1
        simp only [Option.some.injEq, Prod.mk.injEq] at H
        obtain ⟨rfl, rfl⟩ := H
        go_wp2
        go_ret2
        exact ⟨_, by first | rfl | (simp [errW_none, errW_some] <;> rfl) | (simp [*, errW_none, errW_some] <;> rfl), by first | exact Kd.R_nil _ _ _ _ _ | exact Kd.N_nil _ _ _ _ _ | exact Kd.V_nil _ _ _ _ _ | exact Kd.Q_nil _ _ _ _ _ | exact Kd.S_nil _ _ _ _ _, by repeat (first | (with_reducible first | exact HB.out | apply below_alloc | apply pw_below_drewN | apply below_drew1) | exact HB.out)⟩
      · replace c8 := Bool.eq_false_iff.mpr c8
        subst c8
        have H1 : ((larchref19_at.f kj3 l0 a1).bind fun bt189 => (if bt189.2 = true then (if 0 ≤ bt189.1 then (if bt189.1 < (l0.length : Int) then (larchref19_Exit.j1 kj3 l0 bt189.1 (((rd_T38 l0 bt189.1).f1) != a2)) else (none)) else (none)) else (larchref19_Exit.j1 kj3 l0 bt189.1 true))) = some (r1, r2) := by rw [if_neg (show ¬ (false = true) by decide)] at H; exact H
        clear H
        have H := H1
        clear H1
        replace H := Option.bind_eq_some_iff.mp H
        obtain ⟨⟨t189, t190⟩, A90, H⟩ := H
        replace H : (if t190 = true then (if 0 ≤ t189 then (if t189 < (l0.length : Int) then (larchref19_Exit.j1 kj3 l0 t189 (((rd_T38 l0 t189).f1) != a2)) else (none)) else (none)) else (larchref19_Exit.j1 kj3 l0 t189 true)) = some (r1, r2) := H
        have A9 := Aside0.mk A90
        clear A90
        have HC10 := Aside0.mk H
        clear H
        go_upto_region 4 with (first | ((with_reducible refine gate_callee (f := 23) rfl ?_); refine goesL_ (some 25) rfl rfl Try.func23 (by kernel_rfl) rfl #[.slice A0 l0.length c0, .int .i64 a1] rfl (by (try simp only [List.map_toArray, List.map_cons, List.map_nil]); first | done | rfl | (simp only [List.length_drop, List.length_take]; rfl)) ?_; (with_reducible refine (larchref19_at.calls kj3 _ _ l0 a1 t189 t190 _ ?side1 ?side2 A9.out).mono ?_); (case side1 => repeat (first | exact (Kd.C_below HR0.out HB.out) | (with_reducible refine Kd.C_alloc ?_ _) | (with_reducible refine Kd.C_drewN ?_ _) | (with_reducible refine Kd.C_drew ?_))); (case side2 => exact HC0.out); rintro e w' ⟨rfl, ⟨nd, rfl⟩⟩; refine ⟨_, rfl, ?_⟩))
        (try simp only [Act.put, List.setIfInBounds_toArray, List.set_cons_zero, List.set_cons_succ])
        go_cut [38] (fun v38 wc => ∃ (kq : Nat) (x38_9 : Bool), v38 = .bool x38_9 ∧ Aside0 (larchref19_Exit.j1 kq l0 t189 x38_9 = some (r1, r2)) ∧ Aside0 (kq ≤ kj3) ∧ Aside0 (Below w.heap.size w wc))
        case first =>
          have H := HC10.out
          clear HC10
          by_cases c11 : t190 = true
          · subst c11
            have H1 : (if 0 ≤ t189 then (if t189 < (l0.length : Int) then (larchref19_Exit.j1 kj3 l0 t189 (((rd_T38 l0 t189).f1) != a2)) else (none)) else (none)) = some (r1, r2) := by rw [if_pos rfl] at H; exact H
            clear H
            have H := H1
            clear H1
            by_cases c12 : 0 ≤ t189
            · rw [if_pos c12] at H
              have c12b0 : decide (0 ≤ t189) = true := decide_eq_true c12
              clear c12
              (first | rw [c12b0] | (simp only [i64_w, i32_w]; rw [c12b0]) | skip)
              by_cases c13 : t189 < (l0.length : Int)
              · rw [if_pos c13] at H
                have c13b0 : decide (t189 < (l0.length : Int)) = true := decide_eq_true c13
                clear c13
                have H' := Aside0.mk H
                clear H
                have p191 : 0 ≤ (t189 : Int) := of_decide_eq_true (by first | (with_reducible assumption) | assumption)
                have q191 : t189 < (l0.length : Int) := of_decide_eq_true (by first | (with_reducible assumption) | assumption)
                obtain ⟨ad191, e191, hx191_0, hx191_1, hx191_2⟩ := at_T38 HR0.out t189 p191 q191
                cases e191
                replace hx191_0 := (HB.out.cell (World.block_lt_of_cell? w _ hx191_0)).trans hx191_0
                replace hx191_1 := (HB.out.cell (World.block_lt_of_cell? w _ hx191_1)).trans hx191_1
                replace hx191_2 := (HB.out.cell (World.block_lt_of_cell? w _ hx191_2)).trans hx191_2
                replace p191 := eq_true p191
                replace q191 := eq_true q191
                go_wp2
                go_meet
                case rel => exact ⟨_, ((((rd_T38 l0 t189).f1) != a2)), (by first | rfl | (simp; done) | (simp [*]; done)), H', ⟨by have := HJ3.out; first | omega | exact Nat.le_refl _⟩, ⟨by repeat (first | (with_reducible first | exact HB.out | apply below_alloc | apply pw_below_drewN | apply below_drew1) | exact HB.out)⟩⟩
              · rw [if_neg c13] at H
                exact absurd H (by simp)
            · rw [if_neg c12] at H
              exact absurd H (by simp)
          · replace c11 := Bool.eq_false_iff.mpr c11
            subst c11
            have H1 : (larchref19_Exit.j1 kj3 l0 t189 true) = some (r1, r2) := by rw [if_neg (show ¬ (false = true) by decide)] at H; exact H
            clear H
            have H := H1
            clear H1
            have H' := Aside0.mk H
            clear H
            go_wp2
            go_meet
            case rel => exact ⟨_, (true), (by first | rfl | (simp; done) | (simp [*]; done)), H', ⟨by have := HJ3.out; first | omega | exact Nat.le_refl _⟩, ⟨by repeat (first | (with_reducible first | exact HB.out | apply below_alloc | apply pw_below_drewN | apply below_drew1) | exact HB.out)⟩⟩
        case rest =>
          clear HC10
          try clear c1
          try clear p1
          try clear q1
          try clear hx1
          try clear c2
          try clear p2
          try clear c6
          try clear c6b0
          try clear c6b1
          try clear c7
          try clear c7b0
          try clear c8
          try clear c9
          try clear c11
          try clear c12
          try clear c12b0
          try clear c13
          try clear c13b0
          try clear hx191_0
          try clear hx191_1
          try clear hx191_2
          try clear p191
          try clear p2
          try clear q191
          obtain ⟨kq, x38_9, rfl, HA, HJ9, HB⟩ := hcut
          cases kq with
          | zero => exact absurd HA.out (by simp [larchref19_Exit.j1])
          | succ kj9 =>
            have H := HA.out
            clear HA
            simp only [larchref19_Exit.j1] at H
            by_cases c14 : x38_9 = true
            · subst c14
              have H1 : (some (([] : List (S38)), 5)) = some (r1, r2) := by rw [if_pos rfl] at H; exact H
              clear H
              have H := H1
              clear H1
              simp only [Option.some.injEq, Prod.mk.injEq] at H
              obtain ⟨rfl, rfl⟩ := H
              go_wp2
              go_ret2
              exact ⟨_, by first | rfl | (simp [errW_none, errW_some] <;> rfl) | (simp [*, errW_none, errW_some] <;> rfl), by first | exact Kd.R_nil _ _ _ _ _ | exact Kd.N_nil _ _ _ _ _ | exact Kd.V_nil _ _ _ _ _ | exact Kd.Q_nil _ _ _ _ _ | exact Kd.S_nil _ _ _ _ _, by repeat (first | (with_reducible first | exact HB.out | apply below_alloc | apply pw_below_drewN | apply below_drew1) | exact HB.out)⟩
            · replace c14 := Bool.eq_false_iff.mpr c14
              subst c14
              have H1 : ((some (([] : List (S38)) : List (S38))).bind fun y192 => (if y192.length + l0.length < 5864062014805 then ((some (y192 ++ l0 : List (S38))).bind fun y195 => (if 0 ≤ t189 then (if t189 < (y195.length : Int) then ((some (y195.set (t189 : Int).toNat (⟨(rd_T38 y195 t189).f0, (rd_T38 y195 t189).f1, wrap64 (((rd_T38 y195 t189).f2) - 1)⟩ : S38) : List (S38))).bind fun y199 => (if ((rd_T38 y199 t189).f2) = 0 then ((some (([] : List (S38)) : List (S38))).bind fun y201 => (if t189 ≤ (l0.length : Int) then ((some (l0.take (t189 : Int).toNat : List (S38))).bind fun y204 => (if y201.length + y204.length < 5864062014805 then ((some (y201 ++ y204 : List (S38))).bind fun y208 => (if 0 ≤ (wrap64 (t189 + 1)) then (if (wrap64 (t189 + 1)) ≤ (l0.length : Int) then ((some (l0.drop ((wrap64 (t189 + 1)) : Int).toNat : List (S38))).bind fun y211 => (if y208.length + y211.length < 5864062014805 then (some ((y208 ++ y211), 0)) else (none))) else (none)) else (none))) else (none))) else (none))) else (some (y199, 0)))) else (none)) else (none))) else (none))) = some (r1, r2) := by rw [if_neg (show ¬ (false = true) by decide)] at H; exact H
              clear H
              have H := H1
              clear H1
              obtain ⟨y192, hy192⟩ : ∃ y_ : List (S38), y_ = (([] : List (S38))) := ⟨_, rfl⟩
              replace H : (if y192.length + l0.length < 5864062014805 then ((some (y192 ++ l0 : List (S38))).bind fun y195 => (if 0 ≤ t189 then (if t189 < (y195.length : Int) then ((some (y195.set (t189 : Int).toNat (⟨(rd_T38 y195 t189).f0, (rd_T38 y195 t189).f1, wrap64 (((rd_T38 y195 t189).f2) - 1)⟩ : S38) : List (S38))).bind fun y199 => (if ((rd_T38 y199 t189).f2) = 0 then ((some (([] : List (S38)) : List (S38))).bind fun y201 => (if t189 ≤ (l0.length : Int) then ((some (l0.take (t189 : Int).toNat : List (S38))).bind fun y204 => (if y201.length + y204.length < 5864062014805 then ((some (y201 ++ y204 : List (S38))).bind fun y208 => (if 0 ≤ (wrap64 (t189 + 1)) then (if (wrap64 (t189 + 1)) ≤ (l0.length : Int) then ((some (l0.drop ((wrap64 (t189 + 1)) : Int).toNat : List (S38))).bind fun y211 => (if y208.length + y211.length < 5864062014805 then (some ((y208 ++ y211), 0)) else (none))) else (none)) else (none))) else (none))) else (none))) else (some (y199, 0)))) else (none)) else (none))) else (none)) = some (r1, r2) := by first | (rw [hy192]; with_reducible exact H) | (have H2_ := (Option.bind_some _ _).symm.trans H; rw [hy192]; with_reducible exact H2_) | (have H2_ := (Option.bind_some _ _).symm.trans H; with_reducible exact H2_) | with_reducible exact H | (rw [hy192]; exact H) | exact H
              have Ny192 := Aside0.mk hy192
              clear hy192
              by_cases c15 : y192.length + l0.length < 5864062014805
              · rw [if_pos c15] at H
                have LMc15 := Aside0.mk c15
                clear c15
                obtain ⟨y195, hy195⟩ : ∃ y_ : List (S38), y_ = (y192 ++ l0) := ⟨_, rfl⟩
                replace H : (if 0 ≤ t189 then (if t189 < (y195.length : Int) then ((some (y195.set (t189 : Int).toNat (⟨(rd_T38 y195 t189).f0, (rd_T38 y195 t189).f1, wrap64 (((rd_T38 y195 t189).f2) - 1)⟩ : S38) : List (S38))).bind fun y199 => (if ((rd_T38 y199 t189).f2) = 0 then ((some (([] : List (S38)) : List (S38))).bind fun y201 => (if t189 ≤ (l0.length : Int) then ((some (l0.take (t189 : Int).toNat : List (S38))).bind fun y204 => (if y201.length + y204.length < 5864062014805 then ((some (y201 ++ y204 : List (S38))).bind fun y208 => (if 0 ≤ (wrap64 (t189 + 1)) then (if (wrap64 (t189 + 1)) ≤ (l0.length : Int) then ((some (l0.drop ((wrap64 (t189 + 1)) : Int).toNat : List (S38))).bind fun y211 => (if y208.length + y211.length < 5864062014805 then (some ((y208 ++ y211), 0)) else (none))) else (none)) else (none))) else (none))) else (none))) else (some (y199, 0)))) else (none)) else (none)) = some (r1, r2) := by first | (rw [hy195]; with_reducible exact H) | (have H2_ := (Option.bind_some _ _).symm.trans H; rw [hy195]; with_reducible exact H2_) | (have H2_ := (Option.bind_some _ _).symm.trans H; with_reducible exact H2_) | with_reducible exact H | (rw [hy195]; exact H) | exact H
                have Ny195 := Aside0.mk hy195
                clear hy195
                by_cases c16 : 0 ≤ t189
                · rw [if_pos c16] at H
                  have c16b0 : decide (0 ≤ t189) = true := decide_eq_true c16
                  clear c16
                  by_cases c17 : t189 < (y195.length : Int)
                  · rw [if_pos c17] at H
                    have c17b0 : decide (t189 < (y195.length : Int)) = true := decide_eq_true c17
                    clear c17
                    obtain ⟨y199, hy199⟩ : ∃ y_ : List (S38), y_ = (y195.set (t189 : Int).toNat (⟨(rd_T38 y195 t189).f0, (rd_T38 y195 t189).f1, wrap64 (((rd_T38 y195 t189).f2) - 1)⟩ : S38)) := ⟨_, rfl⟩
                    replace H : (if ((rd_T38 y199 t189).f2) = 0 then ((some (([] : List (S38)) : List (S38))).bind fun y201 => (if t189 ≤ (l0.length : Int) then ((some (l0.take (t189 : Int).toNat : List (S38))).bind fun y204 => (if y201.length + y204.length < 5864062014805 then ((some (y201 ++ y204 : List (S38))).bind fun y208 => (if 0 ≤ (wrap64 (t189 + 1)) then (if (wrap64 (t189 + 1)) ≤ (l0.length : Int) then ((some (l0.drop ((wrap64 (t189 + 1)) : Int).toNat : List (S38))).bind fun y211 => (if y208.length + y211.length < 5864062014805 then (some ((y208 ++ y211), 0)) else (none))) else (none)) else (none))) else (none))) else (none))) else (some (y199, 0))) = some (r1, r2) := by first | (rw [hy199]; with_reducible exact H) | (have H2_ := (Option.bind_some _ _).symm.trans H; rw [hy199]; with_reducible exact H2_) | (have H2_ := (Option.bind_some _ _).symm.trans H; with_reducible exact H2_) | with_reducible exact H | (rw [hy199]; exact H) | exact H
                    have Ny199 := Aside0.mk hy199
                    clear hy199
                    by_cases c19 : ((rd_T38 y199 t189).f2) = 0
                    · rw [if_pos c19] at H
                      have c19b0 : (((rd_T38 y199 t189).f2) == 0) = true := beq_iff_eq.mpr c19
                      have c19b1 : (((rd_T38 y199 t189).f2) != 0) = false := bne_eq_false_iff_eq.mpr c19
                      clear c19
                      obtain ⟨y201, hy201⟩ : ∃ y_ : List (S38), y_ = (([] : List (S38))) := ⟨_, rfl⟩
                      replace H : (if t189 ≤ (l0.length : Int) then ((some (l0.take (t189 : Int).toNat : List (S38))).bind fun y204 => (if y201.length + y204.length < 5864062014805 then ((some (y201 ++ y204 : List (S38))).bind fun y208 => (if 0 ≤ (wrap64 (t189 + 1)) then (if (wrap64 (t189 + 1)) ≤ (l0.length : Int) then ((some (l0.drop ((wrap64 (t189 + 1)) : Int).toNat : List (S38))).bind fun y211 => (if y208.length + y211.length < 5864062014805 then (some ((y208 ++ y211), 0)) else (none))) else (none)) else (none))) else (none))) else (none)) = some (r1, r2) := by first | (rw [hy201]; with_reducible exact H) | (have H2_ := (Option.bind_some _ _).symm.trans H; rw [hy201]; with_reducible exact H2_) | (have H2_ := (Option.bind_some _ _).symm.trans H; with_reducible exact H2_) | with_reducible exact H | (rw [hy201]; exact H) | exact H
                      have Ny201 := Aside0.mk hy201
                      clear hy201
                      have c20b0 := eq_true (of_decide_eq_true (by first | (with_reducible assumption) | assumption) : 0 ≤ t189)
                      by_cases c21 : t189 ≤ (l0.length : Int)
                      · rw [if_pos c21] at H
                        have c21b0 := eq_true c21
                        have c21b1 : decide (t189 ≤ (l0.length : Int)) = true := decide_eq_true c21
                        clear c21
                        obtain ⟨y204, hy204⟩ : ∃ y_ : List (S38), y_ = (l0.take (t189 : Int).toNat) := ⟨_, rfl⟩
                        replace H : (if y201.length + y204.length < 5864062014805 then ((some (y201 ++ y204 : List (S38))).bind fun y208 => (if 0 ≤ (wrap64 (t189 + 1)) then (if (wrap64 (t189 + 1)) ≤ (l0.length : Int) then ((some (l0.drop ((wrap64 (t189 + 1)) : Int).toNat : List (S38))).bind fun y211 => (if y208.length + y211.length < 5864062014805 then (some ((y208 ++ y211), 0)) else (none))) else (none)) else (none))) else (none)) = some (r1, r2) := by first | (rw [hy204]; with_reducible exact H) | (have H2_ := (Option.bind_some _ _).symm.trans H; rw [hy204]; with_reducible exact H2_) | (have H2_ := (Option.bind_some _ _).symm.trans H; with_reducible exact H2_) | with_reducible exact H | (rw [hy204]; exact H) | exact H
                        have Ny204 := Aside0.mk hy204
                        clear hy204
                        by_cases c22 : y201.length + y204.length < 5864062014805
                        · rw [if_pos c22] at H
                          have LMc22 := Aside0.mk c22
                          clear c22
                          obtain ⟨y208, hy208⟩ : ∃ y_ : List (S38), y_ = (y201 ++ y204) := ⟨_, rfl⟩
                          replace H : (if 0 ≤ (wrap64 (t189 + 1)) then (if (wrap64 (t189 + 1)) ≤ (l0.length : Int) then ((some (l0.drop ((wrap64 (t189 + 1)) : Int).toNat : List (S38))).bind fun y211 => (if y208.length + y211.length < 5864062014805 then (some ((y208 ++ y211), 0)) else (none))) else (none)) else (none)) = some (r1, r2) := by first | (rw [hy208]; with_reducible exact H) | (have H2_ := (Option.bind_some _ _).symm.trans H; rw [hy208]; with_reducible exact H2_) | (have H2_ := (Option.bind_some _ _).symm.trans H; with_reducible exact H2_) | with_reducible exact H | (rw [hy208]; exact H) | exact H
                          have Ny208 := Aside0.mk hy208
                          clear hy208
                          obtain ⟨ji23, hji23⟩ : ∃ j_ : Int, (wrap64 (t189 + 1)) = j_ := ⟨_, rfl⟩
                          replace H : (if 0 ≤ (ji23) then (if (ji23) ≤ (l0.length : Int) then ((some (l0.drop ((ji23) : Int).toNat : List (S38))).bind fun y211 => (if y208.length + y211.length < 5864062014805 then (some ((y208 ++ y211), 0)) else (none))) else (none)) else (none)) = some (r1, r2) := by first | (rw [hji23] at H; exact H) | (simp only [hji23] at H ⊢; exact H)
                          have hji23w : (IntKind.i64.wrap (t189 + 1)) = ji23 := (i64_w _).trans hji23
                          by_cases c24 : 0 ≤ (ji23)
                          · rw [if_pos c24] at H
                            have c24b0 := eq_true c24
                            have c24b1 : decide (0 ≤ (ji23)) = true := decide_eq_true c24
                            clear c24
                            by_cases c25 : (ji23) ≤ (l0.length : Int)
                            · rw [if_pos c25] at H
                              have c25b0 := eq_true c25
                              have c25b1 : decide ((ji23) ≤ (l0.length : Int)) = true := decide_eq_true c25
                              clear c25
                              obtain ⟨y211, hy211⟩ : ∃ y_ : List (S38), y_ = (l0.drop ((ji23) : Int).toNat) := ⟨_, rfl⟩
                              replace H : (if y208.length + y211.length < 5864062014805 then (some ((y208 ++ y211), 0)) else (none)) = some (r1, r2) := by first | (rw [hy211]; with_reducible exact H) | (have H2_ := (Option.bind_some _ _).symm.trans H; rw [hy211]; with_reducible exact H2_) | (have H2_ := (Option.bind_some _ _).symm.trans H; with_reducible exact H2_) | with_reducible exact H | (rw [hy211]; exact H) | exact H
                              have Ny211 := Aside0.mk hy211
                              clear hy211
                              by_cases c26 : y208.length + y211.length < 5864062014805
                              · rw [if_pos c26] at H
                                have LMc26 := Aside0.mk c26
                                clear c26
                                obtain ⟨y215, hy215⟩ : ∃ y_ : List (S38), y_ = (y208 ++ y211) := ⟨_, rfl⟩
                                replace H : (some (y215, 0)) = some (r1, r2) := by first | (rw [hy215]; with_reducible exact H) | (have H2_ := (Option.bind_some _ _).symm.trans H; rw [hy215]; with_reducible exact H2_) | (have H2_ := (Option.bind_some _ _).symm.trans H; with_reducible exact H2_) | with_reducible exact H | (rw [hy215]; exact H) | exact H
                                have Ny215 := Aside0.mk hy215
                                clear hy215
                                simp only [Option.some.injEq, Prod.mk.injEq] at H
                                obtain ⟨rfl, rfl⟩ := H
                                try go_wp2_with (first | ((with_reducible refine gate_dst (N := 39) rfl ?_); refine Kd.R_lit k38 _ 38 ?hg (N := 39) ?hd (xs := ([] : List (S38))) (inner := []) (ok := fun _ => True) (okp := fun _ => True) ?hr ?hp (fun _ hk => hk) trivial (Below.refl _ _) (Nat.le_refl _) (by simp) ?_; (case hd => rfl); (case hg => rfl); (case hr => first | (go_simp; done) | (go_simp; rfl)); (case hp => exact (Reps.none _ _)); intro v193 w27 ho28 hb hg_ hnew_; clear hg_ hnew_; (first | rw [← Ny192.out] at ho28 | (simp only [Int.reduceToNat] at ho28; rw [← Ny192.out] at ho28)); have n0_ := Aside0.mk (Kd.R_lower ho28 (below_size (by repeat (first | (with_reducible first | exact HB.out | apply below_alloc | apply pw_below_drewN | apply below_drew1) | exact HB.out)))); have n1_ := Aside0.mk (below_step (by repeat (first | (with_reducible first | exact HB.out | apply below_alloc | apply pw_below_drewN | apply below_drew1) | exact HB.out)) hb); clear HB; have HO194 := n0_; have HB := n1_; clear n0_ n1_; clear hb ho28) | ((with_reducible refine gate_builtin (b := .append) (xs := #[.tmp 39, .tmp 40]) rfl ?_); at_builtin; refine Kd.R_append_rows k38 (w0 := w) w.heap.size rfl (.tmp 39) (.tmp 40) 22 38 (.agg #[(.int .i64 0), (.int .i64 0), (.int .i64 0)]) 24 rfl Try.underlying22 info38 rfl (by decide) (by omega) v193 y192 l0 _ _ _ (fun _ => True) (fun _ => False) rfl rfl ?aO ?aR (fun _ _ h => h) (fun _ h => h.elim) ?aF ?aB ?aS ?aL ?_; (case aR => repeat (first | exact (Kd.C_below HR0.out HB.out) | (with_reducible refine Kd.C_alloc ?_ _) | (with_reducible refine Kd.C_drewN ?_ _) | (with_reducible refine Kd.C_drew ?_))); (case aB => exact (by repeat (first | (with_reducible first | exact HB.out | apply below_alloc | apply pw_below_drewN | apply below_drew1) | exact HB.out))); (case aF => exact (fun _ _ => trivial)); (case aO => exact (by (with_reducible repeat (first | apply Kd.R_alloc | apply Kd.R_drewN | apply Kd.R_drew)); exact HO194.out)); (case aS => exact (below_size (by repeat (first | (with_reducible first | exact HB.out | apply below_alloc | apply pw_below_drewN | apply below_drew1) | exact HB.out)))); (case aL => have := LMc15.out; omega); intro v196 w29 ho hb hg hat; rw [← Ny195.out] at ho; have n0_ := Aside0.mk (hb); have n1_ := Aside0.mk (ho); clear HB; clear HO194; have HB := n0_; have HO197 := n1_; clear n0_ n1_; clear ho hb hg hat; obtain ⟨Ao30, co30, eo30⟩ := Kd.R_slice HO197.out; subst eo30; have p198 : 0 ≤ (t189 : Int) := of_decide_eq_true (by first | (with_reducible assumption) | assumption); have q198 : t189 < (y195.length : Int) := of_decide_eq_true (by first | (with_reducible assumption) | assumption); obtain ⟨ad198, e198, hx198_0, hx198_1, hx198_2⟩ := at_T38 (Kd.R_reads' HO197.out).2.2 t189 p198 q198; cases e198; replace p198 := eq_true p198; replace q198 := eq_true q198; have p18 : 0 ≤ (t189 : Int) := of_decide_eq_true (by first | (with_reducible assumption) | assumption); have q18 : (t189 : Int) < ((y195.length : Int) : Int) := of_decide_eq_true (by first | (with_reducible assumption) | assumption); obtain ⟨go18, co18, eo18, gb18, gl18, cl18, HG18⟩ := Kd.R_form HO197.out (by omega); (first | cases eo18 | (injection eo18 with ea_ en_ ec_; (first | subst ea_ | (injection ea_ with ea_; subst ea_)); subst ec_; clear en_)); have GB18 := Aside0.mk gb18; have GG18 := Aside0.mk HG18; clear gb18 gl18 HG18; (first | simp only [add_plain] at hx198_0 | skip); (first | simp only [add_plain] at hx198_1 | skip); (first | simp only [add_plain] at hx198_2 | skip); obtain ⟨ce18, hcl18, hM18, hcc18, hfr18⟩ := Kd.R_elem HO197.out z38 (t189 : Int) p18 q18; obtain rfl := k38_openM hM18; have hx18_0 : w29.cell? ⟨go18, (t189 : Int).toNat * 3, none⟩ = some (.int .i64 ((rd_T38 y195 t189).f0)) := hcc18 0 _ rfl; have hx18_1 : w29.cell? ⟨go18, (t189 : Int).toNat * 3 + 1, none⟩ = some (.int .i64 ((rd_T38 y195 t189).f1)) := hcc18 1 _ rfl; have hx18_2 : w29.cell? ⟨go18, (t189 : Int).toNat * 3 + 2, none⟩ = some (.int .i64 ((rd_T38 y195 t189).f2)) := hcc18 2 _ rfl; have hf18_0 : w29.frozen? ⟨go18, (t189 : Int).toNat * 3, none⟩ = false := hfr18 0; have hf18_1 : w29.frozen? ⟨go18, (t189 : Int).toNat * 3 + 1, none⟩ = false := hfr18 1; have hf18_2 : w29.frozen? ⟨go18, (t189 : Int).toNat * 3 + 2, none⟩ = false := hfr18 2; clear hcl18 hcc18 hfr18 hM18; replace p18 := eq_true p18; replace q18 := eq_true q18; have HX31 := Aside0.mk (show Kd.R k38 38 w29 w.heap.size (fun _ => True) (.slice (some ⟨go18, 0, none⟩) y195.length co30) y195 from (by (with_reducible repeat (first | apply Kd.R_alloc | apply Kd.R_drewN | apply Kd.R_drew)); exact HO197.out)); obtain ⟨ce31, hcl31, hM31, hcc31, hfr31⟩ := Kd.R_elem HX31.out z38 (t189 : Int) (of_decide_eq_true (by first | (with_reducible assumption) | assumption)) (by have h_ : (t189 : Int) < ((y195.length : Int) : Int) := of_decide_eq_true (by first | (with_reducible assumption) | assumption); first | exact h_ | (have e_ := (Kd.R_reads' HO197.out).1; omega) | simpa using h_); obtain rfl := k38_openM hM31; have HP31 := Kd.R_seg HX31.out (t189 : Int) (of_decide_eq_true (by first | (with_reducible assumption) | assumption)) (by have h_ : (t189 : Int) < ((y195.length : Int) : Int) := of_decide_eq_true (by first | (with_reducible assumption) | assumption); first | exact h_ | (have e_ := (Kd.R_reads' HO197.out).1; omega) | simpa using h_) (seg := [.int .i64 (wrap64 (((rd_T38 y195 t189).f2) - 1))]) (j := 2) hcl31 hcc31 (show 3 ≤ 3 from by decide) (x' := (⟨(rd_T38 y195 t189).f0, (rd_T38 y195 t189).f1, wrap64 (((rd_T38 y195 t189).f2) - 1)⟩ : S38)) (k38_mkM _ _ _ (⟨(rd_T38 y195 t189).f0, (rd_T38 y195 t189).f1, wrap64 (((rd_T38 y195 t189).f2) - 1)⟩ : S38) ) (fun _ hk => hk); have hx31_2 := hcc31 2 _ rfl; (try simp only [show (k38).sz = 3 from rfl, Nat.mul_one, Nat.add_zero] at hx31_2); have hf31_2 := hfr31 2; (try simp only [show (k38).sz = 3 from rfl, Nat.mul_one, Nat.add_zero] at hf31_2); clear hcl31 hcc31 hfr31 hM31) | ((with_reducible refine gate_store (t := 3) (p := 49) rfl ?_); refine store_event (t := 3) (p := 49) (v := ?vo_w32) (w1 := (w29.setCell ⟨go18, (t189 : Int).toNat * 3 + 2, none⟩ (.int .i64 (wrap64 (((rd_T38 y195 t189).f2) - 1))))) ?hg ?ho ?hn ?hr ?_; (case ho => rfl); (case hg => rfl); (case hn => rfl); (case hr => first | (go_simp; done) | (go_simp; rfl)); intro w32 hw; have hg : w29.grownBy w32 (some go18) := (by rw [hw]; exact HP31.2); have hp_ : Kd.R k38 38 w32 w.heap.size (fun _ => True) (.slice (some ⟨go18, 0, none⟩) y195.length co30) y199 := (by rw [hw, Ny199.out]; exact HP31.1); clear HP31; have n0_ := Aside0.mk (hp_); have n1_ := Aside0.mk ((by rw [hw]; exact below_set (HB.out) GB18.out : Below w.heap.size w w32)); clear HO197; clear HB; have HO197 := n0_; have HB := n1_; clear n0_ n1_; clear hg hw hp_; have p200 : 0 ≤ (t189 : Int) := of_decide_eq_true (by first | (with_reducible assumption) | assumption); have q200 : t189 < (y199.length : Int) := (by have h_ : (t189 : Int) < ((y195.length : Int) : Int) := of_decide_eq_true (by first | (with_reducible assumption) | assumption); first | (have e_ := (Kd.R_reads' HO197.out).1; omega) | simpa only [Ny199.out, List.length_set] using h_); have ql200 : ((t189 : Int) < ((y195.length : Int) : Int)) = True := eq_true (of_decide_eq_true (by first | (with_reducible assumption) | assumption)); obtain ⟨ad200, e200, hx200_0, hx200_1, hx200_2⟩ := at_T38 (Kd.R_reads' HO197.out).2.2 t189 p200 q200; obtain rfl : (⟨go18, 0, none⟩ : Addr) = ad200 := (by injection e200); (first | simp only [add_plain] at hx200_0 | simp only [add_at] at hx200_0 | simp only [Addr.add, Nat.zero_add] at hx200_0 | skip); (first | simp only [add_plain] at hx200_1 | simp only [add_at] at hx200_1 | simp only [Addr.add, Nat.zero_add] at hx200_1 | skip); (first | simp only [add_plain] at hx200_2 | simp only [add_at] at hx200_2 | simp only [Addr.add, Nat.zero_add] at hx200_2 | skip); replace p200 := eq_true p200; replace q200 := eq_true q200))
                                have n0_ := Aside0.mk (Kd.R_drew HO197.out)
                                have n1_ := Aside0.mk (below_drew1 HB.out)
                                clear HO197
                                clear HB
                                have HO197 := n0_
                                have HB := n1_
                                clear n0_ n1_
                                have q34 : (t189 : Int) ≤ ((l0.length : Int) : Int) := of_decide_eq_true (by first | (with_reducible assumption) | assumption)
                                obtain ⟨i034, hi034, _, hsz34, _⟩ := info_parts info38
                                have hroom34 : l0.length ≤ c0 := HC0.out
                                have hC34 : Kd.C k38 _ A0 l0.length l0 := HR0.out
                                have hcut34 := cut_to (P := Try.prog) 22 38 .i64 Try.underlying22 hi034 A0 l0.length c0 t189 (of_decide_eq_true (by first | (with_reducible assumption) | assumption)) q34 hroom34
                                have hr34 := Kd.C_take (m := (t189 : Int).toNat) hC34 (by omega)
                                have hy34 : y204.length = (t189 : Int).toNat := (by rw [Ny204.out, List.length_take]; omega)
                                rw [← Ny204.out] at hr34
                                rw [← hy34] at hcut34
                                have HR207 := Aside0.mk hr34
                                have HC207 := Aside0.mk (show y204.length ≤ c0 from by omega)
                                clear hr34 hC34 hroom34 hi034 hsz34
                                have KY34 := Aside0.mk hy34
                                clear hy34
                                replace q34 := eq_true q34
                                have q35 : ((ji23) : Int) ≤ ((l0.length : Int) : Int) := of_decide_eq_true (by first | (with_reducible assumption) | assumption)
                                obtain ⟨i035, hi035, _, hsz35, _⟩ := info_parts info38
                                have hroom35 : l0.length ≤ c0 := HC0.out
                                have hC35 : Kd.C k38 _ A0 l0.length l0 := HR0.out
                                have q035 : (0 : Int) ≤ ((ji23) : Int) := of_decide_eq_true (by first | (with_reducible assumption) | assumption)
                                have hcut35 := cut_from (P := Try.prog) 22 38 .i64 Try.underlying22 hi035 3 hsz35 A0 l0.length c0 (ji23) q035 q35
                                have hr35 := Kd.C_drop (m := ((ji23) : Int).toNat) (c := c0) hC35 (by omega) hroom35
                                obtain ⟨A35, hA35⟩ : ∃ A1, A1 = (if c0 = ((ji23) : Int).toNat then A0 else (A0 : Option Addr).map (·.add (((ji23) : Int).toNat * 3))) := ⟨_, rfl⟩
                                obtain ⟨c35, hc35⟩ : ∃ c1, c1 = c0 - ((ji23) : Int).toNat := ⟨_, rfl⟩
                                have hy35 : y211.length = l0.length - ((ji23) : Int).toNat := (by rw [Ny211.out, List.length_drop] <;> omega)
                                rw [show (l0).drop ((ji23) : Int).toNat = y211 from Ny211.out.symm] at hr35
                                replace hr35 : Kd.C k38 _ A35 y211.length y211 := (by rw [hA35]; exact hr35)
                                rw [← hy35, ← hA35, ← hc35] at hcut35
                                have HR214 := Aside0.mk hr35
                                have HC214 := Aside0.mk (show y211.length ≤ c35 from by rw [hy35, hc35]; exact Nat.sub_le_sub_right hroom35 _)
                                clear hr35 hC35 hroom35 hi035 hsz35 hc35
                                have KY35 := Aside0.mk hy35
                                have KA35 := Aside0.mk hA35
                                clear hy35 hA35
                                replace q35 := eq_true q35
                                refine start_ (n := 11) (S := fun w' => True) (ds := []) #[false, false, false, false, false, false, false, false, false, false, false] (by kernel_rfl) rfl rfl trivial (fun hHeld => ?_); refine with_tabW larchref19_Exit.tab9 larchref19_Exit.bits9 (fun HT_ HW_ => ?_)
                                generalize w32.drew = w33 at HO197 HB HR207 HR214 hHeld ⊢
                                refine pure_ (i := 1) (N := some 57) (v := ?_) (a' := ?_) #[false, true, false, false, false, false, false, false, false, false, false] rfl rfl (any_of HT_.out (by kernel_rfl)) (fun _ _ _ h => h) (Or.inl ⟨by rfl, ?_⟩) ?_ ?_
                                rotate_left
                                · intro w'
                                  go_simp
                                  with_reducible rfl
                                rotate_left
                                · simp only [Act.put, List.setIfInBounds_toArray, List.set_cons_zero, List.set_cons_succ, i64_w, i32_w]
                                  rfl
                                refine pure_ (i := 2) (N := some 58) (v := ?_) (a' := ?_) #[false, true, true, false, false, false, false, false, false, false, false] rfl rfl (any_of HT_.out (by kernel_rfl)) (fun _ _ _ h => h) (Or.inl ⟨by rfl, ?_⟩) ?_ ?_
                                rotate_left
                                · intro w'
                                  go_simp
                                  with_reducible rfl
                                rotate_left
                                · simp only [Act.put, List.setIfInBounds_toArray, List.set_cons_zero, List.set_cons_succ, i64_w, i32_w]
                                  rfl
                                refine pure_ (i := 3) (N := some 59) (v := ?_) (a' := ?_) #[false, true, true, true, false, false, false, false, false, false, false] rfl rfl (any_of HT_.out (by kernel_rfl)) (fun _ _ _ h => h) (Or.inl ⟨by rfl, ?_⟩) ?_ ?_
                                rotate_left
                                · intro w'
                                  go_simp
                                  with_reducible rfl
                                rotate_left
                                · simp only [Act.put, List.setIfInBounds_toArray, List.set_cons_zero, List.set_cons_succ, i64_w, i32_w]
                                  rfl
                                refine pure_ (i := 5) (N := some 61) (v := ?_) (a' := ?_) #[false, true, true, true, false, true, false, false, false, false, false] rfl rfl (any_of HT_.out (by kernel_rfl)) (fun _ _ _ h => h) (Or.inl ⟨by rfl, ?_⟩) ?_ ?_
                                rotate_left
                                · intro w'
                                  go_simp
                                  with_reducible rfl
                                rotate_left
                                · simp only [Act.put, List.setIfInBounds_toArray, List.set_cons_zero, List.set_cons_succ, i64_w, i32_w]
                                  rfl
                                refine pure_ (i := 6) (N := some 62) (v := ?_) (a' := ?_) #[false, true, true, true, false, true, true, false, false, false, false] rfl rfl (any_of HT_.out (by kernel_rfl)) (fun _ _ _ h => h) (Or.inl ⟨by rfl, ?_⟩) ?_ ?_
                                rotate_left
                                · intro w'
                                  go_simp
                                  with_reducible rfl
                                rotate_left
                                · simp only [Act.put, List.setIfInBounds_toArray, List.set_cons_zero, List.set_cons_succ, i64_w, i32_w]
                                  rfl
                                refine pure_ (i := 7) (N := some 63) (v := ?_) (a' := ?_) #[false, true, true, true, false, true, true, true, false, false, false] rfl rfl (any_of HT_.out (by kernel_rfl)) (fun _ _ _ h => h) (Or.inl ⟨by rfl, ?_⟩) ?_ ?_
                                rotate_left
                                · intro w'
                                  go_simp
                                  with_reducible rfl
                                rotate_left
                                · simp only [Act.put, List.setIfInBounds_toArray, List.set_cons_zero, List.set_cons_succ, i64_w, i32_w]
                                  rfl
                                refine pure_ (i := 8) (N := some 64) (v := ?_) (a' := ?_) #[false, true, true, true, false, true, true, true, true, false, false] rfl rfl (any_of HT_.out (by kernel_rfl)) (fun _ _ _ h => h) (Or.inl ⟨by rfl, ?_⟩) ?_ ?_
                                rotate_left
                                · intro w'
                                  go_simp
                                  with_reducible rfl
                                rotate_left
                                · simp only [Act.put, List.setIfInBounds_toArray, List.set_cons_zero, List.set_cons_succ, i64_w, i32_w]
                                  rfl
                                refine one_ (i := 0) (N := some 56) #[true, true, true, true, false, true, true, true, true, false, false] rfl rfl (one_of HT_.out (by kernel_rfl)) (by decide) (fun K hK => ?_)
                                refine Kd.R_lit_step k38 _ 38 ?hg (N := 56) ?hd (xs := ([] : List (S38))) (inner := []) (ok := fun _ => True) (okp := fun _ => True) ?hr ?hp (fun _ hk => hk) trivial (Below.refl _ _) (Nat.le_refl _) (by simp) ?_; (case hd => rfl); (case hg => rfl); (case hr => first | (go_simp; done) | (go_simp; rfl)); (case hp => exact (Reps.none _ _))
                                intro v202 w36 ho37 hb hg_ hnew_
                                clear hg_ hnew_
                                (first | rw [← Ny201.out] at ho37 | (simp only [Int.reduceToNat] at ho37; rw [← Ny201.out] at ho37))
                                have n0_ := Aside0.mk (Kd.R_elder' (by (with_reducible repeat (first | apply Kd.R_alloc | apply Kd.R_drewN | apply Kd.R_drew)); exact HO197.out) (Kd.R_base ho37) hb)
                                have n1_ := Aside0.mk (Kd.R_lower (Kd.R_new' ho37 (Kd.R_lt (by (with_reducible repeat (first | apply Kd.R_alloc | apply Kd.R_drewN | apply Kd.R_drew)); exact HO197.out))) (below_size (by repeat (first | (with_reducible first | exact HB.out | apply below_alloc | apply pw_below_drewN | apply below_drew1) | exact HB.out))))
                                have n2_ := Aside0.mk (below_step (by repeat (first | (with_reducible first | exact HB.out | apply below_alloc | apply pw_below_drewN | apply below_drew1) | exact HB.out)) hb)
                                clear HO197
                                clear HB
                                have HO197 := n0_
                                have HO203 := n1_
                                have HB := n2_
                                clear n0_ n1_ n2_
                                clear hb ho37
                                refine hK.out _ _ trivial (fun hHeld => ?_)
                                clear hK K
                                refine norm_ (a' := ?_) ?_ ?_
                                rotate_left
                                · show Act.put _ (some 56) _ = _
                                  simp only [Act.put, List.setIfInBounds_toArray, List.set_cons_zero, List.set_cons_succ, i64_w, i32_w]
                                  rfl
                                refine one_ (i := 4) (N := some 60) #[true, true, true, true, true, true, true, true, true, false, false] rfl rfl (one_of HT_.out (by kernel_rfl)) (by decide) (fun K hK => ?_)
                                refine Kd.R_append_rows_step k38 (w0 := w) w.heap.size (by rfl) (.tmp 56) (.tmp 59) 22 38 (.agg #[(.int .i64 0), (.int .i64 0), (.int .i64 0)]) 24 rfl Try.underlying22 info38 rfl (by decide) (by omega) v202 y201 y204 _ _ _ (fun k_ => some k_ ≠ (.slice (some ⟨go18, 0, none⟩) y195.length co30 : Value).ownBlock) (fun _ => False) rfl rfl ?aO ?aR (fun _ _ h => h) (fun _ h => h.elim) ?aF ?aB ?aS ?aL ?_
                                (case aR => repeat (first | exact (Kd.C_below HR207.out HB.out) | (with_reducible refine Kd.C_alloc ?_ _) | (with_reducible refine Kd.C_drewN ?_ _) | (with_reducible refine Kd.C_drew ?_)))
                                (case aB => exact (by repeat (first | (with_reducible first | exact HB.out | apply below_alloc | apply pw_below_drewN | apply below_drew1) | exact HB.out)))
                                (case aF => exact (fun k_ hk => Kd.fresh' (Kd.R_lt (by (with_reducible repeat (first | apply Kd.R_alloc | apply Kd.R_drewN | apply Kd.R_drew)); exact HO197.out)) k_ hk))
                                (case aO => exact (by (with_reducible repeat (first | apply Kd.R_alloc | apply Kd.R_drewN | apply Kd.R_drew)); exact Kd.R_mono HO203.out (fun _ hk => hk.2)))
                                (case aS => exact (below_size (by repeat (first | (with_reducible first | exact HB.out | apply below_alloc | apply pw_below_drewN | apply below_drew1) | exact HB.out))))
                                (case aL => have := LMc22.out; omega)
                                intro v209 w38 ho hb hg hat
                                rw [← Ny208.out] at ho
                                have n0_ := Aside0.mk (Kd.R_after (ok := (fun _ => True)) (by (with_reducible repeat (first | apply Kd.R_alloc | apply Kd.R_drewN | apply Kd.R_drew)); exact HO197.out) hg hat)
                                have n1_ := Aside0.mk (hb)
                                have n2_ := Aside0.mk (ho)
                                clear HO197
                                clear HB
                                clear HO203
                                have HO197 := n0_
                                have HB := n1_
                                have HO210 := n2_
                                clear n0_ n1_ n2_
                                clear ho hb hg hat
                                refine hK.out _ _ trivial (fun hHeld => ?_)
                                clear hK K
                                refine norm_ (a' := ?_) ?_ ?_
                                rotate_left
                                · show Act.put _ (some 60) _ = _
                                  simp only [Act.put, List.setIfInBounds_toArray, List.set_cons_zero, List.set_cons_succ, i64_w, i32_w]
                                  rfl
                                refine one_ (i := 9) (N := some 65) #[true, true, true, true, true, true, true, true, true, true, false] rfl rfl (one_of HT_.out (by kernel_rfl)) (by decide) (fun K hK => ?_)
                                refine Kd.R_append_rows_step k38 (w0 := w) w.heap.size (by rfl) (.tmp 60) (.tmp 64) 22 38 (.agg #[(.int .i64 0), (.int .i64 0), (.int .i64 0)]) 24 rfl Try.underlying22 info38 rfl (by decide) (by omega) v209 y208 y211 _ _ _ (fun k_ => some k_ ≠ (.slice (some ⟨go18, 0, none⟩) y195.length co30 : Value).ownBlock) (fun _ => False) rfl rfl ?aO ?aR (fun _ _ h => h) (fun _ h => h.elim) ?aF ?aB ?aS ?aL ?_
                                (case aR => repeat (first | exact (Kd.C_below HR214.out HB.out) | (with_reducible refine Kd.C_alloc ?_ _) | (with_reducible refine Kd.C_drewN ?_ _) | (with_reducible refine Kd.C_drew ?_)))
                                (case aB => exact (by repeat (first | (with_reducible first | exact HB.out | apply below_alloc | apply pw_below_drewN | apply below_drew1) | exact HB.out)))
                                (case aF => exact (fun k_ hk => Kd.fresh' (Kd.R_lt (by (with_reducible repeat (first | apply Kd.R_alloc | apply Kd.R_drewN | apply Kd.R_drew)); exact HO197.out)) k_ hk))
                                (case aO => exact (by (with_reducible repeat (first | apply Kd.R_alloc | apply Kd.R_drewN | apply Kd.R_drew)); exact HO210.out))
                                (case aS => exact (below_size (by repeat (first | (with_reducible first | exact HB.out | apply below_alloc | apply pw_below_drewN | apply below_drew1) | exact HB.out))))
                                (case aL => have := LMc26.out; omega)
                                intro v216 w39 ho hb hg hat
                                rw [← Ny215.out] at ho
                                have n0_ := Aside0.mk (Kd.R_after (ok := (fun _ => True)) (by (with_reducible repeat (first | apply Kd.R_alloc | apply Kd.R_drewN | apply Kd.R_drew)); exact HO197.out) hg hat)
                                have n1_ := Aside0.mk (hb)
                                have n2_ := Aside0.mk (ho)
                                clear HO197
                                clear HB
                                clear HO210
                                have HO197 := n0_
                                have HB := n1_
                                have HO217 := n2_
                                clear n0_ n1_ n2_
                                clear ho hb hg hat
                                refine hK.out _ _ trivial (fun hHeld => ?_)
                                clear hK K
                                refine norm_ (a' := ?_) ?_ ?_
                                rotate_left
                                · show Act.put _ (some 65) _ = _
                                  simp only [Act.put, List.setIfInBounds_toArray, List.set_cons_zero, List.set_cons_succ, i64_w, i32_w]
                                  rfl
                                refine pure_ (i := 10) (N := some 10) (v := ?_) (a' := ?_) #[true, true, true, true, true, true, true, true, true, true, true] rfl rfl (any_of HT_.out (by kernel_rfl)) (fun _ _ _ h => h) (Or.inl ⟨by rfl, ?_⟩) ?_ ?_
                                rotate_left
                                · intro w'
                                  go_simp
                                  with_reducible rfl
                                rotate_left
                                · simp only [Act.put, List.setIfInBounds_toArray, List.set_cons_zero, List.set_cons_succ, i64_w, i32_w]
                                  rfl
                                refine done_ (done_of HT_.out (by kernel_rfl)) ?_
                                try go_wp2
                                go_ret2
                                exact ⟨_, by first | rfl | (simp [errW_none, errW_some] <;> rfl) | (simp only [← hji23]; first | rfl | (simp [errW_none, errW_some] <;> rfl)) | (simp [*, errW_none, errW_some] <;> rfl), by (with_reducible repeat (first | apply Kd.R_alloc | apply Kd.R_drewN | apply Kd.R_drew)); exact Kd.R_mono HO217.out (fun _ hk => trivial), by repeat (first | (with_reducible first | exact HB.out | apply below_alloc | apply pw_below_drewN | apply below_drew1) | exact HB.out)⟩
                              · rw [if_neg c26] at H
                                exact absurd H (by simp)
                            · rw [if_neg c25] at H
                              exact absurd H (by simp)
                          · rw [if_neg c24] at H
                            exact absurd H (by simp)
                        · rw [if_neg c22] at H
                          exact absurd H (by simp)
                      · rw [if_neg c21] at H
                        exact absurd H (by simp)
                    · rw [if_neg c19] at H
                      have c19b0 : (((rd_T38 y199 t189).f2) == 0) = false := beq_eq_false_iff_ne.mpr c19
                      have c19b1 : (((rd_T38 y199 t189).f2) != 0) = true := bne_iff_ne.mpr c19
                      simp only [Option.some.injEq, Prod.mk.injEq] at H
                      obtain ⟨rfl, rfl⟩ := H
                      go_wp2_with (first | ((with_reducible refine gate_dst (N := 39) rfl ?_); refine Kd.R_lit k38 _ 38 ?hg (N := 39) ?hd (xs := ([] : List (S38))) (inner := []) (ok := fun _ => True) (okp := fun _ => True) ?hr ?hp (fun _ hk => hk) trivial (Below.refl _ _) (Nat.le_refl _) (by simp) ?_; (case hd => rfl); (case hg => rfl); (case hr => first | (go_simp; done) | (go_simp; rfl)); (case hp => exact (Reps.none _ _)); intro v193 w40 ho41 hb hg_ hnew_; clear hg_ hnew_; (first | rw [← Ny192.out] at ho41 | (simp only [Int.reduceToNat] at ho41; rw [← Ny192.out] at ho41)); have n0_ := Aside0.mk (Kd.R_lower ho41 (below_size (by repeat (first | (with_reducible first | exact HB.out | apply below_alloc | apply pw_below_drewN | apply below_drew1) | exact HB.out)))); have n1_ := Aside0.mk (below_step (by repeat (first | (with_reducible first | exact HB.out | apply below_alloc | apply pw_below_drewN | apply below_drew1) | exact HB.out)) hb); clear HB; have HO194 := n0_; have HB := n1_; clear n0_ n1_; clear hb ho41) | ((with_reducible refine gate_builtin (b := .append) (xs := #[.tmp 39, .tmp 40]) rfl ?_); at_builtin; refine Kd.R_append_rows k38 (w0 := w) w.heap.size rfl (.tmp 39) (.tmp 40) 22 38 (.agg #[(.int .i64 0), (.int .i64 0), (.int .i64 0)]) 24 rfl Try.underlying22 info38 rfl (by decide) (by omega) v193 y192 l0 _ _ _ (fun _ => True) (fun _ => False) rfl rfl ?aO ?aR (fun _ _ h => h) (fun _ h => h.elim) ?aF ?aB ?aS ?aL ?_; (case aR => repeat (first | exact (Kd.C_below HR0.out HB.out) | (with_reducible refine Kd.C_alloc ?_ _) | (with_reducible refine Kd.C_drewN ?_ _) | (with_reducible refine Kd.C_drew ?_))); (case aB => exact (by repeat (first | (with_reducible first | exact HB.out | apply below_alloc | apply pw_below_drewN | apply below_drew1) | exact HB.out))); (case aF => exact (fun _ _ => trivial)); (case aO => exact (by (with_reducible repeat (first | apply Kd.R_alloc | apply Kd.R_drewN | apply Kd.R_drew)); exact HO194.out)); (case aS => exact (below_size (by repeat (first | (with_reducible first | exact HB.out | apply below_alloc | apply pw_below_drewN | apply below_drew1) | exact HB.out)))); (case aL => have := LMc15.out; omega); intro v196 w42 ho hb hg hat; rw [← Ny195.out] at ho; have n0_ := Aside0.mk (hb); have n1_ := Aside0.mk (ho); clear HB; clear HO194; have HB := n0_; have HO197 := n1_; clear n0_ n1_; clear ho hb hg hat; obtain ⟨Ao43, co43, eo43⟩ := Kd.R_slice HO197.out; subst eo43; have p198 : 0 ≤ (t189 : Int) := of_decide_eq_true (by first | (with_reducible assumption) | assumption); have q198 : t189 < (y195.length : Int) := of_decide_eq_true (by first | (with_reducible assumption) | assumption); obtain ⟨ad198, e198, hx198_0, hx198_1, hx198_2⟩ := at_T38 (Kd.R_reads' HO197.out).2.2 t189 p198 q198; cases e198; replace p198 := eq_true p198; replace q198 := eq_true q198; have p18 : 0 ≤ (t189 : Int) := of_decide_eq_true (by first | (with_reducible assumption) | assumption); have q18 : (t189 : Int) < ((y195.length : Int) : Int) := of_decide_eq_true (by first | (with_reducible assumption) | assumption); obtain ⟨go18, co18, eo18, gb18, gl18, cl18, HG18⟩ := Kd.R_form HO197.out (by omega); (first | cases eo18 | (injection eo18 with ea_ en_ ec_; (first | subst ea_ | (injection ea_ with ea_; subst ea_)); subst ec_; clear en_)); have GB18 := Aside0.mk gb18; have GG18 := Aside0.mk HG18; clear gb18 gl18 HG18; (first | simp only [add_plain] at hx198_0 | skip); (first | simp only [add_plain] at hx198_1 | skip); (first | simp only [add_plain] at hx198_2 | skip); obtain ⟨ce18, hcl18, hM18, hcc18, hfr18⟩ := Kd.R_elem HO197.out z38 (t189 : Int) p18 q18; obtain rfl := k38_openM hM18; have hx18_0 : w42.cell? ⟨go18, (t189 : Int).toNat * 3, none⟩ = some (.int .i64 ((rd_T38 y195 t189).f0)) := hcc18 0 _ rfl; have hx18_1 : w42.cell? ⟨go18, (t189 : Int).toNat * 3 + 1, none⟩ = some (.int .i64 ((rd_T38 y195 t189).f1)) := hcc18 1 _ rfl; have hx18_2 : w42.cell? ⟨go18, (t189 : Int).toNat * 3 + 2, none⟩ = some (.int .i64 ((rd_T38 y195 t189).f2)) := hcc18 2 _ rfl; have hf18_0 : w42.frozen? ⟨go18, (t189 : Int).toNat * 3, none⟩ = false := hfr18 0; have hf18_1 : w42.frozen? ⟨go18, (t189 : Int).toNat * 3 + 1, none⟩ = false := hfr18 1; have hf18_2 : w42.frozen? ⟨go18, (t189 : Int).toNat * 3 + 2, none⟩ = false := hfr18 2; clear hcl18 hcc18 hfr18 hM18; replace p18 := eq_true p18; replace q18 := eq_true q18; have HX44 := Aside0.mk (show Kd.R k38 38 w42 w.heap.size (fun _ => True) (.slice (some ⟨go18, 0, none⟩) y195.length co43) y195 from (by (with_reducible repeat (first | apply Kd.R_alloc | apply Kd.R_drewN | apply Kd.R_drew)); exact HO197.out)); obtain ⟨ce44, hcl44, hM44, hcc44, hfr44⟩ := Kd.R_elem HX44.out z38 (t189 : Int) (of_decide_eq_true (by first | (with_reducible assumption) | assumption)) (by have h_ : (t189 : Int) < ((y195.length : Int) : Int) := of_decide_eq_true (by first | (with_reducible assumption) | assumption); first | exact h_ | (have e_ := (Kd.R_reads' HO197.out).1; omega) | simpa using h_); obtain rfl := k38_openM hM44; have HP44 := Kd.R_seg HX44.out (t189 : Int) (of_decide_eq_true (by first | (with_reducible assumption) | assumption)) (by have h_ : (t189 : Int) < ((y195.length : Int) : Int) := of_decide_eq_true (by first | (with_reducible assumption) | assumption); first | exact h_ | (have e_ := (Kd.R_reads' HO197.out).1; omega) | simpa using h_) (seg := [.int .i64 (wrap64 (((rd_T38 y195 t189).f2) - 1))]) (j := 2) hcl44 hcc44 (show 3 ≤ 3 from by decide) (x' := (⟨(rd_T38 y195 t189).f0, (rd_T38 y195 t189).f1, wrap64 (((rd_T38 y195 t189).f2) - 1)⟩ : S38)) (k38_mkM _ _ _ (⟨(rd_T38 y195 t189).f0, (rd_T38 y195 t189).f1, wrap64 (((rd_T38 y195 t189).f2) - 1)⟩ : S38) ) (fun _ hk => hk); have hx44_2 := hcc44 2 _ rfl; (try simp only [show (k38).sz = 3 from rfl, Nat.mul_one, Nat.add_zero] at hx44_2); have hf44_2 := hfr44 2; (try simp only [show (k38).sz = 3 from rfl, Nat.mul_one, Nat.add_zero] at hf44_2); clear hcl44 hcc44 hfr44 hM44) | ((with_reducible refine gate_store (t := 3) (p := 49) rfl ?_); refine store_event (t := 3) (p := 49) (v := ?vo_w45) (w1 := (w42.setCell ⟨go18, (t189 : Int).toNat * 3 + 2, none⟩ (.int .i64 (wrap64 (((rd_T38 y195 t189).f2) - 1))))) ?hg ?ho ?hn ?hr ?_; (case ho => rfl); (case hg => rfl); (case hn => rfl); (case hr => first | (go_simp; done) | (go_simp; rfl)); intro w45 hw; have hg : w42.grownBy w45 (some go18) := (by rw [hw]; exact HP44.2); have hp_ : Kd.R k38 38 w45 w.heap.size (fun _ => True) (.slice (some ⟨go18, 0, none⟩) y195.length co43) y199 := (by rw [hw, Ny199.out]; exact HP44.1); clear HP44; have n0_ := Aside0.mk (hp_); have n1_ := Aside0.mk ((by rw [hw]; exact below_set (HB.out) GB18.out : Below w.heap.size w w45)); clear HO197; clear HB; have HO197 := n0_; have HB := n1_; clear n0_ n1_; clear hg hw hp_; have p200 : 0 ≤ (t189 : Int) := of_decide_eq_true (by first | (with_reducible assumption) | assumption); have q200 : t189 < (y199.length : Int) := (by have h_ : (t189 : Int) < ((y195.length : Int) : Int) := of_decide_eq_true (by first | (with_reducible assumption) | assumption); first | (have e_ := (Kd.R_reads' HO197.out).1; omega) | simpa only [Ny199.out, List.length_set] using h_); have ql200 : ((t189 : Int) < ((y195.length : Int) : Int)) = True := eq_true (of_decide_eq_true (by first | (with_reducible assumption) | assumption)); obtain ⟨ad200, e200, hx200_0, hx200_1, hx200_2⟩ := at_T38 (Kd.R_reads' HO197.out).2.2 t189 p200 q200; obtain rfl : (⟨go18, 0, none⟩ : Addr) = ad200 := (by injection e200); (first | simp only [add_plain] at hx200_0 | simp only [add_at] at hx200_0 | simp only [Addr.add, Nat.zero_add] at hx200_0 | skip); (first | simp only [add_plain] at hx200_1 | simp only [add_at] at hx200_1 | simp only [Addr.add, Nat.zero_add] at hx200_1 | skip); (first | simp only [add_plain] at hx200_2 | simp only [add_at] at hx200_2 | simp only [Addr.add, Nat.zero_add] at hx200_2 | skip); replace p200 := eq_true p200; replace q200 := eq_true q200))
                      go_ret2
                      exact ⟨_, by first | rfl | (simp [errW_none, errW_some] <;> rfl) | (simp [*, errW_none, errW_some] <;> rfl), by (with_reducible repeat (first | apply Kd.R_alloc | apply Kd.R_drewN | apply Kd.R_drew)); exact HO197.out, by repeat (first | (with_reducible first | exact HB.out | apply below_alloc | apply pw_below_drewN | apply below_drew1) | exact HB.out)⟩
                  · rw [if_neg c17] at H
                    exact absurd H (by simp)
                · rw [if_neg c16] at H
                  exact absurd H (by simp)
              · rw [if_neg c15] at H
                exact absurd H (by simp)

end Go.Proofs.Ytbhdodkkebgjcaa.A.P
