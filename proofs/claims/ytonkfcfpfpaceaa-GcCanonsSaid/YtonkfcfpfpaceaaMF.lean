/- Printed by a program of this session out of the kit's print: functions of the law as plain Lean functions, and their walks. -/
import Derived.Test.YtonkfcfpfpaceaaAx0
import Derived.Test.YtonkfcfpfpaceaaG9
import Derived.Test.YtonkfcfpfpaceaaMA1
import Derived.Test.YtonkfcfpfpaceaaMB
import Derived.Test.YtonkfcfpfpaceaaMA2
import Derived.Test.YtonkfcfpfpaceaaMC
namespace Go.Proofs.Ytonkfcfpfpaceaa.A.P
open Go.RowKit Go.Proofs.YtonkfcfpfpaceaaW.PrintWords Go.Proofs.YtonkfcfpfpaceaaW.PrintLast Go.Proofs.YtonkfcfpfpaceaaW.PrintMore
attribute [local go_sem] max2_int min2_int max_two min_two max_three min_three max_four min_four   -- for this text's walks alone
set_option linter.unusedVariables false
set_option linter.unusedSimpArgs false

/-! ### larchlaw16_GcCanons: function 6 -/
mutual
def larchlaw16_GcCanons.j0 : Nat → List (S37) → List (S41) → List (S37) → List (S41) → Bool → Option (Bool)
  | 0, _, _, _, _, _ => none
  | k + 1, x0, x1, x2, x3, x37 => if x37 = true then (some true) else ((larchref15_Copy.f k x0).bind fun t377 => ((gc_Canon.f t377 x1).bind fun bt380 => ((larchref16_Canon.f k x0 x1).bind fun bt387 => ((larchref16_Canon.f k x2 x3).bind fun bt394 => ((gc_Same.f k t377 x1 x2 x3).bind fun bt401 => (if bt387.2.2 = 0 then (larchlaw16_GcCanons.j1 k x0 t377 bt380.1 bt380.2.1 bt380.2.2 bt387.1 bt387.2.1 bt387.2.2 bt394.1 bt394.2.1 bt401.1 bt401.2 bt394.2.2) else (larchlaw16_GcCanons.j1 k x0 t377 bt380.1 bt380.2.1 bt380.2.2 bt387.1 bt387.2.1 bt387.2.2 bt394.1 bt394.2.1 bt401.1 bt401.2 bt387.2.2)))))))
def larchlaw16_GcCanons.j1 : Nat → List (S37) → List (S37) → List (S37) → List (S41) → Int → List (S37) → List (S41) → Int → List (S37) → List (S41) → Bool → Int → Int → Option (Bool)
  | 0, _, _, _, _, _, _, _, _, _, _, _, _, _ => none
  | k + 1, x0, x9, x10, x11, x12, x13, x14, x15, x16, x17, x19, x20, x21 => (larchbase_SameObjects.f k x10 x13).bind fun t403 => (if t403 = true then ((larchbase_SameValues.f k x11 x14).bind fun t404 => (if t404 = true then (if x12 = x15 then (if x20 = x21 then (if x21 = 0 then ((larchbase_SameObjects.f k x13 x16).bind fun t405 => (if t405 = true then ((larchbase_SameValues.f k x14 x17).bind fun t406 => (if (x19 == t406) = true then ((larchbase_SameObjects.f k x9 x0).bind fun t407 => (if t407 = true then ((larchlaw16_works.f k).bind fun t408 => (some t408)) else (some false))) else (some false))) else (if (x19 == false) = true then ((larchbase_SameObjects.f k x9 x0).bind fun t409 => (if t409 = true then ((larchlaw16_works.f k).bind fun t410 => (some t410)) else (some false))) else (some false)))) else (if (x19 == false) = true then ((larchbase_SameObjects.f k x9 x0).bind fun t411 => (if t411 = true then ((larchlaw16_works.f k).bind fun t412 => (some t412)) else (some false))) else (some false))) else (some false)) else (some false)) else (some false))) else (some false))
end
def larchlaw16_GcCanons.f (k : Nat) (l0 : List (S37)) (l1 : List (S41)) (l2 : List (S37)) (l3 : List (S41)) : Option (Bool) := (larchlaw16_light.f k l0).bind fun t375 => (if t375 = true then ((larchlaw16_light.f k l2).bind fun t376 => (if t376 = true then (larchlaw16_GcCanons.j0 k l0 l1 l2 l3 (decide ((wrap64 ((l1.length : Int) + (l3.length : Int))) > 300))) else (larchlaw16_GcCanons.j0 k l0 l1 l2 l3 true))) else (larchlaw16_GcCanons.j0 k l0 l1 l2 l3 true))
theorem larchlaw16_GcCanons.mono_l : ∀ k, (∀ y0 y1 y2 y3 y4, LeO (larchlaw16_GcCanons.j0 k y0 y1 y2 y3 y4) (larchlaw16_GcCanons.j0 (k + 1) y0 y1 y2 y3 y4)) ∧ (∀ y0 y1 y2 y3 y4 y5 y6 y7 y8 y9 y10 y11 y12, LeO (larchlaw16_GcCanons.j1 k y0 y1 y2 y3 y4 y5 y6 y7 y8 y9 y10 y11 y12) (larchlaw16_GcCanons.j1 (k + 1) y0 y1 y2 y3 y4 y5 y6 y7 y8 y9 y10 y11 y12))
  | 0 => ⟨fun _ _ _ _ _ r h => by simp [larchlaw16_GcCanons.j0] at h, fun _ _ _ _ _ _ _ _ _ _ _ _ _ r h => by simp [larchlaw16_GcCanons.j1] at h⟩
  | k + 1 => by
    obtain ⟨ih0, ih1⟩ := larchlaw16_GcCanons.mono_l k
    refine ⟨?_, ?_⟩
    · intro y0 y1 y2 y3 y4
      unfold larchlaw16_GcCanons.j0
      repeat' first
      | (with_reducible exact ih0 _ _ _ _ _)
      | (with_reducible exact ih1 _ _ _ _ _ _ _ _ _ _ _ _ _)
      | (with_reducible exact gc_Same.mono _ _ _ _ _)
      | (with_reducible exact larchbase_SameObjects.mono _ _ _)
      | (with_reducible exact larchbase_SameValues.mono _ _ _)
      | (with_reducible exact larchlaw16_light.mono _ _)
      | (with_reducible exact larchlaw16_works.mono _)
      | (with_reducible exact larchref15_Copy.mono _ _)
      | (with_reducible exact larchref16_Canon.mono _ _ _)
      | (with_reducible exact LeO.refl _)
      | (with_reducible exact LeO.none _)
      | (with_reducible refine LeO.ite ?_ ?_)
      | (with_reducible refine LeO.bind ?_ (fun _ => ?_))
      | exact ih0 _ _ _ _ _
      | exact ih1 _ _ _ _ _ _ _ _ _ _ _ _ _
      | exact gc_Same.mono _ _ _ _ _
      | exact larchbase_SameObjects.mono _ _ _
      | exact larchbase_SameValues.mono _ _ _
      | exact larchlaw16_light.mono _ _
      | exact larchlaw16_works.mono _
      | exact larchref15_Copy.mono _ _
      | exact larchref16_Canon.mono _ _ _
      | exact LeO.none _
      | refine LeO.ite ?_ ?_
      | refine LeO.bind ?_ (fun _ => ?_)
    · intro y0 y1 y2 y3 y4 y5 y6 y7 y8 y9 y10 y11 y12
      unfold larchlaw16_GcCanons.j1
      repeat' first
      | (with_reducible exact ih0 _ _ _ _ _)
      | (with_reducible exact ih1 _ _ _ _ _ _ _ _ _ _ _ _ _)
      | (with_reducible exact gc_Same.mono _ _ _ _ _)
      | (with_reducible exact larchbase_SameObjects.mono _ _ _)
      | (with_reducible exact larchbase_SameValues.mono _ _ _)
      | (with_reducible exact larchlaw16_light.mono _ _)
      | (with_reducible exact larchlaw16_works.mono _)
      | (with_reducible exact larchref15_Copy.mono _ _)
      | (with_reducible exact larchref16_Canon.mono _ _ _)
      | (with_reducible exact LeO.refl _)
      | (with_reducible exact LeO.none _)
      | (with_reducible refine LeO.ite ?_ ?_)
      | (with_reducible refine LeO.bind ?_ (fun _ => ?_))
      | exact ih0 _ _ _ _ _
      | exact ih1 _ _ _ _ _ _ _ _ _ _ _ _ _
      | exact gc_Same.mono _ _ _ _ _
      | exact larchbase_SameObjects.mono _ _ _
      | exact larchbase_SameValues.mono _ _ _
      | exact larchlaw16_light.mono _ _
      | exact larchlaw16_works.mono _
      | exact larchref15_Copy.mono _ _
      | exact larchref16_Canon.mono _ _ _
      | exact LeO.none _
      | refine LeO.ite ?_ ?_
      | refine LeO.bind ?_ (fun _ => ?_)
theorem larchlaw16_GcCanons.mono : ∀ a0 a1 a2 a3 k, LeO (larchlaw16_GcCanons.f k a0 a1 a2 a3) (larchlaw16_GcCanons.f (k + 1) a0 a1 a2 a3) := by
  intro a0 a1 a2 a3 k
  obtain ⟨ih0, ih1⟩ := larchlaw16_GcCanons.mono_l k
  unfold larchlaw16_GcCanons.f
  repeat' first
      | (with_reducible exact ih0 _ _ _ _ _)
      | (with_reducible exact ih1 _ _ _ _ _ _ _ _ _ _ _ _ _)
      | (with_reducible exact gc_Same.mono _ _ _ _ _)
      | (with_reducible exact larchbase_SameObjects.mono _ _ _)
      | (with_reducible exact larchbase_SameValues.mono _ _ _)
      | (with_reducible exact larchlaw16_light.mono _ _)
      | (with_reducible exact larchlaw16_works.mono _)
      | (with_reducible exact larchref15_Copy.mono _ _)
      | (with_reducible exact larchref16_Canon.mono _ _ _)
      | (with_reducible exact LeO.refl _)
      | (with_reducible exact LeO.none _)
      | (with_reducible refine LeO.ite ?_ ?_)
      | (with_reducible refine LeO.bind ?_ (fun _ => ?_))
      | exact ih0 _ _ _ _ _
      | exact ih1 _ _ _ _ _ _ _ _ _ _ _ _ _
      | exact gc_Same.mono _ _ _ _ _
      | exact larchbase_SameObjects.mono _ _ _
      | exact larchbase_SameValues.mono _ _ _
      | exact larchlaw16_light.mono _ _
      | exact larchlaw16_works.mono _
      | exact larchref15_Copy.mono _ _
      | exact larchref16_Canon.mono _ _ _
      | exact LeO.none _
      | refine LeO.ite ?_ ?_
      | refine LeO.bind ?_ (fun _ => ?_)
set_option maxHeartbeats 8000000 in
set_option maxRecDepth 100000 in
theorem larchlaw16_GcCanons.calls (k : Nat) (A0 : Option Addr) (c0 : Nat) (l0 : List (S37)) (A1 : Option Addr) (c1 : Nat) (l1 : List (S41)) (A2 : Option Addr) (c2 : Nat) (l2 : List (S37)) (A3 : Option Addr) (c3 : Nat) (l3 : List (S41)) (r : Bool) (hrt : Aside0 (r = true)) (w : World) (hr0 : Kd.C k37 w A0 l0.length l0) (hc0 : l0.length ≤ c0) (hr1 : Kd.C k41 w A1 l1.length l1) (hc1 : l1.length ≤ c1) (hr2 : Kd.C k37 w A2 l2.length l2) (hc2 : l2.length ≤ c2) (hr3 : Kd.C k41 w A3 l3.length l3) (hc3 : l3.length ≤ c3) (h : larchlaw16_GcCanons.f k l0 l1 l2 l3 = some r) :
    Calls Try.prog 6 #[.slice A0 l0.length c0, .slice A1 l1.length c1, .slice A2 l2.length c2, .slice A3 l3.length c3] w fun e w' => e = .returned (.bool r) ∧ Below w.heap.size w w' := by
  have HR0 := Aside0.mk hr0
  have HC0 := Aside0.mk hc0
  clear hr0 hc0
  have HR1 := Aside0.mk hr1
  have HC1 := Aside0.mk hc1
  clear hr1 hc1
  have HR2 := Aside0.mk hr2
  have HC2 := Aside0.mk hc2
  clear hr2 hc2
  have HR3 := Aside0.mk hr3
  have HC3 := Aside0.mk hc3
  clear hr3 hc3
  have HB := Aside0.mk (Below.refl w.heap.size w)
  have H : ((larchlaw16_light.f k l0).bind fun t375 => (if t375 = true then ((larchlaw16_light.f k l2).bind fun t376 => (if t376 = true then (larchlaw16_GcCanons.j0 k l0 l1 l2 l3 (decide ((wrap64 ((l1.length : Int) + (l3.length : Int))) > 300))) else (larchlaw16_GcCanons.j0 k l0 l1 l2 l3 true))) else (larchlaw16_GcCanons.j0 k l0 l1 l2 l3 true))) = some r := h
  clear h
  have HC5 := Aside0.mk H
  clear H
  go_enter Try.func6, Try.ntmps6
  go_upto_region 1 with (fail)
  go_cut [37] (fun v37 wc => ∃ (kq : Nat) (x37_4 : Bool), v37 = .bool x37_4 ∧ Aside0 (larchlaw16_GcCanons.j0 kq l0 l1 l2 l3 x37_4 = some r) ∧ Aside0 (kq ≤ k) ∧ Aside0 (Below w.heap.size w wc))
  case first =>
    have H := HC5.out
    clear HC5
    replace H := Option.bind_eq_some_iff.mp H
    obtain ⟨t375, A60, H⟩ := H
    replace H : (if t375 = true then ((larchlaw16_light.f k l2).bind fun t376 => (if t376 = true then (larchlaw16_GcCanons.j0 k l0 l1 l2 l3 (decide ((wrap64 ((l1.length : Int) + (l3.length : Int))) > 300))) else (larchlaw16_GcCanons.j0 k l0 l1 l2 l3 true))) else (larchlaw16_GcCanons.j0 k l0 l1 l2 l3 true)) = some r := H
    have A6 := Aside0.mk A60
    clear A60
    by_cases c7 : t375 = true
    · subst c7
      have H1 : ((larchlaw16_light.f k l2).bind fun t376 => (if t376 = true then (larchlaw16_GcCanons.j0 k l0 l1 l2 l3 (decide ((wrap64 ((l1.length : Int) + (l3.length : Int))) > 300))) else (larchlaw16_GcCanons.j0 k l0 l1 l2 l3 true))) = some r := by rw [if_pos rfl] at H; exact H
      clear H
      have H := H1
      clear H1
      replace H := Option.bind_eq_some_iff.mp H
      obtain ⟨t376, A80, H⟩ := H
      replace H : (if t376 = true then (larchlaw16_GcCanons.j0 k l0 l1 l2 l3 (decide ((wrap64 ((l1.length : Int) + (l3.length : Int))) > 300))) else (larchlaw16_GcCanons.j0 k l0 l1 l2 l3 true)) = some r := H
      have A8 := Aside0.mk A80
      clear A80
      by_cases c9 : t376 = true
      · subst c9
        have H1 : (larchlaw16_GcCanons.j0 k l0 l1 l2 l3 (decide ((wrap64 ((l1.length : Int) + (l3.length : Int))) > 300))) = some r := by rw [if_pos rfl] at H; exact H
        clear H
        have H := H1
        clear H1
        have H' := Aside0.mk H
        clear H
        go_wp2_with (first | ((with_reducible refine gate_callee (f := 9) rfl ?_); refine goesL_ (some 23) rfl rfl Try.func9 (by kernel_rfl) rfl #[.slice A0 l0.length c0] rfl (by (try simp only [List.map_toArray, List.map_cons, List.map_nil]); first | done | rfl | (simp only [List.length_drop, List.length_take]; rfl)) ?_; (with_reducible refine (larchlaw16_light.calls k _ _ l0 true _ ?side1 ?side2 A6.out).mono ?_); (case side1 => repeat (first | exact (Kd.C_below HR0.out HB.out) | (with_reducible refine Kd.C_alloc ?_ _) | (with_reducible refine Kd.C_drewN ?_ _) | (with_reducible refine Kd.C_drew ?_))); (case side2 => exact HC0.out); rintro e w' ⟨rfl, ⟨nd, rfl⟩⟩; refine ⟨_, rfl, ?_⟩) | (go_at_call 9; (with_reducible refine (larchlaw16_light.calls k _ _ l2 true _ ?side1 ?side2 A8.out).mono ?_); (case side1 => repeat (first | exact (Kd.C_below HR2.out (by repeat (first | (with_reducible first | exact HB.out | apply below_alloc | apply pw_below_drewN | apply below_drew1) | exact HB.out))) | (with_reducible refine Kd.C_alloc ?_ _) | (with_reducible refine Kd.C_drewN ?_ _) | (with_reducible refine Kd.C_drew ?_))); (case side2 => exact HC2.out); rintro e w' ⟨rfl, ⟨nd, rfl⟩⟩))
        go_meet
        case rel => exact ⟨_, (decide ((wrap64 ((l1.length : Int) + (l3.length : Int))) > 300)), (by first | rfl | (simp; done) | (simp [*]; done)), H', ⟨by first | omega | exact Nat.le_refl _⟩, ⟨by repeat (first | (with_reducible first | exact HB.out | apply below_alloc | apply pw_below_drewN | apply below_drew1) | exact HB.out)⟩⟩
      · replace c9 := Bool.eq_false_iff.mpr c9
        subst c9
        have H1 : (larchlaw16_GcCanons.j0 k l0 l1 l2 l3 true) = some r := by rw [if_neg (show ¬ (false = true) by decide)] at H; exact H
        clear H
        have H := H1
        clear H1
        have H' := Aside0.mk H
        clear H
        go_wp2_with (first | ((with_reducible refine gate_callee (f := 9) rfl ?_); refine goesL_ (some 23) rfl rfl Try.func9 (by kernel_rfl) rfl #[.slice A0 l0.length c0] rfl (by (try simp only [List.map_toArray, List.map_cons, List.map_nil]); first | done | rfl | (simp only [List.length_drop, List.length_take]; rfl)) ?_; (with_reducible refine (larchlaw16_light.calls k _ _ l0 true _ ?side1 ?side2 A6.out).mono ?_); (case side1 => repeat (first | exact (Kd.C_below HR0.out HB.out) | (with_reducible refine Kd.C_alloc ?_ _) | (with_reducible refine Kd.C_drewN ?_ _) | (with_reducible refine Kd.C_drew ?_))); (case side2 => exact HC0.out); rintro e w' ⟨rfl, ⟨nd, rfl⟩⟩; refine ⟨_, rfl, ?_⟩) | (go_at_call 9; (with_reducible refine (larchlaw16_light.calls k _ _ l2 false _ ?side1 ?side2 A8.out).mono ?_); (case side1 => repeat (first | exact (Kd.C_below HR2.out (by repeat (first | (with_reducible first | exact HB.out | apply below_alloc | apply pw_below_drewN | apply below_drew1) | exact HB.out))) | (with_reducible refine Kd.C_alloc ?_ _) | (with_reducible refine Kd.C_drewN ?_ _) | (with_reducible refine Kd.C_drew ?_))); (case side2 => exact HC2.out); rintro e w' ⟨rfl, ⟨nd, rfl⟩⟩))
        go_meet
        case rel => exact ⟨_, (true), (by first | rfl | (simp; done) | (simp [*]; done)), H', ⟨by first | omega | exact Nat.le_refl _⟩, ⟨by repeat (first | (with_reducible first | exact HB.out | apply below_alloc | apply pw_below_drewN | apply below_drew1) | exact HB.out)⟩⟩
    · replace c7 := Bool.eq_false_iff.mpr c7
      subst c7
      have H1 : (larchlaw16_GcCanons.j0 k l0 l1 l2 l3 true) = some r := by rw [if_neg (show ¬ (false = true) by decide)] at H; exact H
      clear H
      have H := H1
      clear H1
      have H' := Aside0.mk H
      clear H
      go_wp2_with (first | ((with_reducible refine gate_callee (f := 9) rfl ?_); refine goesL_ (some 23) rfl rfl Try.func9 (by kernel_rfl) rfl #[.slice A0 l0.length c0] rfl (by (try simp only [List.map_toArray, List.map_cons, List.map_nil]); first | done | rfl | (simp only [List.length_drop, List.length_take]; rfl)) ?_; (with_reducible refine (larchlaw16_light.calls k _ _ l0 false _ ?side1 ?side2 A6.out).mono ?_); (case side1 => repeat (first | exact (Kd.C_below HR0.out HB.out) | (with_reducible refine Kd.C_alloc ?_ _) | (with_reducible refine Kd.C_drewN ?_ _) | (with_reducible refine Kd.C_drew ?_))); (case side2 => exact HC0.out); rintro e w' ⟨rfl, ⟨nd, rfl⟩⟩; refine ⟨_, rfl, ?_⟩))
      go_meet
      case rel => exact ⟨_, (true), (by first | rfl | (simp; done) | (simp [*]; done)), H', ⟨by first | omega | exact Nat.le_refl _⟩, ⟨by repeat (first | (with_reducible first | exact HB.out | apply below_alloc | apply pw_below_drewN | apply below_drew1) | exact HB.out)⟩⟩
  case rest =>
    clear HC5
    try clear c1
    try clear c2
    try clear p2
    try clear c3
    try clear c6
    try clear p6
    try clear c7
    try clear c9
    obtain ⟨kq, x37_4, rfl, HA, HJ4, HB⟩ := hcut
    cases kq with
    | zero => exact absurd HA.out (by simp [larchlaw16_GcCanons.j0])
    | succ kj4 =>
      have H := HA.out
      clear HA
      simp only [larchlaw16_GcCanons.j0] at H
      by_cases c10 : x37_4 = true
      · subst c10
        have H1 : (some true) = some r := by rw [if_pos rfl] at H; exact H
        clear H
        have H := H1
        clear H1
        obtain rfl := Option.some.inj H
        go_wp2
        go_ret
        exact ⟨by first | rfl | (simp [errW_none, errW_some] <;> rfl) | (simp [*, errW_none, errW_some] <;> rfl), by repeat (first | (with_reducible first | exact HB.out | apply below_alloc | apply pw_below_drewN | apply below_drew1) | exact HB.out)⟩
      · replace c10 := Bool.eq_false_iff.mpr c10
        subst c10
        have H1 : ((larchref15_Copy.f kj4 l0).bind fun t377 => ((gc_Canon.f t377 l1).bind fun bt380 => ((larchref16_Canon.f kj4 l0 l1).bind fun bt387 => ((larchref16_Canon.f kj4 l2 l3).bind fun bt394 => ((gc_Same.f kj4 t377 l1 l2 l3).bind fun bt401 => (if bt387.2.2 = 0 then (larchlaw16_GcCanons.j1 kj4 l0 t377 bt380.1 bt380.2.1 bt380.2.2 bt387.1 bt387.2.1 bt387.2.2 bt394.1 bt394.2.1 bt401.1 bt401.2 bt394.2.2) else (larchlaw16_GcCanons.j1 kj4 l0 t377 bt380.1 bt380.2.1 bt380.2.2 bt387.1 bt387.2.1 bt387.2.2 bt394.1 bt394.2.1 bt401.1 bt401.2 bt387.2.2))))))) = some r := by rw [if_neg (show ¬ (false = true) by decide)] at H; exact H
        clear H
        have H := H1
        clear H1
        replace H := Option.bind_eq_some_iff.mp H
        obtain ⟨t377, A110, H⟩ := H
        replace H : ((gc_Canon.f t377 l1).bind fun bt380 => ((larchref16_Canon.f kj4 l0 l1).bind fun bt387 => ((larchref16_Canon.f kj4 l2 l3).bind fun bt394 => ((gc_Same.f kj4 t377 l1 l2 l3).bind fun bt401 => (if bt387.2.2 = 0 then (larchlaw16_GcCanons.j1 kj4 l0 t377 bt380.1 bt380.2.1 bt380.2.2 bt387.1 bt387.2.1 bt387.2.2 bt394.1 bt394.2.1 bt401.1 bt401.2 bt394.2.2) else (larchlaw16_GcCanons.j1 kj4 l0 t377 bt380.1 bt380.2.1 bt380.2.2 bt387.1 bt387.2.1 bt387.2.2 bt394.1 bt394.2.1 bt401.1 bt401.2 bt387.2.2)))))) = some r := H
        have A11 := Aside0.mk A110
        clear A110
        replace H := Option.bind_eq_some_iff.mp H
        obtain ⟨⟨t380, t381, t382⟩, A120, H⟩ := H
        replace H : ((larchref16_Canon.f kj4 l0 l1).bind fun bt387 => ((larchref16_Canon.f kj4 l2 l3).bind fun bt394 => ((gc_Same.f kj4 t377 l1 l2 l3).bind fun bt401 => (if bt387.2.2 = 0 then (larchlaw16_GcCanons.j1 kj4 l0 t377 t380 t381 t382 bt387.1 bt387.2.1 bt387.2.2 bt394.1 bt394.2.1 bt401.1 bt401.2 bt394.2.2) else (larchlaw16_GcCanons.j1 kj4 l0 t377 t380 t381 t382 bt387.1 bt387.2.1 bt387.2.2 bt394.1 bt394.2.1 bt401.1 bt401.2 bt387.2.2))))) = some r := H
        have A12 := Aside0.mk A120
        clear A120
        replace H := Option.bind_eq_some_iff.mp H
        obtain ⟨⟨t387, t388, t389⟩, A130, H⟩ := H
        replace H : ((larchref16_Canon.f kj4 l2 l3).bind fun bt394 => ((gc_Same.f kj4 t377 l1 l2 l3).bind fun bt401 => (if t389 = 0 then (larchlaw16_GcCanons.j1 kj4 l0 t377 t380 t381 t382 t387 t388 t389 bt394.1 bt394.2.1 bt401.1 bt401.2 bt394.2.2) else (larchlaw16_GcCanons.j1 kj4 l0 t377 t380 t381 t382 t387 t388 t389 bt394.1 bt394.2.1 bt401.1 bt401.2 t389)))) = some r := H
        have A13 := Aside0.mk A130
        clear A130
        replace H := Option.bind_eq_some_iff.mp H
        obtain ⟨⟨t394, t395, t396⟩, A140, H⟩ := H
        replace H : ((gc_Same.f kj4 t377 l1 l2 l3).bind fun bt401 => (if t389 = 0 then (larchlaw16_GcCanons.j1 kj4 l0 t377 t380 t381 t382 t387 t388 t389 t394 t395 bt401.1 bt401.2 t396) else (larchlaw16_GcCanons.j1 kj4 l0 t377 t380 t381 t382 t387 t388 t389 t394 t395 bt401.1 bt401.2 t389))) = some r := H
        have A14 := Aside0.mk A140
        clear A140
        replace H := Option.bind_eq_some_iff.mp H
        obtain ⟨⟨t401, t402⟩, A150, H⟩ := H
        replace H : (if t389 = 0 then (larchlaw16_GcCanons.j1 kj4 l0 t377 t380 t381 t382 t387 t388 t389 t394 t395 t401 t402 t396) else (larchlaw16_GcCanons.j1 kj4 l0 t377 t380 t381 t382 t387 t388 t389 t394 t395 t401 t402 t389)) = some r := H
        have A15 := Aside0.mk A150
        clear A150
        have HC16 := Aside0.mk H
        clear H
        go_upto_if 71 with (first | ((with_reducible refine gate_callee (f := 10) rfl ?_); refine goesL_ (some 39) rfl rfl Try.func10 (by kernel_rfl) rfl #[.slice A0 l0.length c0] rfl (by (try simp only [List.map_toArray, List.map_cons, List.map_nil]); first | done | rfl | (simp only [List.length_drop, List.length_take]; rfl)) ?_; (with_reducible refine (larchref15_Copy.calls kj4 _ _ l0 t377 _ ?side1 ?side2 A11.out).mono ?_); (case side1 => repeat (first | exact (Kd.C_below HR0.out HB.out) | (with_reducible refine Kd.C_alloc ?_ _) | (with_reducible refine Kd.C_drewN ?_ _) | (with_reducible refine Kd.C_drew ?_))); (case side2 => exact HC0.out); rintro e w17 ⟨v378, rfl, ho0, hb⟩; refine ⟨_, rfl, ?_⟩; have n0_ := Aside0.mk (Kd.S_lower ho0 (below_size (by repeat (first | (with_reducible first | exact HB.out | apply below_alloc | apply pw_below_drewN | apply below_drew1) | exact HB.out)))); have n1_ := Aside0.mk (below_step (by repeat (first | (with_reducible first | exact HB.out | apply below_alloc | apply pw_below_drewN | apply below_drew1) | exact HB.out)) hb); clear HB; have HO379 := n0_; have HB := n1_; clear n0_ n1_; (try clear hb); (try clear hb2); (try clear hk); (try clear hi); (try clear ho0); obtain ⟨Ao18, co18, eo18⟩ := Kd.S_slice HO379.out; subst eo18) | ((with_reducible refine gate_callee (f := 22) rfl ?_); refine goesL_ (some 43) rfl rfl Try.func22 (by kernel_rfl) rfl #[.slice Ao18 t377.length co18, .slice A1 l1.length c1] rfl (by (try simp only [List.map_toArray, List.map_cons, List.map_nil]); first | done | rfl | (simp only [List.length_drop, List.length_take]; rfl)) ?_; (with_reducible refine (gc_Canon.calls _ _ t377 _ _ l1 t380 t381 t382 _ ?side1 ?side2 ?side3 ?side4 A12.out).mono ?_); (case side1 => repeat (first | exact (Kd.S_reads' HO379.out).2.2 | (with_reducible refine Kd.C_alloc ?_ _) | (with_reducible refine Kd.C_drewN ?_ _) | (with_reducible refine Kd.C_drew ?_))); (case side2 => exact (Kd.S_reads' HO379.out).2.1); (case side3 => repeat (first | exact (Kd.C_below HR1.out HB.out) | (with_reducible refine Kd.C_alloc ?_ _) | (with_reducible refine Kd.C_drewN ?_ _) | (with_reducible refine Kd.C_drew ?_))); (case side4 => exact HC1.out); rintro e w19 ⟨v383, v385, rfl, ho0, ho1, hb⟩; refine ⟨_, rfl, ?_⟩; have n0_ := Aside0.mk (Kd.S_mono (Kd.S_told (Kd.S_told (Kd.S_old (by (with_reducible repeat (first | apply Kd.S_alloc | apply Kd.S_drewN | apply Kd.S_drew)); exact HO379.out) hb) (Kd.S_base ho0)) (Kd.R_base ho1)) (fun _ h_ => h_.1)); have n1_ := Aside0.mk (Kd.S_lower (Kd.S_new' ho0 (Kd.S_lt (by (with_reducible repeat (first | apply Kd.S_alloc | apply Kd.S_drewN | apply Kd.S_drew)); exact HO379.out))) (below_size (by repeat (first | (with_reducible first | exact HB.out | apply below_alloc | apply pw_below_drewN | apply below_drew1) | exact HB.out)))); have n2_ := Aside0.mk (Kd.R_lower ho1 (below_size (by repeat (first | (with_reducible first | exact HB.out | apply below_alloc | apply pw_below_drewN | apply below_drew1) | exact HB.out)))); have n3_ := Aside0.mk (below_step (by repeat (first | (with_reducible first | exact HB.out | apply below_alloc | apply pw_below_drewN | apply below_drew1) | exact HB.out)) hb); clear HO379; clear HB; have HO379 := n0_; have HO384 := n1_; have HO386 := n2_; have HB := n3_; clear n0_ n1_ n2_ n3_; (try clear hb); (try clear hb2); (try clear hk); (try clear hi); (try clear ho0); (try clear ho1)) | ((with_reducible refine gate_callee (f := 24) rfl ?_); refine goesL_ (some 50) rfl rfl Try.func24 (by kernel_rfl) rfl #[.slice A0 l0.length c0, .slice A1 l1.length c1] rfl (by (try simp only [List.map_toArray, List.map_cons, List.map_nil]); first | done | rfl | (simp only [List.length_drop, List.length_take]; rfl)) ?_; (with_reducible refine (larchref16_Canon.calls kj4 _ _ l0 _ _ l1 t387 t388 t389 _ ?side1 ?side2 ?side3 ?side4 A13.out).mono ?_); (case side1 => repeat (first | exact (Kd.C_below HR0.out HB.out) | (with_reducible refine Kd.C_alloc ?_ _) | (with_reducible refine Kd.C_drewN ?_ _) | (with_reducible refine Kd.C_drew ?_))); (case side2 => exact HC0.out); (case side3 => repeat (first | exact (Kd.C_below HR1.out HB.out) | (with_reducible refine Kd.C_alloc ?_ _) | (with_reducible refine Kd.C_drewN ?_ _) | (with_reducible refine Kd.C_drew ?_))); (case side4 => exact HC1.out); rintro e w20 ⟨v390, v392, rfl, ho0, ho1, hb⟩; refine ⟨_, rfl, ?_⟩; have n0_ := Aside0.mk (Kd.S_mono (Kd.S_told (Kd.S_told (Kd.S_old (by (with_reducible repeat (first | apply Kd.S_alloc | apply Kd.S_drewN | apply Kd.S_drew)); exact HO379.out) hb) (Kd.S_base ho0)) (Kd.R_base ho1)) (fun _ h_ => h_.1)); have n1_ := Aside0.mk (Kd.S_mono (Kd.S_told (Kd.S_told (Kd.S_old (by (with_reducible repeat (first | apply Kd.S_alloc | apply Kd.S_drewN | apply Kd.S_drew)); exact HO384.out) hb) (Kd.S_base ho0)) (Kd.R_base ho1)) (fun _ h_ => h_.1)); have n2_ := Aside0.mk (Kd.R_elder' (by (with_reducible repeat (first | apply Kd.R_alloc | apply Kd.R_drewN | apply Kd.R_drew)); exact HO386.out) (Kd.R_base ho1) hb); have n3_ := Aside0.mk (Kd.S_lower (Kd.S_new' (Kd.S_new' (Kd.S_new' ho0 (Kd.S_lt (by (with_reducible repeat (first | apply Kd.S_alloc | apply Kd.S_drewN | apply Kd.S_drew)); exact HO379.out))) (Kd.S_lt (by (with_reducible repeat (first | apply Kd.S_alloc | apply Kd.S_drewN | apply Kd.S_drew)); exact HO384.out))) (Kd.R_lt (by (with_reducible repeat (first | apply Kd.R_alloc | apply Kd.R_drewN | apply Kd.R_drew)); exact HO386.out))) (below_size (by repeat (first | (with_reducible first | exact HB.out | apply below_alloc | apply pw_below_drewN | apply below_drew1) | exact HB.out)))); have n4_ := Aside0.mk (Kd.R_lower (Kd.R_new' ho1 (Kd.R_lt (by (with_reducible repeat (first | apply Kd.R_alloc | apply Kd.R_drewN | apply Kd.R_drew)); exact HO386.out))) (below_size (by repeat (first | (with_reducible first | exact HB.out | apply below_alloc | apply pw_below_drewN | apply below_drew1) | exact HB.out)))); have n5_ := Aside0.mk (below_step (by repeat (first | (with_reducible first | exact HB.out | apply below_alloc | apply pw_below_drewN | apply below_drew1) | exact HB.out)) hb); clear HO379; clear HO384; clear HO386; clear HB; have HO379 := n0_; have HO384 := n1_; have HO386 := n2_; have HO391 := n3_; have HO393 := n4_; have HB := n5_; clear n0_ n1_ n2_ n3_ n4_ n5_; (try clear hb); (try clear hb2); (try clear hk); (try clear hi); (try clear ho0); (try clear ho1)) | ((with_reducible refine gate_callee (f := 24) rfl ?_); refine goesL_ (some 57) rfl rfl Try.func24 (by kernel_rfl) rfl #[.slice A2 l2.length c2, .slice A3 l3.length c3] rfl (by (try simp only [List.map_toArray, List.map_cons, List.map_nil]); first | done | rfl | (simp only [List.length_drop, List.length_take]; rfl)) ?_; (with_reducible refine (larchref16_Canon.calls kj4 _ _ l2 _ _ l3 t394 t395 t396 _ ?side1 ?side2 ?side3 ?side4 A14.out).mono ?_); (case side1 => repeat (first | exact (Kd.C_below HR2.out HB.out) | (with_reducible refine Kd.C_alloc ?_ _) | (with_reducible refine Kd.C_drewN ?_ _) | (with_reducible refine Kd.C_drew ?_))); (case side2 => exact HC2.out); (case side3 => repeat (first | exact (Kd.C_below HR3.out HB.out) | (with_reducible refine Kd.C_alloc ?_ _) | (with_reducible refine Kd.C_drewN ?_ _) | (with_reducible refine Kd.C_drew ?_))); (case side4 => exact HC3.out); rintro e w21 ⟨v397, v399, rfl, ho0, ho1, hb⟩; refine ⟨_, rfl, ?_⟩; have n0_ := Aside0.mk (Kd.S_mono (Kd.S_told (Kd.S_told (Kd.S_old (by (with_reducible repeat (first | apply Kd.S_alloc | apply Kd.S_drewN | apply Kd.S_drew)); exact HO379.out) hb) (Kd.S_base ho0)) (Kd.R_base ho1)) (fun _ h_ => h_.1)); have n1_ := Aside0.mk (Kd.S_mono (Kd.S_told (Kd.S_told (Kd.S_old (by (with_reducible repeat (first | apply Kd.S_alloc | apply Kd.S_drewN | apply Kd.S_drew)); exact HO384.out) hb) (Kd.S_base ho0)) (Kd.R_base ho1)) (fun _ h_ => h_.1)); have n2_ := Aside0.mk (Kd.R_elder' (by (with_reducible repeat (first | apply Kd.R_alloc | apply Kd.R_drewN | apply Kd.R_drew)); exact HO386.out) (Kd.R_base ho1) hb); have n3_ := Aside0.mk (Kd.S_mono (Kd.S_told (Kd.S_told (Kd.S_old (by (with_reducible repeat (first | apply Kd.S_alloc | apply Kd.S_drewN | apply Kd.S_drew)); exact HO391.out) hb) (Kd.S_base ho0)) (Kd.R_base ho1)) (fun _ h_ => h_.1)); have n4_ := Aside0.mk (Kd.R_elder' (by (with_reducible repeat (first | apply Kd.R_alloc | apply Kd.R_drewN | apply Kd.R_drew)); exact HO393.out) (Kd.R_base ho1) hb); have n5_ := Aside0.mk (Kd.S_lower (Kd.S_new' (Kd.S_new' (Kd.S_new' (Kd.S_new' (Kd.S_new' ho0 (Kd.S_lt (by (with_reducible repeat (first | apply Kd.S_alloc | apply Kd.S_drewN | apply Kd.S_drew)); exact HO379.out))) (Kd.S_lt (by (with_reducible repeat (first | apply Kd.S_alloc | apply Kd.S_drewN | apply Kd.S_drew)); exact HO384.out))) (Kd.R_lt (by (with_reducible repeat (first | apply Kd.R_alloc | apply Kd.R_drewN | apply Kd.R_drew)); exact HO386.out))) (Kd.S_lt (by (with_reducible repeat (first | apply Kd.S_alloc | apply Kd.S_drewN | apply Kd.S_drew)); exact HO391.out))) (Kd.R_lt (by (with_reducible repeat (first | apply Kd.R_alloc | apply Kd.R_drewN | apply Kd.R_drew)); exact HO393.out))) (below_size (by repeat (first | (with_reducible first | exact HB.out | apply below_alloc | apply pw_below_drewN | apply below_drew1) | exact HB.out)))); have n6_ := Aside0.mk (Kd.R_lower (Kd.R_new' (Kd.R_new' ho1 (Kd.R_lt (by (with_reducible repeat (first | apply Kd.R_alloc | apply Kd.R_drewN | apply Kd.R_drew)); exact HO386.out))) (Kd.R_lt (by (with_reducible repeat (first | apply Kd.R_alloc | apply Kd.R_drewN | apply Kd.R_drew)); exact HO393.out))) (below_size (by repeat (first | (with_reducible first | exact HB.out | apply below_alloc | apply pw_below_drewN | apply below_drew1) | exact HB.out)))); have n7_ := Aside0.mk (below_step (by repeat (first | (with_reducible first | exact HB.out | apply below_alloc | apply pw_below_drewN | apply below_drew1) | exact HB.out)) hb); clear HO379; clear HO384; clear HO386; clear HO391; clear HO393; clear HB; have HO379 := n0_; have HO384 := n1_; have HO386 := n2_; have HO391 := n3_; have HO393 := n4_; have HO398 := n5_; have HO400 := n6_; have HB := n7_; clear n0_ n1_ n2_ n3_ n4_ n5_ n6_ n7_; (try clear hb); (try clear hb2); (try clear hk); (try clear hi); (try clear ho0); (try clear ho1)) | ((with_reducible refine gate_callee (f := 25) rfl ?_); refine goesL_ (some 66) rfl rfl Try.func25 (by kernel_rfl) rfl #[.slice Ao18 t377.length co18, .slice A1 l1.length c1, .slice A2 l2.length c2, .slice A3 l3.length c3] rfl (by (try simp only [List.map_toArray, List.map_cons, List.map_nil]); first | done | rfl | (simp only [List.length_drop, List.length_take]; rfl)) ?_; (with_reducible refine (gc_Same.calls kj4 _ _ t377 _ _ l1 _ _ l2 _ _ l3 t401 t402 _ ?side1 ?side2 ?side3 ?side4 ?side5 ?side6 ?side7 ?side8 A15.out).mono ?_); (case side1 => repeat (first | exact (Kd.S_reads' HO379.out).2.2 | (with_reducible refine Kd.C_alloc ?_ _) | (with_reducible refine Kd.C_drewN ?_ _) | (with_reducible refine Kd.C_drew ?_))); (case side2 => exact (Kd.S_reads' HO379.out).2.1); (case side3 => repeat (first | exact (Kd.C_below HR1.out HB.out) | (with_reducible refine Kd.C_alloc ?_ _) | (with_reducible refine Kd.C_drewN ?_ _) | (with_reducible refine Kd.C_drew ?_))); (case side4 => exact HC1.out); (case side5 => repeat (first | exact (Kd.C_below HR2.out HB.out) | (with_reducible refine Kd.C_alloc ?_ _) | (with_reducible refine Kd.C_drewN ?_ _) | (with_reducible refine Kd.C_drew ?_))); (case side6 => exact HC2.out); (case side7 => repeat (first | exact (Kd.C_below HR3.out HB.out) | (with_reducible refine Kd.C_alloc ?_ _) | (with_reducible refine Kd.C_drewN ?_ _) | (with_reducible refine Kd.C_drew ?_))); (case side8 => exact HC3.out); rintro e w22 ⟨rfl, hb⟩; refine ⟨_, rfl, ?_⟩; have n0_ := Aside0.mk (Kd.S_below (by (with_reducible repeat (first | apply Kd.S_alloc | apply Kd.S_drewN | apply Kd.S_drew)); exact HO379.out) hb); have n1_ := Aside0.mk (Kd.S_below (by (with_reducible repeat (first | apply Kd.S_alloc | apply Kd.S_drewN | apply Kd.S_drew)); exact HO384.out) hb); have n2_ := Aside0.mk (Kd.R_below (by (with_reducible repeat (first | apply Kd.R_alloc | apply Kd.R_drewN | apply Kd.R_drew)); exact HO386.out) hb); have n3_ := Aside0.mk (Kd.S_below (by (with_reducible repeat (first | apply Kd.S_alloc | apply Kd.S_drewN | apply Kd.S_drew)); exact HO391.out) hb); have n4_ := Aside0.mk (Kd.R_below (by (with_reducible repeat (first | apply Kd.R_alloc | apply Kd.R_drewN | apply Kd.R_drew)); exact HO393.out) hb); have n5_ := Aside0.mk (Kd.S_below (by (with_reducible repeat (first | apply Kd.S_alloc | apply Kd.S_drewN | apply Kd.S_drew)); exact HO398.out) hb); have n6_ := Aside0.mk (Kd.R_below (by (with_reducible repeat (first | apply Kd.R_alloc | apply Kd.R_drewN | apply Kd.R_drew)); exact HO400.out) hb); have n7_ := Aside0.mk (below_step (by repeat (first | (with_reducible first | exact HB.out | apply below_alloc | apply pw_below_drewN | apply below_drew1) | exact HB.out)) hb); clear HO379; clear HO384; clear HO386; clear HO391; clear HO393; clear HO398; clear HO400; clear HB; have HO379 := n0_; have HO384 := n1_; have HO386 := n2_; have HO391 := n3_; have HO393 := n4_; have HO398 := n5_; have HO400 := n6_; have HB := n7_; clear n0_ n1_ n2_ n3_ n4_ n5_ n6_ n7_; (try clear hb); (try clear hb2); (try clear hk); (try clear hi)))
        (try simp only [Act.put, List.setIfInBounds_toArray, List.set_cons_zero, List.set_cons_succ])
        go_cut [21] (fun v21 wc => ∃ (kq : Nat) (x21_15 : Int), v21 = .int .i64 x21_15 ∧ Aside0 (larchlaw16_GcCanons.j1 kq l0 t377 t380 t381 t382 t387 t388 t389 t394 t395 t401 t402 x21_15 = some r) ∧ Aside0 (kq ≤ kj4) ∧ Aside0 (Kd.S k37 37 wc w.heap.size (fun k_ => some k_ ≠ (v383 : Value).ownBlock ∧ some k_ ≠ (v385 : Value).ownBlock ∧ some k_ ≠ (v390 : Value).ownBlock ∧ some k_ ≠ (v392 : Value).ownBlock ∧ some k_ ≠ (v397 : Value).ownBlock ∧ some k_ ≠ (v399 : Value).ownBlock) (.slice Ao18 t377.length co18) t377) ∧ Aside0 (Kd.S k37 37 wc w.heap.size (fun k_ => some k_ ≠ ((.slice Ao18 t377.length co18) : Value).ownBlock ∧ some k_ ≠ (v385 : Value).ownBlock ∧ some k_ ≠ (v390 : Value).ownBlock ∧ some k_ ≠ (v392 : Value).ownBlock ∧ some k_ ≠ (v397 : Value).ownBlock ∧ some k_ ≠ (v399 : Value).ownBlock) v383 t380) ∧ Aside0 (Kd.R k41 41 wc w.heap.size (fun k_ => some k_ ≠ (v392 : Value).ownBlock ∧ some k_ ≠ (v399 : Value).ownBlock) v385 t381) ∧ Aside0 (Kd.S k37 37 wc w.heap.size (fun k_ => some k_ ≠ ((.slice Ao18 t377.length co18) : Value).ownBlock ∧ some k_ ≠ (v383 : Value).ownBlock ∧ some k_ ≠ (v385 : Value).ownBlock ∧ some k_ ≠ (v392 : Value).ownBlock ∧ some k_ ≠ (v397 : Value).ownBlock ∧ some k_ ≠ (v399 : Value).ownBlock) v390 t387) ∧ Aside0 (Kd.R k41 41 wc w.heap.size (fun k_ => some k_ ≠ (v385 : Value).ownBlock ∧ some k_ ≠ (v399 : Value).ownBlock) v392 t388) ∧ Aside0 (Kd.S k37 37 wc w.heap.size (fun k_ => some k_ ≠ ((.slice Ao18 t377.length co18) : Value).ownBlock ∧ some k_ ≠ (v383 : Value).ownBlock ∧ some k_ ≠ (v385 : Value).ownBlock ∧ some k_ ≠ (v390 : Value).ownBlock ∧ some k_ ≠ (v392 : Value).ownBlock ∧ some k_ ≠ (v399 : Value).ownBlock) v397 t394) ∧ Aside0 (Kd.R k41 41 wc w.heap.size (fun k_ => some k_ ≠ (v385 : Value).ownBlock ∧ some k_ ≠ (v392 : Value).ownBlock) v399 t395) ∧ Aside0 (Below w.heap.size w wc))
        case first =>
          have H := HC16.out
          clear HC16
          by_cases c23 : t389 = 0
          · rw [if_pos c23] at H
            have c23b0 : (t389 == 0) = true := beq_iff_eq.mpr c23
            have c23b1 : (t389 != 0) = false := bne_eq_false_iff_eq.mpr c23
            clear c23
            (first | rw [c23b0] | (simp only [i64_w, i32_w]; rw [c23b0]) | skip)
            have H' := Aside0.mk H
            clear H
            go_wp2
            go_meet
            case rel => exact ⟨_, (t396), (by first | rfl | (simp; done) | (simp [*]; done)), H', ⟨by have := HJ4.out; first | omega | exact Nat.le_refl _⟩, ⟨by (with_reducible repeat (first | apply Kd.S_alloc | apply Kd.S_drewN | apply Kd.S_drew)); exact Kd.S_mono HO379.out (fun _ hk => ⟨hk.1.1.1.1.1.2, ⟨hk.1.1.1.1.2, ⟨hk.1.1.1.2, ⟨hk.1.1.2, ⟨hk.1.2, hk.2⟩⟩⟩⟩⟩)⟩, ⟨by (with_reducible repeat (first | apply Kd.S_alloc | apply Kd.S_drewN | apply Kd.S_drew)); exact Kd.S_mono HO384.out (fun _ hk => ⟨hk.1.1.1.1.2, ⟨hk.1.1.1.1.1, ⟨hk.1.1.1.2, ⟨hk.1.1.2, ⟨hk.1.2, hk.2⟩⟩⟩⟩⟩)⟩, ⟨by (with_reducible repeat (first | apply Kd.R_alloc | apply Kd.R_drewN | apply Kd.R_drew)); exact Kd.R_mono HO386.out (fun _ hk => ⟨hk.1.2, hk.2⟩)⟩, ⟨by (with_reducible repeat (first | apply Kd.S_alloc | apply Kd.S_drewN | apply Kd.S_drew)); exact Kd.S_mono HO391.out (fun _ hk => ⟨hk.1.1.1.1.2, ⟨hk.1.1.1.2, ⟨hk.1.1.2, ⟨hk.1.1.1.1.1, ⟨hk.1.2, hk.2⟩⟩⟩⟩⟩)⟩, ⟨by (with_reducible repeat (first | apply Kd.R_alloc | apply Kd.R_drewN | apply Kd.R_drew)); exact Kd.R_mono HO393.out (fun _ hk => ⟨hk.1.2, hk.2⟩)⟩, ⟨by (with_reducible repeat (first | apply Kd.S_alloc | apply Kd.S_drewN | apply Kd.S_drew)); exact Kd.S_mono HO398.out (fun _ hk => ⟨hk.1.1.1.1.2, ⟨hk.1.1.1.2, ⟨hk.1.1.2, ⟨hk.1.2, ⟨hk.2, hk.1.1.1.1.1⟩⟩⟩⟩⟩)⟩, ⟨by (with_reducible repeat (first | apply Kd.R_alloc | apply Kd.R_drewN | apply Kd.R_drew)); exact Kd.R_mono HO400.out (fun _ hk => ⟨hk.1.2, hk.2⟩)⟩, ⟨by repeat (first | (with_reducible first | exact HB.out | apply below_alloc | apply pw_below_drewN | apply below_drew1) | exact HB.out)⟩⟩
          · rw [if_neg c23] at H
            have c23b0 : (t389 == 0) = false := beq_eq_false_iff_ne.mpr c23
            have c23b1 : (t389 != 0) = true := bne_iff_ne.mpr c23
            (first | rw [c23b0] | (simp only [i64_w, i32_w]; rw [c23b0]) | skip)
            have H' := Aside0.mk H
            clear H
            go_wp2
            go_meet
            case rel => exact ⟨_, (t389), (by first | rfl | (simp; done) | (simp [*]; done)), H', ⟨by have := HJ4.out; first | omega | exact Nat.le_refl _⟩, ⟨by (with_reducible repeat (first | apply Kd.S_alloc | apply Kd.S_drewN | apply Kd.S_drew)); exact Kd.S_mono HO379.out (fun _ hk => ⟨hk.1.1.1.1.1.2, ⟨hk.1.1.1.1.2, ⟨hk.1.1.1.2, ⟨hk.1.1.2, ⟨hk.1.2, hk.2⟩⟩⟩⟩⟩)⟩, ⟨by (with_reducible repeat (first | apply Kd.S_alloc | apply Kd.S_drewN | apply Kd.S_drew)); exact Kd.S_mono HO384.out (fun _ hk => ⟨hk.1.1.1.1.2, ⟨hk.1.1.1.1.1, ⟨hk.1.1.1.2, ⟨hk.1.1.2, ⟨hk.1.2, hk.2⟩⟩⟩⟩⟩)⟩, ⟨by (with_reducible repeat (first | apply Kd.R_alloc | apply Kd.R_drewN | apply Kd.R_drew)); exact Kd.R_mono HO386.out (fun _ hk => ⟨hk.1.2, hk.2⟩)⟩, ⟨by (with_reducible repeat (first | apply Kd.S_alloc | apply Kd.S_drewN | apply Kd.S_drew)); exact Kd.S_mono HO391.out (fun _ hk => ⟨hk.1.1.1.1.2, ⟨hk.1.1.1.2, ⟨hk.1.1.2, ⟨hk.1.1.1.1.1, ⟨hk.1.2, hk.2⟩⟩⟩⟩⟩)⟩, ⟨by (with_reducible repeat (first | apply Kd.R_alloc | apply Kd.R_drewN | apply Kd.R_drew)); exact Kd.R_mono HO393.out (fun _ hk => ⟨hk.1.2, hk.2⟩)⟩, ⟨by (with_reducible repeat (first | apply Kd.S_alloc | apply Kd.S_drewN | apply Kd.S_drew)); exact Kd.S_mono HO398.out (fun _ hk => ⟨hk.1.1.1.1.2, ⟨hk.1.1.1.2, ⟨hk.1.1.2, ⟨hk.1.2, ⟨hk.2, hk.1.1.1.1.1⟩⟩⟩⟩⟩)⟩, ⟨by (with_reducible repeat (first | apply Kd.R_alloc | apply Kd.R_drewN | apply Kd.R_drew)); exact Kd.R_mono HO400.out (fun _ hk => ⟨hk.1.2, hk.2⟩)⟩, ⟨by repeat (first | (with_reducible first | exact HB.out | apply below_alloc | apply pw_below_drewN | apply below_drew1) | exact HB.out)⟩⟩
        case rest =>
          clear HC16
          try clear c1
          try clear c2
          try clear p2
          try clear c3
          try clear c6
          try clear p6
          try clear c7
          try clear c9
          try clear c10
          try clear c22
          try clear c23
          try clear c23b0
          try clear c23b1
          try clear p2
          try clear p6
          obtain ⟨kq, x21_15, rfl, HA, HJ15, HO_9, HO_10, HO_11, HO_13, HO_14, HO_16, HO_17, HB⟩ := hcut
          cases kq with
          | zero => exact absurd HA.out (by simp [larchlaw16_GcCanons.j1])
          | succ kj15 =>
            have H := HA.out
            clear HA
            simp only [larchlaw16_GcCanons.j1] at H
            replace H := Option.bind_eq_some_iff.mp H
            obtain ⟨t403, A240, H⟩ := H
            replace H : (if t403 = true then ((larchbase_SameValues.f kj15 t381 t388).bind fun t404 => (if t404 = true then (if t382 = t389 then (if t402 = x21_15 then (if x21_15 = 0 then ((larchbase_SameObjects.f kj15 t387 t394).bind fun t405 => (if t405 = true then ((larchbase_SameValues.f kj15 t388 t395).bind fun t406 => (if (t401 == t406) = true then ((larchbase_SameObjects.f kj15 t377 l0).bind fun t407 => (if t407 = true then ((larchlaw16_works.f kj15).bind fun t408 => (some t408)) else (some false))) else (some false))) else (if (t401 == false) = true then ((larchbase_SameObjects.f kj15 t377 l0).bind fun t409 => (if t409 = true then ((larchlaw16_works.f kj15).bind fun t410 => (some t410)) else (some false))) else (some false)))) else (if (t401 == false) = true then ((larchbase_SameObjects.f kj15 t377 l0).bind fun t411 => (if t411 = true then ((larchlaw16_works.f kj15).bind fun t412 => (some t412)) else (some false))) else (some false))) else (some false)) else (some false)) else (some false))) else (some false)) = some r := H
            have A24 := Aside0.mk A240
            clear A240
            by_cases c25 : t403 = true
            · subst c25
              have H1 : ((larchbase_SameValues.f kj15 t381 t388).bind fun t404 => (if t404 = true then (if t382 = t389 then (if t402 = x21_15 then (if x21_15 = 0 then ((larchbase_SameObjects.f kj15 t387 t394).bind fun t405 => (if t405 = true then ((larchbase_SameValues.f kj15 t388 t395).bind fun t406 => (if (t401 == t406) = true then ((larchbase_SameObjects.f kj15 t377 l0).bind fun t407 => (if t407 = true then ((larchlaw16_works.f kj15).bind fun t408 => (some t408)) else (some false))) else (some false))) else (if (t401 == false) = true then ((larchbase_SameObjects.f kj15 t377 l0).bind fun t409 => (if t409 = true then ((larchlaw16_works.f kj15).bind fun t410 => (some t410)) else (some false))) else (some false)))) else (if (t401 == false) = true then ((larchbase_SameObjects.f kj15 t377 l0).bind fun t411 => (if t411 = true then ((larchlaw16_works.f kj15).bind fun t412 => (some t412)) else (some false))) else (some false))) else (some false)) else (some false)) else (some false))) = some r := by rw [if_pos rfl] at H; exact H
              clear H
              have H := H1
              clear H1
              replace H := Option.bind_eq_some_iff.mp H
              obtain ⟨t404, A260, H⟩ := H
              replace H : (if t404 = true then (if t382 = t389 then (if t402 = x21_15 then (if x21_15 = 0 then ((larchbase_SameObjects.f kj15 t387 t394).bind fun t405 => (if t405 = true then ((larchbase_SameValues.f kj15 t388 t395).bind fun t406 => (if (t401 == t406) = true then ((larchbase_SameObjects.f kj15 t377 l0).bind fun t407 => (if t407 = true then ((larchlaw16_works.f kj15).bind fun t408 => (some t408)) else (some false))) else (some false))) else (if (t401 == false) = true then ((larchbase_SameObjects.f kj15 t377 l0).bind fun t409 => (if t409 = true then ((larchlaw16_works.f kj15).bind fun t410 => (some t410)) else (some false))) else (some false)))) else (if (t401 == false) = true then ((larchbase_SameObjects.f kj15 t377 l0).bind fun t411 => (if t411 = true then ((larchlaw16_works.f kj15).bind fun t412 => (some t412)) else (some false))) else (some false))) else (some false)) else (some false)) else (some false)) = some r := H
              have A26 := Aside0.mk A260
              clear A260
              by_cases c27 : t404 = true
              · subst c27
                have H1 : (if t382 = t389 then (if t402 = x21_15 then (if x21_15 = 0 then ((larchbase_SameObjects.f kj15 t387 t394).bind fun t405 => (if t405 = true then ((larchbase_SameValues.f kj15 t388 t395).bind fun t406 => (if (t401 == t406) = true then ((larchbase_SameObjects.f kj15 t377 l0).bind fun t407 => (if t407 = true then ((larchlaw16_works.f kj15).bind fun t408 => (some t408)) else (some false))) else (some false))) else (if (t401 == false) = true then ((larchbase_SameObjects.f kj15 t377 l0).bind fun t409 => (if t409 = true then ((larchlaw16_works.f kj15).bind fun t410 => (some t410)) else (some false))) else (some false)))) else (if (t401 == false) = true then ((larchbase_SameObjects.f kj15 t377 l0).bind fun t411 => (if t411 = true then ((larchlaw16_works.f kj15).bind fun t412 => (some t412)) else (some false))) else (some false))) else (some false)) else (some false)) = some r := by rw [if_pos rfl] at H; exact H
                clear H
                have H := H1
                clear H1
                by_cases c28 : t382 = t389
                · rw [if_pos c28] at H
                  have c28b0 : (t382 == t389) = true := beq_iff_eq.mpr c28
                  have c28b1 : (t382 != t389) = false := bne_eq_false_iff_eq.mpr c28
                  clear c28
                  by_cases c29 : t402 = x21_15
                  · rw [if_pos c29] at H
                    have c29b0 : (t402 == x21_15) = true := beq_iff_eq.mpr c29
                    have c29b1 : (t402 != x21_15) = false := bne_eq_false_iff_eq.mpr c29
                    clear c29
                    by_cases c30 : x21_15 = 0
                    · rw [if_pos c30] at H
                      have c30b0 : (x21_15 == 0) = true := beq_iff_eq.mpr c30
                      have c30b1 : (x21_15 != 0) = false := bne_eq_false_iff_eq.mpr c30
                      clear c30
                      replace H := Option.bind_eq_some_iff.mp H
                      obtain ⟨t405, A310, H⟩ := H
                      replace H : (if t405 = true then ((larchbase_SameValues.f kj15 t388 t395).bind fun t406 => (if (t401 == t406) = true then ((larchbase_SameObjects.f kj15 t377 l0).bind fun t407 => (if t407 = true then ((larchlaw16_works.f kj15).bind fun t408 => (some t408)) else (some false))) else (some false))) else (if (t401 == false) = true then ((larchbase_SameObjects.f kj15 t377 l0).bind fun t409 => (if t409 = true then ((larchlaw16_works.f kj15).bind fun t410 => (some t410)) else (some false))) else (some false))) = some r := H
                      have A31 := Aside0.mk A310
                      clear A310
                      by_cases c32 : t405 = true
                      · subst c32
                        have H1 : ((larchbase_SameValues.f kj15 t388 t395).bind fun t406 => (if (t401 == t406) = true then ((larchbase_SameObjects.f kj15 t377 l0).bind fun t407 => (if t407 = true then ((larchlaw16_works.f kj15).bind fun t408 => (some t408)) else (some false))) else (some false))) = some r := by rw [if_pos rfl] at H; exact H
                        clear H
                        have H := H1
                        clear H1
                        replace H := Option.bind_eq_some_iff.mp H
                        obtain ⟨t406, A330, H⟩ := H
                        replace H : (if (t401 == t406) = true then ((larchbase_SameObjects.f kj15 t377 l0).bind fun t407 => (if t407 = true then ((larchlaw16_works.f kj15).bind fun t408 => (some t408)) else (some false))) else (some false)) = some r := H
                        have A33 := Aside0.mk A330
                        clear A330
                        by_cases c34 : (t401 == t406) = true
                        · rw [if_pos c34] at H
                          have c34b0 : (t401 == t406) = true := c34
                          (try (have c34b1 : decide (t401 = t406) = true := by simpa using c34))
                          (try (have c34b2 : (t401 == t406) = true := by simpa using c34))
                          clear c34
                          replace H := Option.bind_eq_some_iff.mp H
                          obtain ⟨t407, A350, H⟩ := H
                          replace H : (if t407 = true then ((larchlaw16_works.f kj15).bind fun t408 => (some t408)) else (some false)) = some r := H
                          have A35 := Aside0.mk A350
                          clear A350
                          by_cases c36 : t407 = true
                          · subst c36
                            have H1 : ((larchlaw16_works.f kj15).bind fun t408 => (some t408)) = some r := by rw [if_pos rfl] at H; exact H
                            clear H
                            have H := H1
                            clear H1
                            replace H := Option.bind_eq_some_iff.mp H
                            obtain ⟨t408, A370, H⟩ := H
                            replace H : (some t408) = some r := H
                            have A37 := Aside0.mk A370
                            clear A370
                            obtain rfl := Option.some.inj H
                            obtain ⟨Ao38, co38, eo38⟩ := Kd.S_slice HO_10.out
                            subst eo38
                            obtain ⟨Ao39, co39, eo39⟩ := Kd.S_slice HO_13.out
                            subst eo39
                            go_wp2_with (first | ((with_reducible refine gate_callee (f := 16) rfl ?_); refine goesL_ (some 75) rfl rfl Try.func16 (by kernel_rfl) rfl #[.slice Ao38 t380.length co38, .slice Ao39 t387.length co39] rfl (by (try simp only [List.map_toArray, List.map_cons, List.map_nil]); first | done | rfl | (simp only [List.length_drop, List.length_take]; rfl)) ?_; (with_reducible refine (larchbase_SameObjects.calls kj15 _ _ t380 _ _ t387 true _ ?side1 ?side2 ?side3 ?side4 A24.out).mono ?_); (case side1 => repeat (first | exact (Kd.S_reads' HO_10.out).2.2 | (with_reducible refine Kd.C_alloc ?_ _) | (with_reducible refine Kd.C_drewN ?_ _) | (with_reducible refine Kd.C_drew ?_))); (case side2 => exact (Kd.S_reads' HO_10.out).2.1); (case side3 => repeat (first | exact (Kd.S_reads' HO_13.out).2.2 | (with_reducible refine Kd.C_alloc ?_ _) | (with_reducible refine Kd.C_drewN ?_ _) | (with_reducible refine Kd.C_drew ?_))); (case side4 => exact (Kd.S_reads' HO_13.out).2.1); rintro e w' ⟨rfl, ⟨nd, rfl⟩⟩; refine ⟨_, rfl, ?_⟩; obtain ⟨Ao40, co40, eo40⟩ := Kd.R_slice HO_11.out; subst eo40; obtain ⟨Ao41, co41, eo41⟩ := Kd.R_slice HO_14.out; subst eo41) | (go_at_call 23; (with_reducible refine (larchbase_SameValues.calls kj15 _ _ t381 _ _ t388 true _ ?side1 ?side2 ?side3 ?side4 A26.out).mono ?_); (case side1 => repeat (first | exact (Kd.R_reads' HO_11.out).2.2 | (with_reducible refine Kd.C_alloc ?_ _) | (with_reducible refine Kd.C_drewN ?_ _) | (with_reducible refine Kd.C_drew ?_))); (case side2 => exact (Kd.R_reads' HO_11.out).2.1); (case side3 => repeat (first | exact (Kd.R_reads' HO_14.out).2.2 | (with_reducible refine Kd.C_alloc ?_ _) | (with_reducible refine Kd.C_drewN ?_ _) | (with_reducible refine Kd.C_drew ?_))); (case side4 => exact (Kd.R_reads' HO_14.out).2.1); rintro e w' ⟨rfl, ⟨nd, rfl⟩⟩; obtain ⟨Ao42, co42, eo42⟩ := Kd.S_slice HO_16.out; subst eo42) | (go_at_call 16; (with_reducible refine (larchbase_SameObjects.calls kj15 _ _ t387 _ _ t394 true _ ?side1 ?side2 ?side3 ?side4 A31.out).mono ?_); (case side1 => repeat (first | exact (Kd.S_reads' HO_13.out).2.2 | (with_reducible refine Kd.C_alloc ?_ _) | (with_reducible refine Kd.C_drewN ?_ _) | (with_reducible refine Kd.C_drew ?_))); (case side2 => exact (Kd.S_reads' HO_13.out).2.1); (case side3 => repeat (first | exact (Kd.S_reads' HO_16.out).2.2 | (with_reducible refine Kd.C_alloc ?_ _) | (with_reducible refine Kd.C_drewN ?_ _) | (with_reducible refine Kd.C_drew ?_))); (case side4 => exact (Kd.S_reads' HO_16.out).2.1); rintro e w' ⟨rfl, ⟨nd, rfl⟩⟩; obtain ⟨Ao43, co43, eo43⟩ := Kd.R_slice HO_17.out; subst eo43) | (go_at_call 23; (with_reducible refine (larchbase_SameValues.calls kj15 _ _ t388 _ _ t395 t406 _ ?side1 ?side2 ?side3 ?side4 A33.out).mono ?_); (case side1 => repeat (first | exact (Kd.R_reads' HO_14.out).2.2 | (with_reducible refine Kd.C_alloc ?_ _) | (with_reducible refine Kd.C_drewN ?_ _) | (with_reducible refine Kd.C_drew ?_))); (case side2 => exact (Kd.R_reads' HO_14.out).2.1); (case side3 => repeat (first | exact (Kd.R_reads' HO_17.out).2.2 | (with_reducible refine Kd.C_alloc ?_ _) | (with_reducible refine Kd.C_drewN ?_ _) | (with_reducible refine Kd.C_drew ?_))); (case side4 => exact (Kd.R_reads' HO_17.out).2.1); rintro e w' ⟨rfl, ⟨nd, rfl⟩⟩) | (go_at_call 16; (with_reducible refine (larchbase_SameObjects.calls kj15 _ _ t377 _ _ l0 true _ ?side1 ?side2 ?side3 ?side4 A35.out).mono ?_); (case side1 => repeat (first | exact (Kd.S_reads' HO_9.out).2.2 | (with_reducible refine Kd.C_alloc ?_ _) | (with_reducible refine Kd.C_drewN ?_ _) | (with_reducible refine Kd.C_drew ?_))); (case side2 => exact (Kd.S_reads' HO_9.out).2.1); (case side3 => repeat (first | exact (Kd.C_below HR0.out (by repeat (first | (with_reducible first | exact HB.out | apply below_alloc | apply pw_below_drewN | apply below_drew1) | exact HB.out))) | (with_reducible refine Kd.C_alloc ?_ _) | (with_reducible refine Kd.C_drewN ?_ _) | (with_reducible refine Kd.C_drew ?_))); (case side4 => exact HC0.out); rintro e w' ⟨rfl, ⟨nd, rfl⟩⟩) | (go_at_call 17; (with_reducible refine (larchlaw16_works.calls kj15  t408 _ A37.out).mono ?_); rintro e w44 ⟨rfl, hb⟩; have n0_ := Aside0.mk (Kd.S_below (by (with_reducible repeat (first | apply Kd.S_alloc | apply Kd.S_drewN | apply Kd.S_drew)); exact HO_9.out) hb); have n1_ := Aside0.mk (Kd.S_below (by (with_reducible repeat (first | apply Kd.S_alloc | apply Kd.S_drewN | apply Kd.S_drew)); exact HO_10.out) hb); have n2_ := Aside0.mk (Kd.R_below (by (with_reducible repeat (first | apply Kd.R_alloc | apply Kd.R_drewN | apply Kd.R_drew)); exact HO_11.out) hb); have n3_ := Aside0.mk (Kd.S_below (by (with_reducible repeat (first | apply Kd.S_alloc | apply Kd.S_drewN | apply Kd.S_drew)); exact HO_13.out) hb); have n4_ := Aside0.mk (Kd.R_below (by (with_reducible repeat (first | apply Kd.R_alloc | apply Kd.R_drewN | apply Kd.R_drew)); exact HO_14.out) hb); have n5_ := Aside0.mk (Kd.S_below (by (with_reducible repeat (first | apply Kd.S_alloc | apply Kd.S_drewN | apply Kd.S_drew)); exact HO_16.out) hb); have n6_ := Aside0.mk (Kd.R_below (by (with_reducible repeat (first | apply Kd.R_alloc | apply Kd.R_drewN | apply Kd.R_drew)); exact HO_17.out) hb); have n7_ := Aside0.mk (below_step (by repeat (first | (with_reducible first | exact HB.out | apply below_alloc | apply pw_below_drewN | apply below_drew1) | exact HB.out)) hb); clear HO_9; clear HO_10; clear HO_11; clear HO_13; clear HO_14; clear HO_16; clear HO_17; clear HB; have HO_9 := n0_; have HO_10 := n1_; have HO_11 := n2_; have HO_13 := n3_; have HO_14 := n4_; have HO_16 := n5_; have HO_17 := n6_; have HB := n7_; clear n0_ n1_ n2_ n3_ n4_ n5_ n6_ n7_; (try clear hb); (try clear hb2); (try clear hk); (try clear hi)))
                            go_ret
                            exact ⟨by first | rfl | (simp [errW_none, errW_some] <;> rfl) | (simp [*, errW_none, errW_some] <;> rfl), by repeat (first | (with_reducible first | exact HB.out | apply below_alloc | apply pw_below_drewN | apply below_drew1) | exact HB.out)⟩
                          · replace c36 := Bool.eq_false_iff.mpr c36
                            subst c36
                            have H1 : (some false) = some r := by rw [if_neg (show ¬ (false = true) by decide)] at H; exact H
                            exact absurd (H1.trans (congrArg some hrt.out)) (by simp)
                        · rw [if_neg c34] at H
                          exact absurd (H.trans (congrArg some hrt.out)) (by simp)
                      · replace c32 := Bool.eq_false_iff.mpr c32
                        subst c32
                        have H1 : (if (t401 == false) = true then ((larchbase_SameObjects.f kj15 t377 l0).bind fun t409 => (if t409 = true then ((larchlaw16_works.f kj15).bind fun t410 => (some t410)) else (some false))) else (some false)) = some r := by rw [if_neg (show ¬ (false = true) by decide)] at H; exact H
                        clear H
                        have H := H1
                        clear H1
                        by_cases c57 : (t401 == false) = true
                        · rw [if_pos c57] at H
                          have c57b0 : (t401 == false) = true := c57
                          (try (have c57b1 : decide (t401 = false) = true := by simpa using c57))
                          (try (have c57b2 : (t401 == false) = true := by simpa using c57))
                          clear c57
                          replace H := Option.bind_eq_some_iff.mp H
                          obtain ⟨t409, A580, H⟩ := H
                          replace H : (if t409 = true then ((larchlaw16_works.f kj15).bind fun t410 => (some t410)) else (some false)) = some r := H
                          have A58 := Aside0.mk A580
                          clear A580
                          by_cases c59 : t409 = true
                          · subst c59
                            have H1 : ((larchlaw16_works.f kj15).bind fun t410 => (some t410)) = some r := by rw [if_pos rfl] at H; exact H
                            clear H
                            have H := H1
                            clear H1
                            replace H := Option.bind_eq_some_iff.mp H
                            obtain ⟨t410, A600, H⟩ := H
                            replace H : (some t410) = some r := H
                            have A60 := Aside0.mk A600
                            clear A600
                            obtain rfl := Option.some.inj H
                            obtain ⟨Ao61, co61, eo61⟩ := Kd.S_slice HO_10.out
                            subst eo61
                            obtain ⟨Ao62, co62, eo62⟩ := Kd.S_slice HO_13.out
                            subst eo62
                            go_wp2_with (first | ((with_reducible refine gate_callee (f := 16) rfl ?_); refine goesL_ (some 75) rfl rfl Try.func16 (by kernel_rfl) rfl #[.slice Ao61 t380.length co61, .slice Ao62 t387.length co62] rfl (by (try simp only [List.map_toArray, List.map_cons, List.map_nil]); first | done | rfl | (simp only [List.length_drop, List.length_take]; rfl)) ?_; (with_reducible refine (larchbase_SameObjects.calls kj15 _ _ t380 _ _ t387 true _ ?side1 ?side2 ?side3 ?side4 A24.out).mono ?_); (case side1 => repeat (first | exact (Kd.S_reads' HO_10.out).2.2 | (with_reducible refine Kd.C_alloc ?_ _) | (with_reducible refine Kd.C_drewN ?_ _) | (with_reducible refine Kd.C_drew ?_))); (case side2 => exact (Kd.S_reads' HO_10.out).2.1); (case side3 => repeat (first | exact (Kd.S_reads' HO_13.out).2.2 | (with_reducible refine Kd.C_alloc ?_ _) | (with_reducible refine Kd.C_drewN ?_ _) | (with_reducible refine Kd.C_drew ?_))); (case side4 => exact (Kd.S_reads' HO_13.out).2.1); rintro e w' ⟨rfl, ⟨nd, rfl⟩⟩; refine ⟨_, rfl, ?_⟩; obtain ⟨Ao63, co63, eo63⟩ := Kd.R_slice HO_11.out; subst eo63; obtain ⟨Ao64, co64, eo64⟩ := Kd.R_slice HO_14.out; subst eo64) | (go_at_call 23; (with_reducible refine (larchbase_SameValues.calls kj15 _ _ t381 _ _ t388 true _ ?side1 ?side2 ?side3 ?side4 A26.out).mono ?_); (case side1 => repeat (first | exact (Kd.R_reads' HO_11.out).2.2 | (with_reducible refine Kd.C_alloc ?_ _) | (with_reducible refine Kd.C_drewN ?_ _) | (with_reducible refine Kd.C_drew ?_))); (case side2 => exact (Kd.R_reads' HO_11.out).2.1); (case side3 => repeat (first | exact (Kd.R_reads' HO_14.out).2.2 | (with_reducible refine Kd.C_alloc ?_ _) | (with_reducible refine Kd.C_drewN ?_ _) | (with_reducible refine Kd.C_drew ?_))); (case side4 => exact (Kd.R_reads' HO_14.out).2.1); rintro e w' ⟨rfl, ⟨nd, rfl⟩⟩; obtain ⟨Ao65, co65, eo65⟩ := Kd.S_slice HO_16.out; subst eo65) | (go_at_call 16; (with_reducible refine (larchbase_SameObjects.calls kj15 _ _ t387 _ _ t394 false _ ?side1 ?side2 ?side3 ?side4 A31.out).mono ?_); (case side1 => repeat (first | exact (Kd.S_reads' HO_13.out).2.2 | (with_reducible refine Kd.C_alloc ?_ _) | (with_reducible refine Kd.C_drewN ?_ _) | (with_reducible refine Kd.C_drew ?_))); (case side2 => exact (Kd.S_reads' HO_13.out).2.1); (case side3 => repeat (first | exact (Kd.S_reads' HO_16.out).2.2 | (with_reducible refine Kd.C_alloc ?_ _) | (with_reducible refine Kd.C_drewN ?_ _) | (with_reducible refine Kd.C_drew ?_))); (case side4 => exact (Kd.S_reads' HO_16.out).2.1); rintro e w' ⟨rfl, ⟨nd, rfl⟩⟩) | (go_at_call 16; (with_reducible refine (larchbase_SameObjects.calls kj15 _ _ t377 _ _ l0 true _ ?side1 ?side2 ?side3 ?side4 A58.out).mono ?_); (case side1 => repeat (first | exact (Kd.S_reads' HO_9.out).2.2 | (with_reducible refine Kd.C_alloc ?_ _) | (with_reducible refine Kd.C_drewN ?_ _) | (with_reducible refine Kd.C_drew ?_))); (case side2 => exact (Kd.S_reads' HO_9.out).2.1); (case side3 => repeat (first | exact (Kd.C_below HR0.out (by repeat (first | (with_reducible first | exact HB.out | apply below_alloc | apply pw_below_drewN | apply below_drew1) | exact HB.out))) | (with_reducible refine Kd.C_alloc ?_ _) | (with_reducible refine Kd.C_drewN ?_ _) | (with_reducible refine Kd.C_drew ?_))); (case side4 => exact HC0.out); rintro e w' ⟨rfl, ⟨nd, rfl⟩⟩) | (go_at_call 17; (with_reducible refine (larchlaw16_works.calls kj15  t410 _ A60.out).mono ?_); rintro e w66 ⟨rfl, hb⟩; have n0_ := Aside0.mk (Kd.S_below (by (with_reducible repeat (first | apply Kd.S_alloc | apply Kd.S_drewN | apply Kd.S_drew)); exact HO_9.out) hb); have n1_ := Aside0.mk (Kd.S_below (by (with_reducible repeat (first | apply Kd.S_alloc | apply Kd.S_drewN | apply Kd.S_drew)); exact HO_10.out) hb); have n2_ := Aside0.mk (Kd.R_below (by (with_reducible repeat (first | apply Kd.R_alloc | apply Kd.R_drewN | apply Kd.R_drew)); exact HO_11.out) hb); have n3_ := Aside0.mk (Kd.S_below (by (with_reducible repeat (first | apply Kd.S_alloc | apply Kd.S_drewN | apply Kd.S_drew)); exact HO_13.out) hb); have n4_ := Aside0.mk (Kd.R_below (by (with_reducible repeat (first | apply Kd.R_alloc | apply Kd.R_drewN | apply Kd.R_drew)); exact HO_14.out) hb); have n5_ := Aside0.mk (Kd.S_below (by (with_reducible repeat (first | apply Kd.S_alloc | apply Kd.S_drewN | apply Kd.S_drew)); exact HO_16.out) hb); have n6_ := Aside0.mk (Kd.R_below (by (with_reducible repeat (first | apply Kd.R_alloc | apply Kd.R_drewN | apply Kd.R_drew)); exact HO_17.out) hb); have n7_ := Aside0.mk (below_step (by repeat (first | (with_reducible first | exact HB.out | apply below_alloc | apply pw_below_drewN | apply below_drew1) | exact HB.out)) hb); clear HO_9; clear HO_10; clear HO_11; clear HO_13; clear HO_14; clear HO_16; clear HO_17; clear HB; have HO_9 := n0_; have HO_10 := n1_; have HO_11 := n2_; have HO_13 := n3_; have HO_14 := n4_; have HO_16 := n5_; have HO_17 := n6_; have HB := n7_; clear n0_ n1_ n2_ n3_ n4_ n5_ n6_ n7_; (try clear hb); (try clear hb2); (try clear hk); (try clear hi)))
                            go_ret
                            exact ⟨by first | rfl | (simp [errW_none, errW_some] <;> rfl) | (simp [*, errW_none, errW_some] <;> rfl), by repeat (first | (with_reducible first | exact HB.out | apply below_alloc | apply pw_below_drewN | apply below_drew1) | exact HB.out)⟩
                          · replace c59 := Bool.eq_false_iff.mpr c59
                            subst c59
                            have H1 : (some false) = some r := by rw [if_neg (show ¬ (false = true) by decide)] at H; exact H
                            exact absurd (H1.trans (congrArg some hrt.out)) (by simp)
                        · rw [if_neg c57] at H
                          exact absurd (H.trans (congrArg some hrt.out)) (by simp)
                    · rw [if_neg c30] at H
                      have c30b0 : (x21_15 == 0) = false := beq_eq_false_iff_ne.mpr c30
                      have c30b1 : (x21_15 != 0) = true := bne_iff_ne.mpr c30
                      by_cases c77 : (t401 == false) = true
                      · rw [if_pos c77] at H
                        have c77b0 : (t401 == false) = true := c77
                        (try (have c77b1 : decide (t401 = false) = true := by simpa using c77))
                        (try (have c77b2 : (t401 == false) = true := by simpa using c77))
                        clear c77
                        replace H := Option.bind_eq_some_iff.mp H
                        obtain ⟨t411, A780, H⟩ := H
                        replace H : (if t411 = true then ((larchlaw16_works.f kj15).bind fun t412 => (some t412)) else (some false)) = some r := H
                        have A78 := Aside0.mk A780
                        clear A780
                        by_cases c79 : t411 = true
                        · subst c79
                          have H1 : ((larchlaw16_works.f kj15).bind fun t412 => (some t412)) = some r := by rw [if_pos rfl] at H; exact H
                          clear H
                          have H := H1
                          clear H1
                          replace H := Option.bind_eq_some_iff.mp H
                          obtain ⟨t412, A800, H⟩ := H
                          replace H : (some t412) = some r := H
                          have A80 := Aside0.mk A800
                          clear A800
                          obtain rfl := Option.some.inj H
                          obtain ⟨Ao81, co81, eo81⟩ := Kd.S_slice HO_10.out
                          subst eo81
                          obtain ⟨Ao82, co82, eo82⟩ := Kd.S_slice HO_13.out
                          subst eo82
                          go_wp2_with (first | ((with_reducible refine gate_callee (f := 16) rfl ?_); refine goesL_ (some 75) rfl rfl Try.func16 (by kernel_rfl) rfl #[.slice Ao81 t380.length co81, .slice Ao82 t387.length co82] rfl (by (try simp only [List.map_toArray, List.map_cons, List.map_nil]); first | done | rfl | (simp only [List.length_drop, List.length_take]; rfl)) ?_; (with_reducible refine (larchbase_SameObjects.calls kj15 _ _ t380 _ _ t387 true _ ?side1 ?side2 ?side3 ?side4 A24.out).mono ?_); (case side1 => repeat (first | exact (Kd.S_reads' HO_10.out).2.2 | (with_reducible refine Kd.C_alloc ?_ _) | (with_reducible refine Kd.C_drewN ?_ _) | (with_reducible refine Kd.C_drew ?_))); (case side2 => exact (Kd.S_reads' HO_10.out).2.1); (case side3 => repeat (first | exact (Kd.S_reads' HO_13.out).2.2 | (with_reducible refine Kd.C_alloc ?_ _) | (with_reducible refine Kd.C_drewN ?_ _) | (with_reducible refine Kd.C_drew ?_))); (case side4 => exact (Kd.S_reads' HO_13.out).2.1); rintro e w' ⟨rfl, ⟨nd, rfl⟩⟩; refine ⟨_, rfl, ?_⟩; obtain ⟨Ao83, co83, eo83⟩ := Kd.R_slice HO_11.out; subst eo83; obtain ⟨Ao84, co84, eo84⟩ := Kd.R_slice HO_14.out; subst eo84) | (go_at_call 23; (with_reducible refine (larchbase_SameValues.calls kj15 _ _ t381 _ _ t388 true _ ?side1 ?side2 ?side3 ?side4 A26.out).mono ?_); (case side1 => repeat (first | exact (Kd.R_reads' HO_11.out).2.2 | (with_reducible refine Kd.C_alloc ?_ _) | (with_reducible refine Kd.C_drewN ?_ _) | (with_reducible refine Kd.C_drew ?_))); (case side2 => exact (Kd.R_reads' HO_11.out).2.1); (case side3 => repeat (first | exact (Kd.R_reads' HO_14.out).2.2 | (with_reducible refine Kd.C_alloc ?_ _) | (with_reducible refine Kd.C_drewN ?_ _) | (with_reducible refine Kd.C_drew ?_))); (case side4 => exact (Kd.R_reads' HO_14.out).2.1); rintro e w' ⟨rfl, ⟨nd, rfl⟩⟩) | (go_at_call 16; (with_reducible refine (larchbase_SameObjects.calls kj15 _ _ t377 _ _ l0 true _ ?side1 ?side2 ?side3 ?side4 A78.out).mono ?_); (case side1 => repeat (first | exact (Kd.S_reads' HO_9.out).2.2 | (with_reducible refine Kd.C_alloc ?_ _) | (with_reducible refine Kd.C_drewN ?_ _) | (with_reducible refine Kd.C_drew ?_))); (case side2 => exact (Kd.S_reads' HO_9.out).2.1); (case side3 => repeat (first | exact (Kd.C_below HR0.out (by repeat (first | (with_reducible first | exact HB.out | apply below_alloc | apply pw_below_drewN | apply below_drew1) | exact HB.out))) | (with_reducible refine Kd.C_alloc ?_ _) | (with_reducible refine Kd.C_drewN ?_ _) | (with_reducible refine Kd.C_drew ?_))); (case side4 => exact HC0.out); rintro e w' ⟨rfl, ⟨nd, rfl⟩⟩) | (go_at_call 17; (with_reducible refine (larchlaw16_works.calls kj15  t412 _ A80.out).mono ?_); rintro e w85 ⟨rfl, hb⟩; have n0_ := Aside0.mk (Kd.S_below (by (with_reducible repeat (first | apply Kd.S_alloc | apply Kd.S_drewN | apply Kd.S_drew)); exact HO_9.out) hb); have n1_ := Aside0.mk (Kd.S_below (by (with_reducible repeat (first | apply Kd.S_alloc | apply Kd.S_drewN | apply Kd.S_drew)); exact HO_10.out) hb); have n2_ := Aside0.mk (Kd.R_below (by (with_reducible repeat (first | apply Kd.R_alloc | apply Kd.R_drewN | apply Kd.R_drew)); exact HO_11.out) hb); have n3_ := Aside0.mk (Kd.S_below (by (with_reducible repeat (first | apply Kd.S_alloc | apply Kd.S_drewN | apply Kd.S_drew)); exact HO_13.out) hb); have n4_ := Aside0.mk (Kd.R_below (by (with_reducible repeat (first | apply Kd.R_alloc | apply Kd.R_drewN | apply Kd.R_drew)); exact HO_14.out) hb); have n5_ := Aside0.mk (Kd.S_below (by (with_reducible repeat (first | apply Kd.S_alloc | apply Kd.S_drewN | apply Kd.S_drew)); exact HO_16.out) hb); have n6_ := Aside0.mk (Kd.R_below (by (with_reducible repeat (first | apply Kd.R_alloc | apply Kd.R_drewN | apply Kd.R_drew)); exact HO_17.out) hb); have n7_ := Aside0.mk (below_step (by repeat (first | (with_reducible first | exact HB.out | apply below_alloc | apply pw_below_drewN | apply below_drew1) | exact HB.out)) hb); clear HO_9; clear HO_10; clear HO_11; clear HO_13; clear HO_14; clear HO_16; clear HO_17; clear HB; have HO_9 := n0_; have HO_10 := n1_; have HO_11 := n2_; have HO_13 := n3_; have HO_14 := n4_; have HO_16 := n5_; have HO_17 := n6_; have HB := n7_; clear n0_ n1_ n2_ n3_ n4_ n5_ n6_ n7_; (try clear hb); (try clear hb2); (try clear hk); (try clear hi)))
                          go_ret
                          exact ⟨by first | rfl | (simp [errW_none, errW_some] <;> rfl) | (simp [*, errW_none, errW_some] <;> rfl), by repeat (first | (with_reducible first | exact HB.out | apply below_alloc | apply pw_below_drewN | apply below_drew1) | exact HB.out)⟩
                        · replace c79 := Bool.eq_false_iff.mpr c79
                          subst c79
                          have H1 : (some false) = some r := by rw [if_neg (show ¬ (false = true) by decide)] at H; exact H
                          exact absurd (H1.trans (congrArg some hrt.out)) (by simp)
                      · rw [if_neg c77] at H
                        exact absurd (H.trans (congrArg some hrt.out)) (by simp)
                  · rw [if_neg c29] at H
                    exact absurd (H.trans (congrArg some hrt.out)) (by simp)
                · rw [if_neg c28] at H
                  exact absurd (H.trans (congrArg some hrt.out)) (by simp)
              · replace c27 := Bool.eq_false_iff.mpr c27
                subst c27
                have H1 : (some false) = some r := by rw [if_neg (show ¬ (false = true) by decide)] at H; exact H
                exact absurd (H1.trans (congrArg some hrt.out)) (by simp)
            · replace c25 := Bool.eq_false_iff.mpr c25
              subst c25
              have H1 : (some false) = some r := by rw [if_neg (show ¬ (false = true) by decide)] at H; exact H
              exact absurd (H1.trans (congrArg some hrt.out)) (by simp)
end Go.Proofs.Ytonkfcfpfpaceaa.A.P
