/- Printed by a program of this session out of the kit's print: functions of the law as plain Lean functions, and their walks. -/
import Derived.Test.YticpjpacoeecmaaAx0
import Derived.Test.YticpjpacoeecmaaAx1
import Derived.Test.YticpjpacoeecmaaAx4
import Derived.Test.YticpjpacoeecmaaAx5
import Derived.Test.YticpjpacoeecmaaAx8
import Derived.Test.YticpjpacoeecmaaAx9
import Derived.Test.YticpjpacoeecmaaAx10
import Derived.Test.YticpjpacoeecmaaH2
namespace Go.Proofs.Yticpjpacoeecmaa.A.P
open Go.RowKit Go.Proofs.YticpjpacoeecmaaW.PrintWords Go.Proofs.YticpjpacoeecmaaW.PrintLast Go.Proofs.YticpjpacoeecmaaW.PrintMore
attribute [local go_sem] max2_int min2_int max_two min_two max_three min_three max_four min_four   -- for this text's walks alone
set_option linter.unusedVariables false
set_option linter.unusedSimpArgs false

/-! ### larchlaw15_HeapFrees: function 7 -/
mutual
def larchlaw15_HeapFrees.j0 : Nat → List (S40) → Int → Bool → Option (Bool)
  | 0, _, _, _ => none
  | k + 1, x0, x1, x28 => if x28 = true then (some true) else ((heap_Get.f x0 x1).bind fun bt419 => ((heap_Free.f k x0 x1).bind fun bt425 => (if bt419.2.2 = bt425.2 then (larchlaw15_HeapFrees.j1 k x1 bt419.2.2 bt425.1 bt425.2 (bt419.2.2 != 0) bt419.1 bt419.2.1) else (larchlaw15_HeapFrees.j1 k x1 bt419.2.2 bt425.1 bt425.2 true bt419.1 bt419.2.1))))
def larchlaw15_HeapFrees.j1 : Nat → Int → Int → List (S40) → Int → Bool → ByteArray → List (S24) → Option (Bool)
  | 0, _, _, _, _, _, _, _ => none
  | k + 1, x1, x6, x7, x8, x47, x425000, x425001 => if x47 = true then (if x6 = x8 then (some ((x7.length : Int) == 0)) else (some false)) else ((heap_Get.f x7 x1).bind fun bt429 => ((heap_Live.f k x7).bind fun t435 => (larchlaw15_HeapFrees.l0 k x1 x7 bt429.2.2 t435 1 0 x425000 x425001)))
def larchlaw15_HeapFrees.j3 : Nat → Int → List (S40) → Int → Int → ByteArray → List (S24) → Option (Bool)
  | 0, _, _, _, _, _, _ => none
  | k + 1, x1, x7, x10, x12, x425000, x425001 => (heap_Put.f k x7 x425000 x425001).bind fun bt439 => ((heap_Get.f bt439.1 bt439.2.1).bind fun bt444 => (if x10 = 150 then ((heap_Check.f x7).bind fun t450 => (if t450 = 0 then (if bt439.2.2 = 0 then (if bt439.2.1 = x12 then (if bt439.2.1 ≤ x1 then (if bt444.2.2 = 0 then ((larchbase_SameObjects.f k (([(⟨x425000, x425001⟩ : S40)] : List (S40))) (([(⟨bt444.1, bt444.2.1⟩ : S40)] : List (S40)))).bind fun t457 => (some t457)) else (some false)) else (some false)) else (some false)) else (some false)) else (some false))) else (some false)))
def larchlaw15_HeapFrees.l0 : Nat → Int → List (S40) → Int → List Int → Int → Int → ByteArray → List (S24) → Option (Bool)
  | 0, _, _, _, _, _, _, _, _ => none
  | k + 1, x1, x7, x10, x11, x12, x13, x425000, x425001 => if x13 < (x11.length : Int) then (if 0 ≤ x13 then (if (rd x11 x13) = x12 then (larchlaw15_HeapFrees.l0 k x1 x7 x10 x11 (wrap64 (x12 + 1)) (wrap64 (x13 + 1)) x425000 x425001) else (larchlaw15_HeapFrees.j3 k x1 x7 x10 x12 x425000 x425001)) else (none)) else (larchlaw15_HeapFrees.j3 k x1 x7 x10 x12 x425000 x425001)
end
def larchlaw15_HeapFrees.f (k : Nat) (l0 : List (S40)) (a1 : Int) : Option (Bool) := (larchlaw15_works.f k).bind fun t417 => (if t417 = true then ((larchlaw15_light.f k l0).bind fun t418 => (if t418 = true then (larchlaw15_HeapFrees.j0 k l0 a1 (decide ((l0.length : Int) > 300))) else (larchlaw15_HeapFrees.j0 k l0 a1 true))) else (some false))
theorem larchlaw15_HeapFrees.mono_l : ∀ k, (∀ y0 y1 y2, LeO (larchlaw15_HeapFrees.j0 k y0 y1 y2) (larchlaw15_HeapFrees.j0 (k + 1) y0 y1 y2)) ∧ (∀ y0 y1 y2 y3 y4 y5 y6, LeO (larchlaw15_HeapFrees.j1 k y0 y1 y2 y3 y4 y5 y6) (larchlaw15_HeapFrees.j1 (k + 1) y0 y1 y2 y3 y4 y5 y6)) ∧ (∀ y0 y1 y2 y3 y4 y5, LeO (larchlaw15_HeapFrees.j3 k y0 y1 y2 y3 y4 y5) (larchlaw15_HeapFrees.j3 (k + 1) y0 y1 y2 y3 y4 y5)) ∧ (∀ y0 y1 y2 y3 y4 y5 y6 y7, LeO (larchlaw15_HeapFrees.l0 k y0 y1 y2 y3 y4 y5 y6 y7) (larchlaw15_HeapFrees.l0 (k + 1) y0 y1 y2 y3 y4 y5 y6 y7))
  | 0 => ⟨fun _ _ _ r h => by simp [larchlaw15_HeapFrees.j0] at h, fun _ _ _ _ _ _ _ r h => by simp [larchlaw15_HeapFrees.j1] at h, fun _ _ _ _ _ _ r h => by simp [larchlaw15_HeapFrees.j3] at h, fun _ _ _ _ _ _ _ _ r h => by simp [larchlaw15_HeapFrees.l0] at h⟩
  | k + 1 => by
    obtain ⟨ih0, ih1, ih2, ih3⟩ := larchlaw15_HeapFrees.mono_l k
    refine ⟨?_, ?_, ?_, ?_⟩
    · intro y0 y1 y2
      unfold larchlaw15_HeapFrees.j0
      repeat' first
      | (with_reducible exact ih0 _ _ _)
      | (with_reducible exact ih1 _ _ _ _ _ _ _)
      | (with_reducible exact ih2 _ _ _ _ _ _)
      | (with_reducible exact ih3 _ _ _ _ _ _ _ _)
      | (with_reducible exact heap_Free.mono _ _ _)
      | (with_reducible exact heap_Live.mono _ _)
      | (with_reducible exact heap_Put.mono _ _ _ _)
      | (with_reducible exact larchbase_SameObjects.mono _ _ _)
      | (with_reducible exact larchlaw15_light.mono _ _)
      | (with_reducible exact larchlaw15_works.mono _)
      | (with_reducible exact LeO.refl _)
      | (with_reducible exact LeO.none _)
      | (with_reducible refine LeO.ite ?_ ?_)
      | (with_reducible refine LeO.bind ?_ (fun _ => ?_))
      | exact ih0 _ _ _
      | exact ih1 _ _ _ _ _ _ _
      | exact ih2 _ _ _ _ _ _
      | exact ih3 _ _ _ _ _ _ _ _
      | exact heap_Free.mono _ _ _
      | exact heap_Live.mono _ _
      | exact heap_Put.mono _ _ _ _
      | exact larchbase_SameObjects.mono _ _ _
      | exact larchlaw15_light.mono _ _
      | exact larchlaw15_works.mono _
      | exact LeO.none _
      | refine LeO.ite ?_ ?_
      | refine LeO.bind ?_ (fun _ => ?_)
    · intro y0 y1 y2 y3 y4 y5 y6
      unfold larchlaw15_HeapFrees.j1
      repeat' first
      | (with_reducible exact ih0 _ _ _)
      | (with_reducible exact ih1 _ _ _ _ _ _ _)
      | (with_reducible exact ih2 _ _ _ _ _ _)
      | (with_reducible exact ih3 _ _ _ _ _ _ _ _)
      | (with_reducible exact heap_Free.mono _ _ _)
      | (with_reducible exact heap_Live.mono _ _)
      | (with_reducible exact heap_Put.mono _ _ _ _)
      | (with_reducible exact larchbase_SameObjects.mono _ _ _)
      | (with_reducible exact larchlaw15_light.mono _ _)
      | (with_reducible exact larchlaw15_works.mono _)
      | (with_reducible exact LeO.refl _)
      | (with_reducible exact LeO.none _)
      | (with_reducible refine LeO.ite ?_ ?_)
      | (with_reducible refine LeO.bind ?_ (fun _ => ?_))
      | exact ih0 _ _ _
      | exact ih1 _ _ _ _ _ _ _
      | exact ih2 _ _ _ _ _ _
      | exact ih3 _ _ _ _ _ _ _ _
      | exact heap_Free.mono _ _ _
      | exact heap_Live.mono _ _
      | exact heap_Put.mono _ _ _ _
      | exact larchbase_SameObjects.mono _ _ _
      | exact larchlaw15_light.mono _ _
      | exact larchlaw15_works.mono _
      | exact LeO.none _
      | refine LeO.ite ?_ ?_
      | refine LeO.bind ?_ (fun _ => ?_)
    · intro y0 y1 y2 y3 y4 y5
      unfold larchlaw15_HeapFrees.j3
      repeat' first
      | (with_reducible exact ih0 _ _ _)
      | (with_reducible exact ih1 _ _ _ _ _ _ _)
      | (with_reducible exact ih2 _ _ _ _ _ _)
      | (with_reducible exact ih3 _ _ _ _ _ _ _ _)
      | (with_reducible exact heap_Free.mono _ _ _)
      | (with_reducible exact heap_Live.mono _ _)
      | (with_reducible exact heap_Put.mono _ _ _ _)
      | (with_reducible exact larchbase_SameObjects.mono _ _ _)
      | (with_reducible exact larchlaw15_light.mono _ _)
      | (with_reducible exact larchlaw15_works.mono _)
      | (with_reducible exact LeO.refl _)
      | (with_reducible exact LeO.none _)
      | (with_reducible refine LeO.ite ?_ ?_)
      | (with_reducible refine LeO.bind ?_ (fun _ => ?_))
      | exact ih0 _ _ _
      | exact ih1 _ _ _ _ _ _ _
      | exact ih2 _ _ _ _ _ _
      | exact ih3 _ _ _ _ _ _ _ _
      | exact heap_Free.mono _ _ _
      | exact heap_Live.mono _ _
      | exact heap_Put.mono _ _ _ _
      | exact larchbase_SameObjects.mono _ _ _
      | exact larchlaw15_light.mono _ _
      | exact larchlaw15_works.mono _
      | exact LeO.none _
      | refine LeO.ite ?_ ?_
      | refine LeO.bind ?_ (fun _ => ?_)
    · intro y0 y1 y2 y3 y4 y5 y6 y7
      unfold larchlaw15_HeapFrees.l0
      repeat' first
      | (with_reducible exact ih0 _ _ _)
      | (with_reducible exact ih1 _ _ _ _ _ _ _)
      | (with_reducible exact ih2 _ _ _ _ _ _)
      | (with_reducible exact ih3 _ _ _ _ _ _ _ _)
      | (with_reducible exact heap_Free.mono _ _ _)
      | (with_reducible exact heap_Live.mono _ _)
      | (with_reducible exact heap_Put.mono _ _ _ _)
      | (with_reducible exact larchbase_SameObjects.mono _ _ _)
      | (with_reducible exact larchlaw15_light.mono _ _)
      | (with_reducible exact larchlaw15_works.mono _)
      | (with_reducible exact LeO.refl _)
      | (with_reducible exact LeO.none _)
      | (with_reducible refine LeO.ite ?_ ?_)
      | (with_reducible refine LeO.bind ?_ (fun _ => ?_))
      | exact ih0 _ _ _
      | exact ih1 _ _ _ _ _ _ _
      | exact ih2 _ _ _ _ _ _
      | exact ih3 _ _ _ _ _ _ _ _
      | exact heap_Free.mono _ _ _
      | exact heap_Live.mono _ _
      | exact heap_Put.mono _ _ _ _
      | exact larchbase_SameObjects.mono _ _ _
      | exact larchlaw15_light.mono _ _
      | exact larchlaw15_works.mono _
      | exact LeO.none _
      | refine LeO.ite ?_ ?_
      | refine LeO.bind ?_ (fun _ => ?_)
theorem larchlaw15_HeapFrees.mono : ∀ a0 a1 k, LeO (larchlaw15_HeapFrees.f k a0 a1) (larchlaw15_HeapFrees.f (k + 1) a0 a1) := by
  intro a0 a1 k
  obtain ⟨ih0, ih1, ih2, ih3⟩ := larchlaw15_HeapFrees.mono_l k
  unfold larchlaw15_HeapFrees.f
  repeat' first
      | (with_reducible exact ih0 _ _ _)
      | (with_reducible exact ih1 _ _ _ _ _ _ _)
      | (with_reducible exact ih2 _ _ _ _ _ _)
      | (with_reducible exact ih3 _ _ _ _ _ _ _ _)
      | (with_reducible exact heap_Free.mono _ _ _)
      | (with_reducible exact heap_Live.mono _ _)
      | (with_reducible exact heap_Put.mono _ _ _ _)
      | (with_reducible exact larchbase_SameObjects.mono _ _ _)
      | (with_reducible exact larchlaw15_light.mono _ _)
      | (with_reducible exact larchlaw15_works.mono _)
      | (with_reducible exact LeO.refl _)
      | (with_reducible exact LeO.none _)
      | (with_reducible refine LeO.ite ?_ ?_)
      | (with_reducible refine LeO.bind ?_ (fun _ => ?_))
      | exact ih0 _ _ _
      | exact ih1 _ _ _ _ _ _ _
      | exact ih2 _ _ _ _ _ _
      | exact ih3 _ _ _ _ _ _ _ _
      | exact heap_Free.mono _ _ _
      | exact heap_Live.mono _ _
      | exact heap_Put.mono _ _ _ _
      | exact larchbase_SameObjects.mono _ _ _
      | exact larchlaw15_light.mono _ _
      | exact larchlaw15_works.mono _
      | exact LeO.none _
      | refine LeO.ite ?_ ?_
      | refine LeO.bind ?_ (fun _ => ?_)
set_option maxHeartbeats 8000000 in
set_option maxRecDepth 100000 in
theorem larchlaw15_HeapFrees.calls (k : Nat) (A0 : Option Addr) (c0 : Nat) (l0 : List (S40)) (a1 : Int) (r : Bool) (hrt : Aside0 (r = true)) (w : World) (hr0 : Kd.C k40 w A0 l0.length l0) (hc0 : l0.length ≤ c0) (h : larchlaw15_HeapFrees.f k l0 a1 = some r) :
    Calls Try.prog 7 #[.slice A0 l0.length c0, .int .i64 a1] w fun e w' => e = .returned (.bool r) ∧ Below w.heap.size w w' := by
  have hu40 := Try.underlying40
  have HR0 := Aside0.mk hr0
  have HC0 := Aside0.mk hc0
  clear hr0 hc0
  have HB := Aside0.mk (Below.refl w.heap.size w)
  have H : ((larchlaw15_works.f k).bind fun t417 => (if t417 = true then ((larchlaw15_light.f k l0).bind fun t418 => (if t418 = true then (larchlaw15_HeapFrees.j0 k l0 a1 (decide ((l0.length : Int) > 300))) else (larchlaw15_HeapFrees.j0 k l0 a1 true))) else (some false))) = some r := h
  clear h
  replace H := Option.bind_eq_some_iff.mp H
  obtain ⟨t417, A30, H⟩ := H
  replace H : (if t417 = true then ((larchlaw15_light.f k l0).bind fun t418 => (if t418 = true then (larchlaw15_HeapFrees.j0 k l0 a1 (decide ((l0.length : Int) > 300))) else (larchlaw15_HeapFrees.j0 k l0 a1 true))) else (some false)) = some r := H
  have A3 := Aside0.mk A30
  clear A30
  by_cases c4 : t417 = true
  · subst c4
    have H1 : ((larchlaw15_light.f k l0).bind fun t418 => (if t418 = true then (larchlaw15_HeapFrees.j0 k l0 a1 (decide ((l0.length : Int) > 300))) else (larchlaw15_HeapFrees.j0 k l0 a1 true))) = some r := by rw [if_pos rfl] at H; exact H
    clear H
    have H := H1
    clear H1
    have HC5 := Aside0.mk H
    clear H
    go_enter Try.func7, Try.ntmps7
    go_upto_region 3 with (first | ((with_reducible refine gate_callee (f := 16) rfl ?_); refine goesL_ (some 19) rfl rfl Try.func16 (by kernel_rfl) rfl #[] rfl (by (try simp only [List.map_toArray, List.map_cons, List.map_nil]); first | done | rfl | (simp only [List.length_drop, List.length_take]; rfl)) ?_; (with_reducible refine (larchlaw15_works.calls k true ⟨rfl⟩ _ A3.out).mono ?_); rintro e w6 ⟨rfl, hb⟩; refine ⟨_, rfl, ?_⟩; have n0_ := Aside0.mk (below_step (by repeat (first | (with_reducible first | exact HB.out | apply below_alloc | apply pw_below_drewN | apply below_drew1) | exact HB.out)) hb); clear HB; have HB := n0_; clear n0_; (try clear hb); (try clear hb2); (try clear hk); (try clear hi)))
    (try simp only [Act.put, List.setIfInBounds_toArray, List.set_cons_zero, List.set_cons_succ])
    go_cut [28] (fun v28 wc => ∃ (kq : Nat) (x28_4 : Bool), v28 = .bool x28_4 ∧ Aside0 (larchlaw15_HeapFrees.j0 kq l0 a1 x28_4 = some r) ∧ Aside0 (kq ≤ k) ∧ Aside0 (Below w.heap.size w wc))
    case first =>
      have H := HC5.out
      clear HC5
      replace H := Option.bind_eq_some_iff.mp H
      obtain ⟨t418, A70, H⟩ := H
      replace H : (if t418 = true then (larchlaw15_HeapFrees.j0 k l0 a1 (decide ((l0.length : Int) > 300))) else (larchlaw15_HeapFrees.j0 k l0 a1 true)) = some r := H
      have A7 := Aside0.mk A70
      clear A70
      by_cases c8 : t418 = true
      · subst c8
        have H1 : (larchlaw15_HeapFrees.j0 k l0 a1 (decide ((l0.length : Int) > 300))) = some r := by rw [if_pos rfl] at H; exact H
        clear H
        have H := H1
        clear H1
        have H' := Aside0.mk H
        clear H
        go_wp2_with (first | ((with_reducible refine gate_callee (f := 9) rfl ?_); refine goesL_ (some 22) rfl rfl Try.func9 (by kernel_rfl) rfl #[.slice A0 l0.length c0] rfl (by (try simp only [List.map_toArray, List.map_cons, List.map_nil]); first | done | rfl | (simp only [List.length_drop, List.length_take]; rfl)) ?_; (with_reducible refine (larchlaw15_light.calls k _ _ l0 true _ ?side1 ?side2 A7.out).mono ?_); (case side1 => repeat (first | exact (Kd.C_below HR0.out HB.out) | (with_reducible refine Kd.C_alloc ?_ _) | (with_reducible refine Kd.C_drewN ?_ _) | (with_reducible refine Kd.C_drew ?_))); (case side2 => exact HC0.out); rintro e w' ⟨rfl, ⟨nd, rfl⟩⟩; refine ⟨_, rfl, ?_⟩))
        go_meet
        case rel => exact ⟨_, (decide ((l0.length : Int) > 300)), (by first | rfl | (simp; done) | (simp [*]; done)), H', ⟨by first | omega | exact Nat.le_refl _⟩, ⟨by repeat (first | (with_reducible first | exact HB.out | apply below_alloc | apply pw_below_drewN | apply below_drew1) | exact HB.out)⟩⟩
      · replace c8 := Bool.eq_false_iff.mpr c8
        subst c8
        have H1 : (larchlaw15_HeapFrees.j0 k l0 a1 true) = some r := by rw [if_neg (show ¬ (false = true) by decide)] at H; exact H
        clear H
        have H := H1
        clear H1
        have H' := Aside0.mk H
        clear H
        go_wp2_with (first | ((with_reducible refine gate_callee (f := 9) rfl ?_); refine goesL_ (some 22) rfl rfl Try.func9 (by kernel_rfl) rfl #[.slice A0 l0.length c0] rfl (by (try simp only [List.map_toArray, List.map_cons, List.map_nil]); first | done | rfl | (simp only [List.length_drop, List.length_take]; rfl)) ?_; (with_reducible refine (larchlaw15_light.calls k _ _ l0 false _ ?side1 ?side2 A7.out).mono ?_); (case side1 => repeat (first | exact (Kd.C_below HR0.out HB.out) | (with_reducible refine Kd.C_alloc ?_ _) | (with_reducible refine Kd.C_drewN ?_ _) | (with_reducible refine Kd.C_drew ?_))); (case side2 => exact HC0.out); rintro e w' ⟨rfl, ⟨nd, rfl⟩⟩; refine ⟨_, rfl, ?_⟩))
        go_meet
        case rel => exact ⟨_, (true), (by first | rfl | (simp; done) | (simp [*]; done)), H', ⟨by first | omega | exact Nat.le_refl _⟩, ⟨by repeat (first | (with_reducible first | exact HB.out | apply below_alloc | apply pw_below_drewN | apply below_drew1) | exact HB.out)⟩⟩
    case rest =>
      clear HC5
      try clear c1
      try clear p2
      try clear c4
      try clear c7
      try clear c8
      obtain ⟨kq, x28_4, rfl, HA, HJ4, HB⟩ := hcut
      cases kq with
      | zero => exact absurd HA.out (by simp [larchlaw15_HeapFrees.j0])
      | succ kj4 =>
        have H := HA.out
        clear HA
        simp only [larchlaw15_HeapFrees.j0] at H
        by_cases c9 : x28_4 = true
        · subst c9
          have H1 : (some true) = some r := by rw [if_pos rfl] at H; exact H
          clear H
          have H := H1
          clear H1
          obtain rfl := Option.some.inj H
          go_wp2
          go_ret
          exact ⟨by first | rfl | (simp [errW_none, errW_some] <;> rfl) | (simp [*, errW_none, errW_some] <;> rfl), by repeat (first | (with_reducible first | exact HB.out | apply below_alloc | apply pw_below_drewN | apply below_drew1) | exact HB.out)⟩
        · replace c9 := Bool.eq_false_iff.mpr c9
          subst c9
          have H1 : ((heap_Get.f l0 a1).bind fun bt419 => ((heap_Free.f kj4 l0 a1).bind fun bt425 => (if bt419.2.2 = bt425.2 then (larchlaw15_HeapFrees.j1 kj4 a1 bt419.2.2 bt425.1 bt425.2 (bt419.2.2 != 0) bt419.1 bt419.2.1) else (larchlaw15_HeapFrees.j1 kj4 a1 bt419.2.2 bt425.1 bt425.2 true bt419.1 bt419.2.1)))) = some r := by rw [if_neg (show ¬ (false = true) by decide)] at H; exact H
          clear H
          have H := H1
          clear H1
          replace H := Option.bind_eq_some_iff.mp H
          obtain ⟨⟨t419, t420, t423⟩, A100, H⟩ := H
          replace H : ((heap_Free.f kj4 l0 a1).bind fun bt425 => (if t423 = bt425.2 then (larchlaw15_HeapFrees.j1 kj4 a1 t423 bt425.1 bt425.2 (t423 != 0) t419 t420) else (larchlaw15_HeapFrees.j1 kj4 a1 t423 bt425.1 bt425.2 true t419 t420))) = some r := H
          have A10 := Aside0.mk A100
          clear A100
          replace H := Option.bind_eq_some_iff.mp H
          obtain ⟨⟨t425, t428⟩, A110, H⟩ := H
          replace H : (if t423 = t428 then (larchlaw15_HeapFrees.j1 kj4 a1 t423 t425 t428 (t423 != 0) t419 t420) else (larchlaw15_HeapFrees.j1 kj4 a1 t423 t425 t428 true t419 t420)) = some r := H
          have A11 := Aside0.mk A110
          clear A110
          have HC12 := Aside0.mk H
          clear H
          go_upto_region 7 with (first | ((with_reducible refine gate_callee (f := 19) rfl ?_); refine goesL_ (some 32) rfl rfl Try.func19 (by kernel_rfl) rfl #[.slice A0 l0.length c0, .int .i64 a1] rfl (by (try simp only [List.map_toArray, List.map_cons, List.map_nil]); first | done | rfl | (simp only [List.length_drop, List.length_take]; rfl)) ?_; (with_reducible refine (heap_Get.calls _ _ l0 a1 t419 t420 t423 _ ?side1 ?side2 A10.out).mono ?_); (case side1 => repeat (first | exact (Kd.C_below HR0.out HB.out) | (with_reducible refine Kd.C_alloc ?_ _) | (with_reducible refine Kd.C_drewN ?_ _) | (with_reducible refine Kd.C_drew ?_))); (case side2 => exact HC0.out); rintro e w13 ⟨v421, rfl, ho0, hb⟩; refine ⟨_, rfl, ?_⟩; have n0_ := Aside0.mk (Kd.R_lower ho0 (below_size (by repeat (first | (with_reducible first | exact HB.out | apply below_alloc | apply pw_below_drewN | apply below_drew1) | exact HB.out)))); have n1_ := Aside0.mk (below_step (by repeat (first | (with_reducible first | exact HB.out | apply below_alloc | apply pw_below_drewN | apply below_drew1) | exact HB.out)) hb); clear HB; have HO422 := n0_; have HB := n1_; clear n0_ n1_; (try clear hb); (try clear hb2); (try clear hk); (try clear hi); (try clear ho0)) | ((with_reducible refine gate_dst (N := 5) rfl ?_); (try (refine gate_guard (by rfl) ?_; dsimp only)); refine box_event ?hg (N := 5) ?hd (cs := #[.string (⟨#[]⟩ : ByteArray), .slice none 0 0]) (t := 40) ?hr ?_; (case hd => rfl); (case hg => rfl); (case hr => first | (go_simp; done) | (go_simp; rfl)); intro gb424 hg w14 hbox hb; have n0_ := Aside0.mk (Kd.R_below (by (with_reducible repeat (first | apply Kd.R_alloc | apply Kd.R_drewN | apply Kd.R_drew)); exact HO422.out) hb); have n1_ := Aside0.mk (below_step (by repeat (first | (with_reducible first | exact HB.out | apply below_alloc | apply pw_below_drewN | apply below_drew1) | exact HB.out)) hb); have n2_ := Aside0.mk (hbox); have n3_ := Aside0.mk ((by rw [hg]; exact (below_size (by repeat (first | (with_reducible first | exact HB.out | apply below_alloc | apply pw_below_drewN | apply below_drew1) | exact HB.out))) : w.heap.size ≤ gb424)); have n4_ := Aside0.mk ((by rw [hg]; exact (below_size (by repeat (first | (with_reducible first | exact HB.out | apply below_alloc | apply pw_below_drewN | apply below_drew1) | exact HB.out))) : w.heap.size ≤ gb424)); clear HO422; clear HB; have HO422 := n0_; have HB := n1_; have BK424 := n2_; have GW424 := n3_; have GE424 := n4_; clear n0_ n1_ n2_ n3_ n4_; clear hb hbox hg; have hcz15_0 : w14.cell? ⟨gb424, 0, none⟩ = some (.string (⟨#[]⟩ : ByteArray)) := (blk_cell BK424.out 0).trans rfl; have hcz15_1 : w14.cell? ⟨gb424, 1, none⟩ = some (.slice none 0 0) := (blk_cell BK424.out 1).trans rfl; have hfz15_0 := blk_frozen BK424.out 0; have hfz15_1 := blk_frozen BK424.out 1; obtain ⟨Ao16, co16, eo16⟩ := Kd.R_slice HO422.out; subst eo16) | ((with_reducible refine gate_store (t := 40) (p := 5) rfl ?_); refine store_event (t := 40) (p := 5) (v := ?vo_w17) (w1 := ((w14.setCell ⟨gb424, 0, none⟩ (.string t419)).setCell ⟨gb424, 1, none⟩ (.slice Ao16 t420.length co16))) ?hg ?ho ?hn ?hr ?_; (case ho => rfl); (case hg => rfl); (case hn => rfl); (case hr => first | (go_simp; done) | (go_simp; rfl)); intro w17 hw; have n0_ : Aside0 (Kd.R k24 24 w17 w.heap.size (fun _ => True) (.slice Ao16 t420.length co16) t420) := ⟨(by rw [hw]; exact (by (with_reducible repeat (first | apply Kd.R_alloc | apply Kd.R_drewN | apply Kd.R_drew)); exact Kd.R_mono (Kd.R_far (p := ⟨gb424, 1, none⟩) (Kd.R_far (p := ⟨gb424, 0, none⟩) (Kd.R_types HO422.out BK424.out (by decide)) (fun _ hk => hk.2) (.string t419)) (fun _ hk => hk.2) (.slice Ao16 t420.length co16)) (fun _ hk => trivial)))⟩; have n1_ : Aside0 (w17.heap[gb424]? = some (.cells #[.string t419, .slice Ao16 t420.length co16] 40 (0, 0))) := ⟨(by rw [hw]; exact (by (with_reducible repeat (first | refine blk_drewN ?_ _ | refine blk_drew ?_ | refine blk_alloc ?_ _)); refine blk_put (cs := #[.string t419, .slice none 0 0]) ?_ 1 _ rfl; (with_reducible repeat (first | refine blk_drewN ?_ _ | refine blk_drew ?_ | refine blk_alloc ?_ _)); refine blk_put (cs := #[.string (⟨#[]⟩ : ByteArray), .slice none 0 0]) ?_ 0 _ rfl; (with_reducible repeat (first | refine blk_drewN ?_ _ | refine blk_drew ?_ | refine blk_alloc ?_ _)); exact BK424.out))⟩; have n2_ : Aside0 (Below w.heap.size w w17) := ⟨(by rw [hw]; exact (by repeat (first | (with_reducible first | exact HB.out | apply below_alloc | apply pw_below_drewN | apply below_drew1 | refine below_set ?_ GE424.out) | exact HB.out)))⟩; clear hw; clear HO422; clear BK424; clear HB; have HO422 := n0_; have BK424 := n1_; have HB := n2_; clear n0_ n1_ n2_) | ((with_reducible refine gate_callee (f := 13) rfl ?_); refine goesL_ (some 38) rfl rfl Try.func13 (by kernel_rfl) rfl #[.slice A0 l0.length c0, .int .i64 a1] rfl (by (try simp only [List.map_toArray, List.map_cons, List.map_nil]); first | done | rfl | (simp only [List.length_drop, List.length_take]; rfl)) ?_; (with_reducible refine (heap_Free.calls kj4 (fun k_ => k_ < w.heap.size) _ _ l0 a1 t425 t428 _ ?side1 A11.out).mono ?_); (case side1 => exact Kd.V_mk HC0.out (Kd.F_below (Kd.C_F k40_heap HR0.out) (by repeat (first | (with_reducible first | exact HB.out | apply below_alloc | apply pw_below_drewN | apply below_drew1 | refine below_set ?_ GE424.out) | exact HB.out)))); rintro e w18 ⟨v426, rfl, ho0, hb⟩; refine ⟨_, rfl, ?_⟩; have n0_ := Aside0.mk (Kd.R_below (by (with_reducible repeat (first | apply Kd.R_alloc | apply Kd.R_drewN | apply Kd.R_drew)); exact HO422.out) hb); have n1_ := Aside0.mk (Kd.N_lower (Kd.N_mono (ok' := fun k_ => some k_ ≠ (.slice Ao16 t420.length co16 : Value).ownBlock ∧ k_ ≠ gb424) ho0 (fun k_ hk_ => ⟨Or.elim hk_ (fun hs_ => fun e_ => Nat.not_le.2 hs_ (Kd.R_base HO422.out k_ e_.symm)) (fun hn_ => (Kd.fresh' (Kd.R_lt (by (with_reducible repeat (first | apply Kd.R_alloc | apply Kd.R_drewN | apply Kd.R_drew)); exact HO422.out)) k_ hn_)), Or.elim hk_ (fun hs_ => fun e_ => Nat.not_le.2 hs_ (by rw [e_]; exact GW424.out)) (fun hn_ => (Kd.freshB (g := gb424) (o := .cells #[.string t419, .slice Ao16 t420.length co16] 40 (0, 0)) (by (with_reducible repeat (first | refine blk_drewN ?_ _ | refine blk_drew ?_ | refine blk_alloc ?_ _)); exact BK424.out) k_ hn_))⟩)) (below_size (by repeat (first | (with_reducible first | exact HB.out | apply below_alloc | apply pw_below_drewN | apply below_drew1 | refine below_set ?_ GE424.out) | exact HB.out)))); have n2_ := Aside0.mk (blk_below (g := gb424) (o := .cells #[.string t419, .slice Ao16 t420.length co16] 40 (0, 0)) (by (with_reducible repeat (first | refine blk_drewN ?_ _ | refine blk_drew ?_ | refine blk_alloc ?_ _)); exact BK424.out) hb); have n3_ := Aside0.mk (below_step (by repeat (first | (with_reducible first | exact HB.out | apply below_alloc | apply pw_below_drewN | apply below_drew1 | refine below_set ?_ GE424.out) | exact HB.out)) hb); clear HO422; clear BK424; clear HB; have HO422 := n0_; have HO427 := n1_; have BK424 := n2_; have HB := n3_; clear n0_ n1_ n2_ n3_; (try clear hb); (try clear hb2); (try clear hk); (try clear hi); (try clear ho0)))
          (try simp only [Act.put, List.setIfInBounds_toArray, List.set_cons_zero, List.set_cons_succ])
          go_cut [47] (fun v47 wc => ∃ (kq : Nat) (x47_11 : Bool), v47 = .bool x47_11 ∧ Aside0 (larchlaw15_HeapFrees.j1 kq a1 t423 t425 t428 x47_11 t419 t420 = some r) ∧ Aside0 (kq ≤ kj4) ∧ Aside0 (Kd.N k40 40 wc w.heap.size (fun k_ => some k_ ≠ ((.slice Ao16 t420.length co16) : Value).ownBlock ∧ k_ ≠ gb424) v426 t425) ∧ Aside0 (Kd.R k24 24 wc w.heap.size (fun _ => True) (.slice Ao16 t420.length co16) t420) ∧ Aside0 (wc.heap[gb424]? = some (.cells #[.string t419, (.slice Ao16 t420.length co16)] 40 (0, 0))) ∧ Aside0 (Below w.heap.size w wc))
          case first =>
            have H := HC12.out
            clear HC12
            by_cases c19 : t423 = t428
            · rw [if_pos c19] at H
              have c19b0 : (t423 == t428) = true := beq_iff_eq.mpr c19
              have c19b1 : (t423 != t428) = false := bne_eq_false_iff_eq.mpr c19
              clear c19
              (first | rw [c19b0] | (simp only [i64_w, i32_w]; rw [c19b0]) | skip)
              have H' := Aside0.mk H
              clear H
              go_wp2
              go_meet
              case rel => exact ⟨_, ((t423 != 0)), (by first | rfl | (simp; done) | (simp [*]; done)), H', ⟨by have := HJ4.out; first | omega | exact Nat.le_refl _⟩, ⟨by (with_reducible repeat (first | apply Kd.N_alloc | apply Kd.N_drewN | apply Kd.N_drew)); exact HO427.out⟩, ⟨by (with_reducible repeat (first | apply Kd.R_alloc | apply Kd.R_drewN | apply Kd.R_drew)); exact HO422.out⟩, ⟨by (with_reducible repeat (first | refine blk_drewN ?_ _ | refine blk_drew ?_ | refine blk_alloc ?_ _)); exact BK424.out⟩, ⟨by repeat (first | (with_reducible first | exact HB.out | apply below_alloc | apply pw_below_drewN | apply below_drew1 | refine below_set ?_ GE424.out) | exact HB.out)⟩⟩
            · rw [if_neg c19] at H
              have c19b0 : (t423 == t428) = false := beq_eq_false_iff_ne.mpr c19
              have c19b1 : (t423 != t428) = true := bne_iff_ne.mpr c19
              (first | rw [c19b0] | (simp only [i64_w, i32_w]; rw [c19b0]) | skip)
              have H' := Aside0.mk H
              clear H
              go_wp2
              go_meet
              case rel => exact ⟨_, (true), (by first | rfl | (simp; done) | (simp [*]; done)), H', ⟨by have := HJ4.out; first | omega | exact Nat.le_refl _⟩, ⟨by (with_reducible repeat (first | apply Kd.N_alloc | apply Kd.N_drewN | apply Kd.N_drew)); exact HO427.out⟩, ⟨by (with_reducible repeat (first | apply Kd.R_alloc | apply Kd.R_drewN | apply Kd.R_drew)); exact HO422.out⟩, ⟨by (with_reducible repeat (first | refine blk_drewN ?_ _ | refine blk_drew ?_ | refine blk_alloc ?_ _)); exact BK424.out⟩, ⟨by repeat (first | (with_reducible first | exact HB.out | apply below_alloc | apply pw_below_drewN | apply below_drew1 | refine below_set ?_ GE424.out) | exact HB.out)⟩⟩
          case rest =>
            clear HC12
            try clear c1
            try clear p2
            try clear c4
            try clear c7
            try clear c8
            try clear c9
            try clear c13
            try clear c16
            try clear c19
            try clear c19b0
            try clear c19b1
            try clear hcz15_0
            try clear hcz15_1
            try clear hfz15_0
            try clear hfz15_1
            try clear p2
            obtain ⟨kq, x47_11, rfl, HA, HJ11, HO_7, HO_425001, BK424, HB⟩ := hcut
            cases kq with
            | zero => exact absurd HA.out (by simp [larchlaw15_HeapFrees.j1])
            | succ kj11 =>
              have H := HA.out
              clear HA
              simp only [larchlaw15_HeapFrees.j1] at H
              by_cases c20 : x47_11 = true
              · subst c20
                have H1 : (if t423 = t428 then (some ((t425.length : Int) == 0)) else (some false)) = some r := by rw [if_pos rfl] at H; exact H
                clear H
                have H := H1
                clear H1
                by_cases c21 : t423 = t428
                · rw [if_pos c21] at H
                  have c21b0 : (t423 == t428) = true := beq_iff_eq.mpr c21
                  have c21b1 : (t423 != t428) = false := bne_eq_false_iff_eq.mpr c21
                  clear c21
                  obtain rfl := Option.some.inj H
                  obtain ⟨Ao22, co22, eo22⟩ := Kd.N_slice HO_7.out
                  subst eo22
                  go_wp2
                  go_ret
                  exact ⟨by first | rfl | (simp [errW_none, errW_some] <;> rfl) | (simp [*, errW_none, errW_some] <;> rfl), by repeat (first | (with_reducible first | exact HB.out | apply below_alloc | apply pw_below_drewN | apply below_drew1 | refine below_set ?_ GE424.out) | exact HB.out)⟩
                · rw [if_neg c21] at H
                  exact absurd (H.trans (congrArg some hrt.out)) (by simp)
              · replace c20 := Bool.eq_false_iff.mpr c20
                subst c20
                have H1 : ((heap_Get.f t425 a1).bind fun bt429 => ((heap_Live.f kj11 t425).bind fun t435 => (larchlaw15_HeapFrees.l0 kj11 a1 t425 bt429.2.2 t435 1 0 t419 t420))) = some r := by rw [if_neg (show ¬ (false = true) by decide)] at H; exact H
                clear H
                have H := H1
                clear H1
                replace H := Option.bind_eq_some_iff.mp H
                obtain ⟨⟨t429, t430, t433⟩, A230, H⟩ := H
                replace H : ((heap_Live.f kj11 t425).bind fun t435 => (larchlaw15_HeapFrees.l0 kj11 a1 t425 t433 t435 1 0 t419 t420)) = some r := H
                have A23 := Aside0.mk A230
                clear A230
                replace H := Option.bind_eq_some_iff.mp H
                obtain ⟨t435, A240, H⟩ := H
                replace H : (larchlaw15_HeapFrees.l0 kj11 a1 t425 t433 t435 1 0 t419 t420) = some r := H
                have A24 := Aside0.mk A240
                clear A240
                have HC25 := Aside0.mk H
                clear H
                obtain ⟨Ao26, co26, eo26⟩ := Kd.N_slice HO_7.out
                subst eo26
                go_upto_block 0 with (first | ((with_reducible refine gate_callee (f := 19) rfl ?_); refine goesL_ (some 59) rfl rfl Try.func19 (by kernel_rfl) rfl #[.slice Ao26 t425.length co26, .int .i64 a1] rfl (by (try simp only [List.map_toArray, List.map_cons, List.map_nil]); first | done | rfl | (simp only [List.length_drop, List.length_take]; rfl)) ?_; (with_reducible refine (heap_Get.calls _ _ t425 a1 t429 t430 t433 _ ?side1 ?side2 A23.out).mono ?_); (case side1 => repeat (first | exact (Kd.N_reads' HO_7.out).2.2 | (with_reducible refine Kd.C_alloc ?_ _) | (with_reducible refine Kd.C_drewN ?_ _) | (with_reducible refine Kd.C_drew ?_))); (case side2 => exact (Kd.N_reads' HO_7.out).2.1); rintro e w27 ⟨v431, rfl, ho0, hb⟩; refine ⟨_, rfl, ?_⟩; have n0_ := Aside0.mk (Kd.N_elder' (by (with_reducible repeat (first | apply Kd.N_alloc | apply Kd.N_drewN | apply Kd.N_drew)); exact HO_7.out) (Kd.R_base ho0) hb); have n1_ := Aside0.mk (Kd.R_elder' (by (with_reducible repeat (first | apply Kd.R_alloc | apply Kd.R_drewN | apply Kd.R_drew)); exact HO_425001.out) (Kd.R_base ho0) hb); have n2_ := Aside0.mk (Kd.R_lower (Kd.R_new' ho0 (Kd.R_lt (by (with_reducible repeat (first | apply Kd.R_alloc | apply Kd.R_drewN | apply Kd.R_drew)); exact HO_425001.out))) (below_size (by repeat (first | (with_reducible first | exact HB.out | apply below_alloc | apply pw_below_drewN | apply below_drew1 | refine below_set ?_ GE424.out) | exact HB.out)))); have n3_ := Aside0.mk (blk_below (g := gb424) (o := .cells #[.string t419, .slice Ao16 t420.length co16] 40 (0, 0)) (by (with_reducible repeat (first | refine blk_drewN ?_ _ | refine blk_drew ?_ | refine blk_alloc ?_ _)); exact BK424.out) hb); have n4_ := Aside0.mk (below_step (by repeat (first | (with_reducible first | exact HB.out | apply below_alloc | apply pw_below_drewN | apply below_drew1 | refine below_set ?_ GE424.out) | exact HB.out)) hb); clear HO_7; clear HO_425001; clear BK424; clear HB; have HO_7 := n0_; have HO_425001 := n1_; have HO432 := n2_; have BK424 := n3_; have HB := n4_; clear n0_ n1_ n2_ n3_ n4_; (try clear hb); (try clear hb2); (try clear hk); (try clear hi); (try clear ho0)) | ((with_reducible refine gate_dst (N := 9) rfl ?_); (try (refine gate_guard (by rfl) ?_; dsimp only)); refine box_event ?hg (N := 9) ?hd (cs := #[.string (⟨#[]⟩ : ByteArray), .slice none 0 0]) (t := 40) ?hr ?_; (case hd => rfl); (case hg => rfl); (case hr => first | (go_simp; done) | (go_simp; rfl)); intro gb434 hg w28 hbox hb; have n0_ := Aside0.mk (Kd.N_below (Kd.N_elderB (by (with_reducible repeat (first | apply Kd.N_alloc | apply Kd.N_drewN | apply Kd.N_drew)); exact HO_7.out) gb434 (Nat.le_of_eq hg.symm)) hb); have n1_ := Aside0.mk (Kd.R_below (by (with_reducible repeat (first | apply Kd.R_alloc | apply Kd.R_drewN | apply Kd.R_drew)); exact HO_425001.out) hb); have n2_ := Aside0.mk (Kd.R_below (by (with_reducible repeat (first | apply Kd.R_alloc | apply Kd.R_drewN | apply Kd.R_drew)); exact HO432.out) hb); have n3_ := Aside0.mk (blk_below (g := gb424) (o := .cells #[.string t419, .slice Ao16 t420.length co16] 40 (0, 0)) (by (with_reducible repeat (first | refine blk_drewN ?_ _ | refine blk_drew ?_ | refine blk_alloc ?_ _)); exact BK424.out) hb); have n4_ := Aside0.mk (below_step (by repeat (first | (with_reducible first | exact HB.out | apply below_alloc | apply pw_below_drewN | apply below_drew1 | refine below_set ?_ GE424.out) | exact HB.out)) hb); have n5_ := Aside0.mk (hbox); have n6_ := Aside0.mk ((by rw [hg]; exact (below_size (by repeat (first | (with_reducible first | exact HB.out | apply below_alloc | apply pw_below_drewN | apply below_drew1 | refine below_set ?_ GE424.out) | exact HB.out))) : w.heap.size ≤ gb434)); have n7_ := Aside0.mk ((by rw [hg]; exact (below_size (by repeat (first | (with_reducible first | exact HB.out | apply below_alloc | apply pw_below_drewN | apply below_drew1 | refine below_set ?_ GE424.out) | exact HB.out))) : w.heap.size ≤ gb434)); have n8_ := Aside0.mk ((by rw [hg]; exact Nat.ne_of_lt (blk_lt (g := gb424) (o := .cells #[.string t419, .slice Ao16 t420.length co16] 40 (0, 0)) (by (with_reducible repeat (first | refine blk_drewN ?_ _ | refine blk_drew ?_ | refine blk_alloc ?_ _)); exact BK424.out)) : gb424 ≠ gb434)); have n9_ := Aside0.mk ((by rw [hg]; exact Nat.ne_of_gt (blk_lt (g := gb424) (o := .cells #[.string t419, .slice Ao16 t420.length co16] 40 (0, 0)) (by (with_reducible repeat (first | refine blk_drewN ?_ _ | refine blk_drew ?_ | refine blk_alloc ?_ _)); exact BK424.out)) : gb434 ≠ gb424)); clear HO_7; clear HO_425001; clear HO432; clear BK424; clear HB; have HO_7 := n0_; have HO_425001 := n1_; have HO432 := n2_; have BK424 := n3_; have HB := n4_; have BK434 := n5_; have GW434 := n6_; have GE434 := n7_; have NB424_434 := n8_; have NB434_424 := n9_; clear n0_ n1_ n2_ n3_ n4_ n5_ n6_ n7_ n8_ n9_; clear hb hbox hg; have hnb29 := NB434_424.out; have hnc29 := NB424_434.out; have hcz30_0 : w28.cell? ⟨gb434, 0, none⟩ = some (.string (⟨#[]⟩ : ByteArray)) := (blk_cell BK434.out 0).trans rfl; have hcz30_1 : w28.cell? ⟨gb434, 1, none⟩ = some (.slice none 0 0) := (blk_cell BK434.out 1).trans rfl; have hfz30_0 := blk_frozen BK434.out 0; have hfz30_1 := blk_frozen BK434.out 1; obtain ⟨Ao31, co31, eo31⟩ := Kd.R_slice HO432.out; subst eo31) | ((with_reducible refine gate_callee (f := 26) rfl ?_); refine goesL_ (some 63) rfl rfl Try.func26 (by kernel_rfl) rfl #[.slice Ao26 t425.length co26] rfl (by (try simp only [List.map_toArray, List.map_cons, List.map_nil]); first | done | rfl | (simp only [List.length_drop, List.length_take]; rfl)) ?_; (with_reducible refine (heap_Live.calls kj11 _ _ t425 t435 _ ?side1 ?side2 A24.out).mono ?_); (case side1 => refine (Kd.N_reads' (e := 40) (base := w.heap.size) (ok := fun k_ => (((some k_ ≠ (.slice Ao16 t420.length co16 : Value).ownBlock ∧ k_ ≠ gb424) ∧ some k_ ≠ (.slice Ao31 t430.length co31 : Value).ownBlock) ∧ k_ ≠ gb434)) (n := t425.length) (c := co26) ?_).2.2; exact (by (with_reducible repeat (first | apply Kd.N_alloc | apply Kd.N_drewN | apply Kd.N_drew)); exact (Kd.N_mono (Kd.N_far (p := ⟨gb434, 1, none⟩) (Kd.N_far (p := ⟨gb434, 0, none⟩) (Kd.N_mono HO_7.out (fun k_ hk => (⟨hk, hk.2⟩ : _ ∧ k_ ≠ gb434))) (fun _ hk => hk.2) (.string t429)) (fun _ hk => hk.2) (.slice Ao31 t430.length co31)) (fun _ h_ => h_.1)))); (case side2 => exact (Kd.N_reads' HO_7.out).2.1); rintro e w32 ⟨v436, rfl, ho0, hb⟩; refine ⟨_, rfl, ?_⟩; have n0_ := Aside0.mk (Kd.N_elder' (by (with_reducible repeat (first | apply Kd.N_alloc | apply Kd.N_drewN | apply Kd.N_drew)); exact (Kd.N_mono (Kd.N_far (p := ⟨gb434, 1, none⟩) (Kd.N_far (p := ⟨gb434, 0, none⟩) (Kd.N_mono HO_7.out (fun k_ hk => (⟨hk, hk.2⟩ : _ ∧ k_ ≠ gb434))) (fun _ hk => hk.2) (.string t429)) (fun _ hk => hk.2) (.slice Ao31 t430.length co31)) (fun _ h_ => h_.1))) (Kd.R_base ho0) hb); have n1_ := Aside0.mk (Kd.R_below (by (with_reducible repeat (first | apply Kd.R_alloc | apply Kd.R_drewN | apply Kd.R_drew)); exact (Kd.R_mono (Kd.R_far (p := ⟨gb434, 1, none⟩) (Kd.R_far (p := ⟨gb434, 0, none⟩) (Kd.R_types HO_425001.out BK434.out (by decide)) (fun _ hk => hk.2) (.string t429)) (fun _ hk => hk.2) (.slice Ao31 t430.length co31)) (fun _ h_ => h_.1))) hb); have n2_ := Aside0.mk (Kd.R_below (by (with_reducible repeat (first | apply Kd.R_alloc | apply Kd.R_drewN | apply Kd.R_drew)); exact (Kd.R_mono (Kd.R_far (p := ⟨gb434, 1, none⟩) (Kd.R_far (p := ⟨gb434, 0, none⟩) (Kd.R_types HO432.out BK434.out (by decide)) (fun _ hk => hk.2) (.string t429)) (fun _ hk => hk.2) (.slice Ao31 t430.length co31)) (fun _ h_ => h_.1))) hb); have n3_ := Aside0.mk (Kd.R_lower ho0 (below_size (by repeat (first | (with_reducible first | exact HB.out | apply below_alloc | apply pw_below_drewN | apply below_drew1 | refine below_set ?_ GE424.out | refine below_set ?_ GE434.out) | exact HB.out)))); have n4_ := Aside0.mk (blk_below (g := gb424) (o := .cells #[.string t419, .slice Ao16 t420.length co16] 40 (0, 0)) (by (with_reducible repeat (first | refine blk_drewN ?_ _ | refine blk_drew ?_ | refine blk_alloc ?_ _)); refine blk_far ?_ NB424_434.out _; (with_reducible repeat (first | refine blk_drewN ?_ _ | refine blk_drew ?_ | refine blk_alloc ?_ _)); refine blk_far ?_ NB424_434.out _; (with_reducible repeat (first | refine blk_drewN ?_ _ | refine blk_drew ?_ | refine blk_alloc ?_ _)); exact BK424.out) hb); have n5_ := Aside0.mk (blk_below (g := gb434) (o := .cells #[.string t429, .slice Ao31 t430.length co31] 40 (0, 0)) (by (with_reducible repeat (first | refine blk_drewN ?_ _ | refine blk_drew ?_ | refine blk_alloc ?_ _)); refine blk_put (cs := #[.string t429, .slice none 0 0]) ?_ 1 _ rfl; (with_reducible repeat (first | refine blk_drewN ?_ _ | refine blk_drew ?_ | refine blk_alloc ?_ _)); refine blk_put (cs := #[.string (⟨#[]⟩ : ByteArray), .slice none 0 0]) ?_ 0 _ rfl; (with_reducible repeat (first | refine blk_drewN ?_ _ | refine blk_drew ?_ | refine blk_alloc ?_ _)); exact BK434.out) hb); have n6_ := Aside0.mk (below_step (by repeat (first | (with_reducible first | exact HB.out | apply below_alloc | apply pw_below_drewN | apply below_drew1 | refine below_set ?_ GE424.out | refine below_set ?_ GE434.out) | exact HB.out)) hb); clear HO_7; clear HO_425001; clear HO432; clear BK424; clear BK434; clear HB; have HO_7 := n0_; have HO_425001 := n1_; have HO432 := n2_; have HO437 := n3_; have BK424 := n4_; have BK434 := n5_; have HB := n6_; clear n0_ n1_ n2_ n3_ n4_ n5_ n6_; (try clear hb); (try clear hb2); (try clear hk); (try clear hi); (try clear ho0)))
                (try simp only [Act.put, List.setIfInBounds_toArray, List.set_cons_zero, List.set_cons_succ])
                go_cut [12] (fun v12 wc => ∃ (kq : Nat) (x12_24 : Int), v12 = .int .i64 x12_24 ∧ Aside0 (larchlaw15_HeapFrees.j3 kq a1 t425 t433 x12_24 t419 t420 = some r) ∧ Aside0 (kq ≤ kj11) ∧ Aside0 (Kd.N k40 40 wc w.heap.size (fun k_ => some k_ ≠ ((.slice Ao16 t420.length co16) : Value).ownBlock ∧ some k_ ≠ ((.slice Ao31 t430.length co31) : Value).ownBlock ∧ k_ ≠ gb424 ∧ k_ ≠ gb434) (.slice Ao26 t425.length co26) t425) ∧ Aside0 (Kd.R k24 24 wc w.heap.size (fun k_ => some k_ ≠ ((.slice Ao31 t430.length co31) : Value).ownBlock) (.slice Ao16 t420.length co16) t420) ∧ Aside0 (Kd.R k24 24 wc w.heap.size (fun k_ => some k_ ≠ ((.slice Ao16 t420.length co16) : Value).ownBlock) (.slice Ao31 t430.length co31) t430) ∧ Aside0 (wc.heap[gb424]? = some (.cells #[.string t419, (.slice Ao16 t420.length co16)] 40 (0, 0))) ∧ Aside0 (wc.heap[gb434]? = some (.cells #[.string t429, (.slice Ao31 t430.length co31)] 40 (0, 0))) ∧ Aside0 (Below w.heap.size w wc))
                case first =>
                  have H := HC25.out
                  clear HC25
                  have H' := Aside0.mk H
                  clear H
                  go_wp2
                  go_loopg [12, 13] kj11 (fun kq v12 v13 w' => ∃ (x12_3 : Int) (x13_3 : Int), v12 = .int .i64 x12_3 ∧ v13 = .int .i64 x13_3 ∧ Aside0 (larchlaw15_HeapFrees.l0 kq a1 t425 t433 t435 x12_3 x13_3 t419 t420 = some r) ∧ Aside0 (kq ≤ kj11) ∧ Aside0 (Kd.N k40 40 w' w.heap.size (fun k_ => some k_ ≠ (v436 : Value).ownBlock ∧ some k_ ≠ ((.slice Ao16 t420.length co16) : Value).ownBlock ∧ some k_ ≠ ((.slice Ao31 t430.length co31) : Value).ownBlock ∧ k_ ≠ gb424 ∧ k_ ≠ gb434) (.slice Ao26 t425.length co26) t425) ∧ Aside0 (Kd.R (Kd.int .i64) 3 w' w.heap.size (fun _ => True) v436 t435) ∧ Aside0 (Kd.R k24 24 w' w.heap.size (fun k_ => some k_ ≠ ((.slice Ao31 t430.length co31) : Value).ownBlock) (.slice Ao16 t420.length co16) t420) ∧ Aside0 (Kd.R k24 24 w' w.heap.size (fun k_ => some k_ ≠ ((.slice Ao16 t420.length co16) : Value).ownBlock) (.slice Ao31 t430.length co31) t430) ∧ Aside0 (w'.heap[gb424]? = some (.cells #[.string t419, (.slice Ao16 t420.length co16)] 40 (0, 0))) ∧ Aside0 (w'.heap[gb434]? = some (.cells #[.string t429, (.slice Ao31 t430.length co31)] 40 (0, 0))) ∧ Aside0 (Below w.heap.size w w'))
                  case atStart => exact ⟨(1), (0), (by first | rfl | (simp; done) | (simp [*]; done)), (by first | rfl | (simp; done) | (simp [*]; done)), H', ⟨Nat.le_refl _⟩, ⟨by (with_reducible repeat (first | apply Kd.N_alloc | apply Kd.N_drewN | apply Kd.N_drew)); exact Kd.N_mono HO_7.out (fun _ hk => ⟨hk.2, ⟨hk.1.1.1.1, ⟨hk.1.1.2, ⟨hk.1.1.1.2, hk.1.2⟩⟩⟩⟩)⟩, ⟨by (with_reducible repeat (first | apply Kd.R_alloc | apply Kd.R_drewN | apply Kd.R_drew)); exact HO437.out⟩, ⟨by (with_reducible repeat (first | apply Kd.R_alloc | apply Kd.R_drewN | apply Kd.R_drew)); exact Kd.R_mono HO_425001.out (fun _ hk => hk.2)⟩, ⟨by (with_reducible repeat (first | apply Kd.R_alloc | apply Kd.R_drewN | apply Kd.R_drew)); exact Kd.R_mono HO432.out (fun _ hk => hk.2)⟩, ⟨by (with_reducible repeat (first | refine blk_drewN ?_ _ | refine blk_drew ?_ | refine blk_alloc ?_ _)); exact BK424.out⟩, ⟨by (with_reducible repeat (first | refine blk_drewN ?_ _ | refine blk_drew ?_ | refine blk_alloc ?_ _)); exact BK434.out⟩, ⟨by repeat (first | (with_reducible first | exact HB.out | apply below_alloc | apply pw_below_drewN | apply below_drew1 | refine below_set ?_ GE424.out | refine below_set ?_ GE434.out) | exact HB.out)⟩⟩
                  case round =>
                    clear H'
                    try clear c1
                    try clear c2
                    try clear p2
                    try clear c4
                    try clear c7
                    try clear c8
                    try clear c9
                    try clear c13
                    try clear c16
                    try clear c19
                    try clear c19b0
                    try clear c19b1
                    try clear c20
                    try clear c21
                    try clear c21b0
                    try clear c21b1
                    try clear c26
                    try clear c29
                    try clear hcz15_0
                    try clear hcz15_1
                    try clear hcz30_0
                    try clear hcz30_1
                    try clear hfz15_0
                    try clear hfz15_1
                    try clear hfz30_0
                    try clear hfz30_1
                    try clear p2
                    obtain ⟨x12_3, x13_3, rfl, rfl, HA, HK3, HO_7, HO_11, HO_425001, HO_435001, BK424, BK434, HB⟩ := hrel
                    cases gk with
                    | zero => exact absurd HA.out (by simp [larchlaw15_HeapFrees.l0])
                    | succ k3 =>
                      have H := HA.out
                      clear HA
                      simp only [larchlaw15_HeapFrees.l0] at H
                      by_cases c33 : x13_3 < (t435.length : Int)
                      · rw [if_pos c33] at H
                        have c33b0 : decide (x13_3 < (t435.length : Int)) = true := decide_eq_true c33
                        clear c33
                        (first | rw [c33b0] | (simp only [i64_w, i32_w]; rw [c33b0]) | skip)
                        by_cases c34 : 0 ≤ x13_3
                        · rw [if_pos c34] at H
                          have c34b0 : decide (0 ≤ x13_3) = true := decide_eq_true c34
                          clear c34
                          by_cases c35 : (rd t435 x13_3) = x12_3
                          · rw [if_pos c35] at H
                            have c35b0 : ((rd t435 x13_3) == x12_3) = true := beq_iff_eq.mpr c35
                            have c35b1 : ((rd t435 x13_3) != x12_3) = false := bne_eq_false_iff_eq.mpr c35
                            clear c35
                            have H' := Aside0.mk H
                            clear H
                            obtain ⟨Ao36, co36, eo36⟩ := Kd.R_slice HO_11.out
                            subst eo36
                            have p438 : 0 ≤ (x13_3 : Int) := of_decide_eq_true (by first | (with_reducible assumption) | assumption)
                            have q438 : x13_3 < (t435.length : Int) := of_decide_eq_true (by first | (with_reducible assumption) | assumption)
                            obtain ⟨ad438, e438, hx438_0⟩ := Kd.at_int (Kd.R_reads' HO_11.out).2.2 x13_3 p438 q438
                            cases e438
                            replace p438 := eq_true p438
                            replace q438 := eq_true q438
                            go_wp2
                            go_roundg k3
                            case measure => have := HJ4.out; have := HJ11.out; have := HK3.out; omega
                            case rel => exact ⟨(wrap64 (x12_3 + 1)), (wrap64 (x13_3 + 1)), (by first | rfl | (simp; done) | (simp [*]; done)), (by first | rfl | (simp; done) | (simp [*]; done)), H', ⟨by have := HJ4.out; have := HJ11.out; have := HK3.out; omega⟩, ⟨by (with_reducible repeat (first | apply Kd.N_alloc | apply Kd.N_drewN | apply Kd.N_drew)); exact HO_7.out⟩, ⟨by (with_reducible repeat (first | apply Kd.R_alloc | apply Kd.R_drewN | apply Kd.R_drew)); exact HO_11.out⟩, ⟨by (with_reducible repeat (first | apply Kd.R_alloc | apply Kd.R_drewN | apply Kd.R_drew)); exact HO_425001.out⟩, ⟨by (with_reducible repeat (first | apply Kd.R_alloc | apply Kd.R_drewN | apply Kd.R_drew)); exact HO_435001.out⟩, ⟨by (with_reducible repeat (first | refine blk_drewN ?_ _ | refine blk_drew ?_ | refine blk_alloc ?_ _)); exact BK424.out⟩, ⟨by (with_reducible repeat (first | refine blk_drewN ?_ _ | refine blk_drew ?_ | refine blk_alloc ?_ _)); exact BK434.out⟩, ⟨by repeat (first | (with_reducible first | exact HB.out | apply below_alloc | apply pw_below_drewN | apply below_drew1 | refine below_set ?_ GE424.out | refine below_set ?_ GE434.out) | exact HB.out)⟩⟩
                          · rw [if_neg c35] at H
                            have c35b0 : ((rd t435 x13_3) == x12_3) = false := beq_eq_false_iff_ne.mpr c35
                            have c35b1 : ((rd t435 x13_3) != x12_3) = true := bne_iff_ne.mpr c35
                            have H' := Aside0.mk H
                            clear H
                            obtain ⟨Ao37, co37, eo37⟩ := Kd.R_slice HO_11.out
                            subst eo37
                            have p438 : 0 ≤ (x13_3 : Int) := of_decide_eq_true (by first | (with_reducible assumption) | assumption)
                            have q438 : x13_3 < (t435.length : Int) := of_decide_eq_true (by first | (with_reducible assumption) | assumption)
                            obtain ⟨ad438, e438, hx438_0⟩ := Kd.at_int (Kd.R_reads' HO_11.out).2.2 x13_3 p438 q438
                            cases e438
                            replace p438 := eq_true p438
                            replace q438 := eq_true q438
                            go_wp2
                            go_meet
                            case rel => exact ⟨_, (x12_3), (by first | rfl | (simp; done) | (simp [*]; done)), H', ⟨by have := HJ4.out; have := HJ11.out; have := HK3.out; first | omega | exact Nat.le_refl _⟩, ⟨by (with_reducible repeat (first | apply Kd.N_alloc | apply Kd.N_drewN | apply Kd.N_drew)); exact Kd.N_mono HO_7.out (fun _ hk => ⟨hk.2.1, ⟨hk.2.2.1, ⟨hk.2.2.2.1, hk.2.2.2.2⟩⟩⟩)⟩, ⟨by (with_reducible repeat (first | apply Kd.R_alloc | apply Kd.R_drewN | apply Kd.R_drew)); exact HO_425001.out⟩, ⟨by (with_reducible repeat (first | apply Kd.R_alloc | apply Kd.R_drewN | apply Kd.R_drew)); exact HO_435001.out⟩, ⟨by (with_reducible repeat (first | refine blk_drewN ?_ _ | refine blk_drew ?_ | refine blk_alloc ?_ _)); exact BK424.out⟩, ⟨by (with_reducible repeat (first | refine blk_drewN ?_ _ | refine blk_drew ?_ | refine blk_alloc ?_ _)); exact BK434.out⟩, ⟨by repeat (first | (with_reducible first | exact HB.out | apply below_alloc | apply pw_below_drewN | apply below_drew1 | refine below_set ?_ GE424.out | refine below_set ?_ GE434.out) | exact HB.out)⟩⟩
                        · rw [if_neg c34] at H
                          exact absurd H (by simp)
                      · rw [if_neg c33] at H
                        have c33b0 : decide (x13_3 < (t435.length : Int)) = false := decide_eq_false c33
                        clear c33
                        (first | rw [c33b0] | (simp only [i64_w, i32_w]; rw [c33b0]) | skip)
                        have H' := Aside0.mk H
                        clear H
                        obtain ⟨Ao38, co38, eo38⟩ := Kd.R_slice HO_11.out
                        subst eo38
                        go_wp2
                        go_meet
                        case rel => exact ⟨_, (x12_3), (by first | rfl | (simp; done) | (simp [*]; done)), H', ⟨by have := HJ4.out; have := HJ11.out; have := HK3.out; first | omega | exact Nat.le_refl _⟩, ⟨by (with_reducible repeat (first | apply Kd.N_alloc | apply Kd.N_drewN | apply Kd.N_drew)); exact Kd.N_mono HO_7.out (fun _ hk => ⟨hk.2.1, ⟨hk.2.2.1, ⟨hk.2.2.2.1, hk.2.2.2.2⟩⟩⟩)⟩, ⟨by (with_reducible repeat (first | apply Kd.R_alloc | apply Kd.R_drewN | apply Kd.R_drew)); exact HO_425001.out⟩, ⟨by (with_reducible repeat (first | apply Kd.R_alloc | apply Kd.R_drewN | apply Kd.R_drew)); exact HO_435001.out⟩, ⟨by (with_reducible repeat (first | refine blk_drewN ?_ _ | refine blk_drew ?_ | refine blk_alloc ?_ _)); exact BK424.out⟩, ⟨by (with_reducible repeat (first | refine blk_drewN ?_ _ | refine blk_drew ?_ | refine blk_alloc ?_ _)); exact BK434.out⟩, ⟨by repeat (first | (with_reducible first | exact HB.out | apply below_alloc | apply pw_below_drewN | apply below_drew1 | refine below_set ?_ GE424.out | refine below_set ?_ GE434.out) | exact HB.out)⟩⟩
                case rest =>
                  clear HC25
                  try clear c1
                  try clear c2
                  try clear p2
                  try clear c3
                  try clear c4
                  try clear p4
                  try clear q4
                  try clear hx4
                  try clear p6
                  try clear c7
                  try clear c8
                  try clear c9
                  try clear c13
                  try clear c16
                  try clear c19
                  try clear c19b0
                  try clear c19b1
                  try clear c20
                  try clear c21
                  try clear c21b0
                  try clear c21b1
                  try clear c26
                  try clear c29
                  try clear c33
                  try clear c33b0
                  try clear c34
                  try clear c34b0
                  try clear c35
                  try clear c35b0
                  try clear c35b1
                  try clear hcz15_0
                  try clear hcz15_1
                  try clear hcz30_0
                  try clear hcz30_1
                  try clear hfz15_0
                  try clear hfz15_1
                  try clear hfz30_0
                  try clear hfz30_1
                  try clear hx438_0
                  try clear p2
                  try clear p438
                  try clear q438
                  obtain ⟨kq, x12_24, rfl, HA, HJ24, HO_7, HO_425001, HO_435001, BK424, BK434, HB⟩ := hcut
                  cases kq with
                  | zero => exact absurd HA.out (by simp [larchlaw15_HeapFrees.j3])
                  | succ kj24 =>
                    have H := HA.out
                    clear HA
                    simp only [larchlaw15_HeapFrees.j3] at H
                    replace H := Option.bind_eq_some_iff.mp H
                    obtain ⟨⟨t439, t442, t443⟩, A390, H⟩ := H
                    replace H : ((heap_Get.f t439 t442).bind fun bt444 => (if t433 = 150 then ((heap_Check.f t425).bind fun t450 => (if t450 = 0 then (if t443 = 0 then (if t442 = x12_24 then (if t442 ≤ a1 then (if bt444.2.2 = 0 then ((larchbase_SameObjects.f kj24 (([(⟨t419, t420⟩ : S40)] : List (S40))) (([(⟨bt444.1, bt444.2.1⟩ : S40)] : List (S40)))).bind fun t457 => (some t457)) else (some false)) else (some false)) else (some false)) else (some false)) else (some false))) else (some false))) = some r := H
                    have A39 := Aside0.mk A390
                    clear A390
                    replace H := Option.bind_eq_some_iff.mp H
                    obtain ⟨⟨t444, t445, t448⟩, A400, H⟩ := H
                    replace H : (if t433 = 150 then ((heap_Check.f t425).bind fun t450 => (if t450 = 0 then (if t443 = 0 then (if t442 = x12_24 then (if t442 ≤ a1 then (if t448 = 0 then ((larchbase_SameObjects.f kj24 (([(⟨t419, t420⟩ : S40)] : List (S40))) (([(⟨t444, t445⟩ : S40)] : List (S40)))).bind fun t457 => (some t457)) else (some false)) else (some false)) else (some false)) else (some false)) else (some false))) else (some false)) = some r := H
                    have A40 := Aside0.mk A400
                    clear A400
                    by_cases c41 : t433 = 150
                    · rw [if_pos c41] at H
                      have c41b0 : (t433 == 150) = true := beq_iff_eq.mpr c41
                      have c41b1 : (t433 != 150) = false := bne_eq_false_iff_eq.mpr c41
                      clear c41
                      replace H := Option.bind_eq_some_iff.mp H
                      obtain ⟨t450, A420, H⟩ := H
                      replace H : (if t450 = 0 then (if t443 = 0 then (if t442 = x12_24 then (if t442 ≤ a1 then (if t448 = 0 then ((larchbase_SameObjects.f kj24 (([(⟨t419, t420⟩ : S40)] : List (S40))) (([(⟨t444, t445⟩ : S40)] : List (S40)))).bind fun t457 => (some t457)) else (some false)) else (some false)) else (some false)) else (some false)) else (some false)) = some r := H
                      have A42 := Aside0.mk A420
                      clear A420
                      by_cases c43 : t450 = 0
                      · rw [if_pos c43] at H
                        have c43b0 : (t450 == 0) = true := beq_iff_eq.mpr c43
                        have c43b1 : (t450 != 0) = false := bne_eq_false_iff_eq.mpr c43
                        clear c43
                        by_cases c44 : t443 = 0
                        · rw [if_pos c44] at H
                          have c44b0 : (t443 == 0) = true := beq_iff_eq.mpr c44
                          have c44b1 : (t443 != 0) = false := bne_eq_false_iff_eq.mpr c44
                          clear c44
                          by_cases c45 : t442 = x12_24
                          · rw [if_pos c45] at H
                            have c45b0 : (t442 == x12_24) = true := beq_iff_eq.mpr c45
                            have c45b1 : (t442 != x12_24) = false := bne_eq_false_iff_eq.mpr c45
                            clear c45
                            by_cases c46 : t442 ≤ a1
                            · rw [if_pos c46] at H
                              have c46b0 : decide (t442 ≤ a1) = true := decide_eq_true c46
                              clear c46
                              by_cases c47 : t448 = 0
                              · rw [if_pos c47] at H
                                have c47b0 : (t448 == 0) = true := beq_iff_eq.mpr c47
                                have c47b1 : (t448 != 0) = false := bne_eq_false_iff_eq.mpr c47
                                clear c47
                                obtain ⟨y451, hy451⟩ : ∃ y_ : List (S40), y_ = (([(⟨t419, t420⟩ : S40)] : List (S40))) := ⟨_, rfl⟩
                                replace H : ((larchbase_SameObjects.f kj24 y451 (([(⟨t444, t445⟩ : S40)] : List (S40)))).bind fun t457 => (some t457)) = some r := by first | (rw [hy451]; with_reducible exact H) | (have H2_ := (Option.bind_some _ _).symm.trans H; rw [hy451]; with_reducible exact H2_) | (have H2_ := (Option.bind_some _ _).symm.trans H; with_reducible exact H2_) | with_reducible exact H | (rw [hy451]; exact H) | exact H
                                have Ny451 := Aside0.mk hy451
                                clear hy451
                                obtain ⟨y454, hy454⟩ : ∃ y_ : List (S40), y_ = (([(⟨t444, t445⟩ : S40)] : List (S40))) := ⟨_, rfl⟩
                                replace H : ((larchbase_SameObjects.f kj24 y451 y454).bind fun t457 => (some t457)) = some r := by first | (rw [hy454]; with_reducible exact H) | (have H2_ := (Option.bind_some _ _).symm.trans H; rw [hy454]; with_reducible exact H2_) | (have H2_ := (Option.bind_some _ _).symm.trans H; with_reducible exact H2_) | with_reducible exact H | (rw [hy454]; exact H) | exact H
                                have Ny454 := Aside0.mk hy454
                                clear hy454
                                replace H := Option.bind_eq_some_iff.mp H
                                obtain ⟨t457, A480, H⟩ := H
                                replace H : (some t457) = some r := H
                                have A48 := Aside0.mk A480
                                clear A480
                                obtain rfl := Option.some.inj H
                                have hnb49 := NB424_434.out
                                have hnc49 := NB434_424.out
                                have hcz50_0 : wc.cell? ⟨gb424, 0, none⟩ = some (.string t419) := (blk_cell BK424.out 0).trans rfl
                                have hcz50_1 : wc.cell? ⟨gb424, 1, none⟩ = some (.slice Ao16 t420.length co16) := (blk_cell BK424.out 1).trans rfl
                                have hfz50_0 := blk_frozen BK424.out 0
                                have hfz50_1 := blk_frozen BK424.out 1
                                go_wp2_with (first | ((with_reducible refine gate_callee (f := 28) rfl ?_); refine goesL_ (some 83) rfl rfl Try.func28 (by kernel_rfl) rfl #[.slice Ao26 t425.length co26, .agg #[.string t419, .slice Ao16 t420.length co16]] rfl (by (try simp only [List.map_toArray, List.map_cons, List.map_nil]); first | done | rfl | (simp only [List.length_drop, List.length_take]; rfl)) ?_; (with_reducible refine (heap_Put.calls kj24 (fun k_ => (some k_ ≠ (.slice Ao16 t420.length co16 : Value).ownBlock ∧ (some k_ ≠ (.slice Ao31 t430.length co31 : Value).ownBlock ∧ (k_ ≠ gb424 ∧ k_ ≠ gb434)))) _ _ t425 t419 _ _ t420 t439 t442 t443 _ ?side1 ?side2 ?side3 A39.out).mono ?_); (case side1 => exact Kd.N_V (HO_7.out)); (case side2 => repeat (first | exact (Kd.R_reads' HO_425001.out).2.2 | (with_reducible refine Kd.C_alloc ?_ _) | (with_reducible refine Kd.C_drewN ?_ _) | (with_reducible refine Kd.C_drew ?_))); (case side3 => exact (Kd.R_reads' HO_425001.out).2.1); rintro e w51 ⟨v440, rfl, ho0, hb⟩; refine ⟨_, rfl, ?_⟩; have n0_ := Aside0.mk (Kd.N_elder' (by (with_reducible repeat (first | apply Kd.N_alloc | apply Kd.N_drewN | apply Kd.N_drew)); exact HO_7.out) (Kd.N_base ho0) hb); have n1_ := Aside0.mk (Kd.R_below (by (with_reducible repeat (first | apply Kd.R_alloc | apply Kd.R_drewN | apply Kd.R_drew)); exact HO_425001.out) hb); have n2_ := Aside0.mk (Kd.R_below (by (with_reducible repeat (first | apply Kd.R_alloc | apply Kd.R_drewN | apply Kd.R_drew)); exact HO_435001.out) hb); have n3_ := Aside0.mk (Kd.N_lower (Kd.N_mono (ok' := fun k_ => some k_ ≠ (.slice Ao16 t420.length co16 : Value).ownBlock ∧ some k_ ≠ (.slice Ao31 t430.length co31 : Value).ownBlock ∧ k_ ≠ gb424 ∧ k_ ≠ gb434) ho0 (fun k_ hk_ => ⟨Or.elim hk_ (fun hs_ => hs_.1) (fun hn_ => (Kd.fresh' (Kd.R_lt (by (with_reducible repeat (first | apply Kd.R_alloc | apply Kd.R_drewN | apply Kd.R_drew)); exact HO_425001.out)) k_ hn_)), Or.elim hk_ (fun hs_ => hs_.2.1) (fun hn_ => (Kd.fresh' (Kd.R_lt (by (with_reducible repeat (first | apply Kd.R_alloc | apply Kd.R_drewN | apply Kd.R_drew)); exact HO_435001.out)) k_ hn_)), Or.elim hk_ (fun hs_ => hs_.2.2.1) (fun hn_ => (Kd.freshB (g := gb424) (o := .cells #[.string t419, .slice Ao16 t420.length co16] 40 (0, 0)) (by (with_reducible repeat (first | refine blk_drewN ?_ _ | refine blk_drew ?_ | refine blk_alloc ?_ _)); exact BK424.out) k_ hn_)), Or.elim hk_ (fun hs_ => hs_.2.2.2) (fun hn_ => (Kd.freshB (g := gb434) (o := .cells #[.string t429, .slice Ao31 t430.length co31] 40 (0, 0)) (by (with_reducible repeat (first | refine blk_drewN ?_ _ | refine blk_drew ?_ | refine blk_alloc ?_ _)); exact BK434.out) k_ hn_))⟩)) (below_size (by repeat (first | (with_reducible first | exact HB.out | apply below_alloc | apply pw_below_drewN | apply below_drew1 | refine below_set ?_ GE424.out | refine below_set ?_ GE434.out) | exact HB.out)))); have n4_ := Aside0.mk (blk_below (g := gb424) (o := .cells #[.string t419, .slice Ao16 t420.length co16] 40 (0, 0)) (by (with_reducible repeat (first | refine blk_drewN ?_ _ | refine blk_drew ?_ | refine blk_alloc ?_ _)); exact BK424.out) hb); have n5_ := Aside0.mk (blk_below (g := gb434) (o := .cells #[.string t429, .slice Ao31 t430.length co31] 40 (0, 0)) (by (with_reducible repeat (first | refine blk_drewN ?_ _ | refine blk_drew ?_ | refine blk_alloc ?_ _)); exact BK434.out) hb); have n6_ := Aside0.mk (below_step (by repeat (first | (with_reducible first | exact HB.out | apply below_alloc | apply pw_below_drewN | apply below_drew1 | refine below_set ?_ GE424.out | refine below_set ?_ GE434.out) | exact HB.out)) hb); clear HO_7; clear HO_425001; clear HO_435001; clear BK424; clear BK434; clear HB; have HO_7 := n0_; have HO_425001 := n1_; have HO_435001 := n2_; have HO441 := n3_; have BK424 := n4_; have BK434 := n5_; have HB := n6_; clear n0_ n1_ n2_ n3_ n4_ n5_ n6_; (try clear hb); (try clear hb2); (try clear hk); (try clear hi); (try clear ho0); obtain ⟨Ao52, co52, eo52⟩ := Kd.N_slice HO441.out; subst eo52) | ((with_reducible refine gate_callee (f := 19) rfl ?_); refine goesL_ (some 90) rfl rfl Try.func19 (by kernel_rfl) rfl #[.slice Ao52 t439.length co52, .int .i64 t442] rfl (by (try simp only [List.map_toArray, List.map_cons, List.map_nil]); first | done | rfl | (simp only [List.length_drop, List.length_take]; rfl)) ?_; (with_reducible refine (heap_Get.calls _ _ t439 t442 t444 t445 t448 _ ?side1 ?side2 A40.out).mono ?_); (case side1 => repeat (first | exact (Kd.N_reads' HO441.out).2.2 | (with_reducible refine Kd.C_alloc ?_ _) | (with_reducible refine Kd.C_drewN ?_ _) | (with_reducible refine Kd.C_drew ?_))); (case side2 => exact (Kd.N_reads' HO441.out).2.1); rintro e w53 ⟨v446, rfl, ho0, hb⟩; refine ⟨_, rfl, ?_⟩; have n0_ := Aside0.mk (Kd.N_elder' (by (with_reducible repeat (first | apply Kd.N_alloc | apply Kd.N_drewN | apply Kd.N_drew)); exact HO_7.out) (Kd.R_base ho0) hb); have n1_ := Aside0.mk (Kd.R_elder' (by (with_reducible repeat (first | apply Kd.R_alloc | apply Kd.R_drewN | apply Kd.R_drew)); exact HO_425001.out) (Kd.R_base ho0) hb); have n2_ := Aside0.mk (Kd.R_elder' (by (with_reducible repeat (first | apply Kd.R_alloc | apply Kd.R_drewN | apply Kd.R_drew)); exact HO_435001.out) (Kd.R_base ho0) hb); have n3_ := Aside0.mk (Kd.N_elder' (by (with_reducible repeat (first | apply Kd.N_alloc | apply Kd.N_drewN | apply Kd.N_drew)); exact HO441.out) (Kd.R_base ho0) hb); have n4_ := Aside0.mk (Kd.R_lower (Kd.R_new' (Kd.R_new' ho0 (Kd.R_lt (by (with_reducible repeat (first | apply Kd.R_alloc | apply Kd.R_drewN | apply Kd.R_drew)); exact HO_425001.out))) (Kd.R_lt (by (with_reducible repeat (first | apply Kd.R_alloc | apply Kd.R_drewN | apply Kd.R_drew)); exact HO_435001.out))) (below_size (by repeat (first | (with_reducible first | exact HB.out | apply below_alloc | apply pw_below_drewN | apply below_drew1 | refine below_set ?_ GE424.out | refine below_set ?_ GE434.out) | exact HB.out)))); have n5_ := Aside0.mk (blk_below (g := gb424) (o := .cells #[.string t419, .slice Ao16 t420.length co16] 40 (0, 0)) (by (with_reducible repeat (first | refine blk_drewN ?_ _ | refine blk_drew ?_ | refine blk_alloc ?_ _)); exact BK424.out) hb); have n6_ := Aside0.mk (blk_below (g := gb434) (o := .cells #[.string t429, .slice Ao31 t430.length co31] 40 (0, 0)) (by (with_reducible repeat (first | refine blk_drewN ?_ _ | refine blk_drew ?_ | refine blk_alloc ?_ _)); exact BK434.out) hb); have n7_ := Aside0.mk (below_step (by repeat (first | (with_reducible first | exact HB.out | apply below_alloc | apply pw_below_drewN | apply below_drew1 | refine below_set ?_ GE424.out | refine below_set ?_ GE434.out) | exact HB.out)) hb); clear HO_7; clear HO_425001; clear HO_435001; clear HO441; clear BK424; clear BK434; clear HB; have HO_7 := n0_; have HO_425001 := n1_; have HO_435001 := n2_; have HO441 := n3_; have HO447 := n4_; have BK424 := n5_; have BK434 := n6_; have HB := n7_; clear n0_ n1_ n2_ n3_ n4_ n5_ n6_ n7_; (try clear hb); (try clear hb2); (try clear hk); (try clear hi); (try clear ho0)) | ((with_reducible refine gate_dst (N := 17) rfl ?_); (try (refine gate_guard (by rfl) ?_; dsimp only)); refine box_event ?hg (N := 17) ?hd (cs := #[.string (⟨#[]⟩ : ByteArray), .slice none 0 0]) (t := 40) ?hr ?_; (case hd => rfl); (case hg => rfl); (case hr => first | (go_simp; done) | (go_simp; rfl)); intro gb449 hg w54 hbox hb; have n0_ := Aside0.mk (Kd.N_below (Kd.N_elderB (by (with_reducible repeat (first | apply Kd.N_alloc | apply Kd.N_drewN | apply Kd.N_drew)); exact HO_7.out) gb449 (Nat.le_of_eq hg.symm)) hb); have n1_ := Aside0.mk (Kd.R_below (by (with_reducible repeat (first | apply Kd.R_alloc | apply Kd.R_drewN | apply Kd.R_drew)); exact HO_425001.out) hb); have n2_ := Aside0.mk (Kd.R_below (by (with_reducible repeat (first | apply Kd.R_alloc | apply Kd.R_drewN | apply Kd.R_drew)); exact HO_435001.out) hb); have n3_ := Aside0.mk (Kd.N_below (Kd.N_elderB (by (with_reducible repeat (first | apply Kd.N_alloc | apply Kd.N_drewN | apply Kd.N_drew)); exact HO441.out) gb449 (Nat.le_of_eq hg.symm)) hb); have n4_ := Aside0.mk (Kd.R_below (by (with_reducible repeat (first | apply Kd.R_alloc | apply Kd.R_drewN | apply Kd.R_drew)); exact HO447.out) hb); have n5_ := Aside0.mk (blk_below (g := gb424) (o := .cells #[.string t419, .slice Ao16 t420.length co16] 40 (0, 0)) (by (with_reducible repeat (first | refine blk_drewN ?_ _ | refine blk_drew ?_ | refine blk_alloc ?_ _)); exact BK424.out) hb); have n6_ := Aside0.mk (blk_below (g := gb434) (o := .cells #[.string t429, .slice Ao31 t430.length co31] 40 (0, 0)) (by (with_reducible repeat (first | refine blk_drewN ?_ _ | refine blk_drew ?_ | refine blk_alloc ?_ _)); exact BK434.out) hb); have n7_ := Aside0.mk (below_step (by repeat (first | (with_reducible first | exact HB.out | apply below_alloc | apply pw_below_drewN | apply below_drew1 | refine below_set ?_ GE424.out | refine below_set ?_ GE434.out) | exact HB.out)) hb); have n8_ := Aside0.mk (hbox); have n9_ := Aside0.mk ((by rw [hg]; exact (below_size (by repeat (first | (with_reducible first | exact HB.out | apply below_alloc | apply pw_below_drewN | apply below_drew1 | refine below_set ?_ GE424.out | refine below_set ?_ GE434.out) | exact HB.out))) : w.heap.size ≤ gb449)); have n10_ := Aside0.mk ((by rw [hg]; exact (below_size (by repeat (first | (with_reducible first | exact HB.out | apply below_alloc | apply pw_below_drewN | apply below_drew1 | refine below_set ?_ GE424.out | refine below_set ?_ GE434.out) | exact HB.out))) : w.heap.size ≤ gb449)); have n11_ := Aside0.mk ((by rw [hg]; exact Nat.ne_of_lt (blk_lt (g := gb424) (o := .cells #[.string t419, .slice Ao16 t420.length co16] 40 (0, 0)) (by (with_reducible repeat (first | refine blk_drewN ?_ _ | refine blk_drew ?_ | refine blk_alloc ?_ _)); exact BK424.out)) : gb424 ≠ gb449)); have n12_ := Aside0.mk ((by rw [hg]; exact Nat.ne_of_gt (blk_lt (g := gb424) (o := .cells #[.string t419, .slice Ao16 t420.length co16] 40 (0, 0)) (by (with_reducible repeat (first | refine blk_drewN ?_ _ | refine blk_drew ?_ | refine blk_alloc ?_ _)); exact BK424.out)) : gb449 ≠ gb424)); have n13_ := Aside0.mk ((by rw [hg]; exact Nat.ne_of_lt (blk_lt (g := gb434) (o := .cells #[.string t429, .slice Ao31 t430.length co31] 40 (0, 0)) (by (with_reducible repeat (first | refine blk_drewN ?_ _ | refine blk_drew ?_ | refine blk_alloc ?_ _)); exact BK434.out)) : gb434 ≠ gb449)); have n14_ := Aside0.mk ((by rw [hg]; exact Nat.ne_of_gt (blk_lt (g := gb434) (o := .cells #[.string t429, .slice Ao31 t430.length co31] 40 (0, 0)) (by (with_reducible repeat (first | refine blk_drewN ?_ _ | refine blk_drew ?_ | refine blk_alloc ?_ _)); exact BK434.out)) : gb449 ≠ gb434)); clear HO_7; clear HO_425001; clear HO_435001; clear HO441; clear HO447; clear BK424; clear BK434; clear HB; have HO_7 := n0_; have HO_425001 := n1_; have HO_435001 := n2_; have HO441 := n3_; have HO447 := n4_; have BK424 := n5_; have BK434 := n6_; have HB := n7_; have BK449 := n8_; have GW449 := n9_; have GE449 := n10_; have NB424_449 := n11_; have NB449_424 := n12_; have NB434_449 := n13_; have NB449_434 := n14_; clear n0_ n1_ n2_ n3_ n4_ n5_ n6_ n7_ n8_ n9_ n10_ n11_ n12_ n13_ n14_; clear hb hbox hg; have hnb55 := NB449_424.out; have hnc55 := NB424_449.out; have hnb56 := NB449_434.out; have hnc56 := NB434_449.out; have hcz57_0 : w54.cell? ⟨gb449, 0, none⟩ = some (.string (⟨#[]⟩ : ByteArray)) := (blk_cell BK449.out 0).trans rfl; have hcz57_1 : w54.cell? ⟨gb449, 1, none⟩ = some (.slice none 0 0) := (blk_cell BK449.out 1).trans rfl; have hfz57_0 := blk_frozen BK449.out 0; have hfz57_1 := blk_frozen BK449.out 1; obtain ⟨Ao58, co58, eo58⟩ := Kd.R_slice HO447.out; subst eo58) | (go_at_call 18; (with_reducible refine (heap_Check.calls _ _ t425 t450 _ ?side1 ?side2 A42.out).mono ?_); (case side1 => refine (Kd.N_reads' (e := 40) (base := w.heap.size) (ok := fun k_ => ((((some k_ ≠ (.slice Ao16 t420.length co16 : Value).ownBlock ∧ (some k_ ≠ (.slice Ao31 t430.length co31 : Value).ownBlock ∧ (k_ ≠ gb424 ∧ k_ ≠ gb434))) ∧ some k_ ≠ (.slice Ao52 t439.length co52 : Value).ownBlock) ∧ some k_ ≠ (.slice Ao58 t445.length co58 : Value).ownBlock) ∧ k_ ≠ gb449)) (n := t425.length) (c := co26) ?_).2.2; exact (by (with_reducible repeat (first | apply Kd.N_alloc | apply Kd.N_drewN | apply Kd.N_drew)); exact (Kd.N_mono (Kd.N_far (p := ⟨gb449, 1, none⟩) (Kd.N_far (p := ⟨gb449, 0, none⟩) (Kd.N_mono HO_7.out (fun k_ hk => (⟨hk, hk.2⟩ : _ ∧ k_ ≠ gb449))) (fun _ hk => hk.2) (.string t444)) (fun _ hk => hk.2) (.slice Ao58 t445.length co58)) (fun _ h_ => h_.1)))); (case side2 => exact (Kd.N_reads' HO_7.out).2.1); rintro e w59 ⟨rfl, hb⟩; have n0_ := Aside0.mk (Kd.N_below (by (with_reducible repeat (first | apply Kd.N_alloc | apply Kd.N_drewN | apply Kd.N_drew)); exact (Kd.N_mono (Kd.N_far (p := ⟨gb449, 1, none⟩) (Kd.N_far (p := ⟨gb449, 0, none⟩) (Kd.N_mono HO_7.out (fun k_ hk => (⟨hk, hk.2⟩ : _ ∧ k_ ≠ gb449))) (fun _ hk => hk.2) (.string t444)) (fun _ hk => hk.2) (.slice Ao58 t445.length co58)) (fun _ h_ => h_.1))) hb); have n1_ := Aside0.mk (Kd.R_below (by (with_reducible repeat (first | apply Kd.R_alloc | apply Kd.R_drewN | apply Kd.R_drew)); exact (Kd.R_mono (Kd.R_far (p := ⟨gb449, 1, none⟩) (Kd.R_far (p := ⟨gb449, 0, none⟩) (Kd.R_types HO_425001.out BK449.out (by decide)) (fun _ hk => hk.2) (.string t444)) (fun _ hk => hk.2) (.slice Ao58 t445.length co58)) (fun _ h_ => h_.1))) hb); have n2_ := Aside0.mk (Kd.R_below (by (with_reducible repeat (first | apply Kd.R_alloc | apply Kd.R_drewN | apply Kd.R_drew)); exact (Kd.R_mono (Kd.R_far (p := ⟨gb449, 1, none⟩) (Kd.R_far (p := ⟨gb449, 0, none⟩) (Kd.R_types HO_435001.out BK449.out (by decide)) (fun _ hk => hk.2) (.string t444)) (fun _ hk => hk.2) (.slice Ao58 t445.length co58)) (fun _ h_ => h_.1))) hb); have n3_ := Aside0.mk (Kd.N_below (by (with_reducible repeat (first | apply Kd.N_alloc | apply Kd.N_drewN | apply Kd.N_drew)); exact (Kd.N_mono (Kd.N_far (p := ⟨gb449, 1, none⟩) (Kd.N_far (p := ⟨gb449, 0, none⟩) (Kd.N_mono HO441.out (fun k_ hk => (⟨hk, hk.2⟩ : _ ∧ k_ ≠ gb449))) (fun _ hk => hk.2) (.string t444)) (fun _ hk => hk.2) (.slice Ao58 t445.length co58)) (fun _ h_ => h_.1))) hb); have n4_ := Aside0.mk (Kd.R_below (by (with_reducible repeat (first | apply Kd.R_alloc | apply Kd.R_drewN | apply Kd.R_drew)); exact (Kd.R_mono (Kd.R_far (p := ⟨gb449, 1, none⟩) (Kd.R_far (p := ⟨gb449, 0, none⟩) (Kd.R_types HO447.out BK449.out (by decide)) (fun _ hk => hk.2) (.string t444)) (fun _ hk => hk.2) (.slice Ao58 t445.length co58)) (fun _ h_ => h_.1))) hb); have n5_ := Aside0.mk (blk_below (g := gb424) (o := .cells #[.string t419, .slice Ao16 t420.length co16] 40 (0, 0)) (by (with_reducible repeat (first | refine blk_drewN ?_ _ | refine blk_drew ?_ | refine blk_alloc ?_ _)); refine blk_far ?_ NB424_449.out _; (with_reducible repeat (first | refine blk_drewN ?_ _ | refine blk_drew ?_ | refine blk_alloc ?_ _)); refine blk_far ?_ NB424_449.out _; (with_reducible repeat (first | refine blk_drewN ?_ _ | refine blk_drew ?_ | refine blk_alloc ?_ _)); exact BK424.out) hb); have n6_ := Aside0.mk (blk_below (g := gb434) (o := .cells #[.string t429, .slice Ao31 t430.length co31] 40 (0, 0)) (by (with_reducible repeat (first | refine blk_drewN ?_ _ | refine blk_drew ?_ | refine blk_alloc ?_ _)); refine blk_far ?_ NB434_449.out _; (with_reducible repeat (first | refine blk_drewN ?_ _ | refine blk_drew ?_ | refine blk_alloc ?_ _)); refine blk_far ?_ NB434_449.out _; (with_reducible repeat (first | refine blk_drewN ?_ _ | refine blk_drew ?_ | refine blk_alloc ?_ _)); exact BK434.out) hb); have n7_ := Aside0.mk (blk_below (g := gb449) (o := .cells #[.string t444, .slice Ao58 t445.length co58] 40 (0, 0)) (by (with_reducible repeat (first | refine blk_drewN ?_ _ | refine blk_drew ?_ | refine blk_alloc ?_ _)); refine blk_put (cs := #[.string t444, .slice none 0 0]) ?_ 1 _ rfl; (with_reducible repeat (first | refine blk_drewN ?_ _ | refine blk_drew ?_ | refine blk_alloc ?_ _)); refine blk_put (cs := #[.string (⟨#[]⟩ : ByteArray), .slice none 0 0]) ?_ 0 _ rfl; (with_reducible repeat (first | refine blk_drewN ?_ _ | refine blk_drew ?_ | refine blk_alloc ?_ _)); exact BK449.out) hb); have n8_ := Aside0.mk (below_step (by repeat (first | (with_reducible first | exact HB.out | apply below_alloc | apply pw_below_drewN | apply below_drew1 | refine below_set ?_ GE424.out | refine below_set ?_ GE434.out | refine below_set ?_ GE449.out) | exact HB.out)) hb); clear HO_7; clear HO_425001; clear HO_435001; clear HO441; clear HO447; clear BK424; clear BK434; clear BK449; clear HB; have HO_7 := n0_; have HO_425001 := n1_; have HO_435001 := n2_; have HO441 := n3_; have HO447 := n4_; have BK424 := n5_; have BK434 := n6_; have BK449 := n7_; have HB := n8_; clear n0_ n1_ n2_ n3_ n4_ n5_ n6_ n7_ n8_; (try clear hb); (try clear hb2); (try clear hk); (try clear hi); have hcz60_0 : w59.cell? ⟨gb424, 0, none⟩ = some (.string t419) := (blk_cell BK424.out 0).trans rfl; have hcz60_1 : w59.cell? ⟨gb424, 1, none⟩ = some (.slice Ao16 t420.length co16) := (blk_cell BK424.out 1).trans rfl; have hfz60_0 := blk_frozen BK424.out 0; have hfz60_1 := blk_frozen BK424.out 1) | ((with_reducible refine gate_dst (N := 120) rfl ?_); (try (refine gate_guard (by rfl) ?_; dsimp only)); refine Kd.N_lit k40 _ 40 ?hg (N' := 120) ?hd (xs := ([(⟨t419, t420⟩ : S40)] : List (S40))) (inner := [.string t419, .slice Ao16 t420.length co16]) (ok := (fun k_ => some k_ ≠ (.slice Ao26 t425.length co26 : Value).ownBlock ∧ some k_ ≠ (.slice Ao31 t430.length co31 : Value).ownBlock ∧ some k_ ≠ (.slice Ao52 t439.length co52 : Value).ownBlock ∧ some k_ ≠ (.slice Ao58 t445.length co58 : Value).ownBlock ∧ k_ ≠ gb424 ∧ k_ ≠ gb434 ∧ k_ ≠ gb449)) (okp := (fun k_ => some k_ ≠ (.slice Ao26 t425.length co26 : Value).ownBlock ∧ some k_ ≠ (.slice Ao31 t430.length co31 : Value).ownBlock ∧ some k_ ≠ (.slice Ao52 t439.length co52 : Value).ownBlock ∧ some k_ ≠ (.slice Ao58 t445.length co58 : Value).ownBlock ∧ k_ ≠ gb424 ∧ k_ ≠ gb434 ∧ k_ ≠ gb449)) ?hr ?hp (fun _ hk => hk) ((show ∀ k_, w59.heap.size ≤ k_ → (fun k_ => some k_ ≠ (.slice Ao26 t425.length co26 : Value).ownBlock ∧ some k_ ≠ (.slice Ao31 t430.length co31 : Value).ownBlock ∧ some k_ ≠ (.slice Ao52 t439.length co52 : Value).ownBlock ∧ some k_ ≠ (.slice Ao58 t445.length co58 : Value).ownBlock ∧ k_ ≠ gb424 ∧ k_ ≠ gb434 ∧ k_ ≠ gb449) k_ from fun k_ hk => ⟨Kd.fresh' (Kd.N_lt (by (with_reducible repeat (first | apply Kd.N_alloc | apply Kd.N_drewN | apply Kd.N_drew)); exact HO_7.out)) k_ hk, Kd.fresh' (Kd.R_lt (by (with_reducible repeat (first | apply Kd.R_alloc | apply Kd.R_drewN | apply Kd.R_drew)); exact HO_435001.out)) k_ hk, Kd.fresh' (Kd.N_lt (by (with_reducible repeat (first | apply Kd.N_alloc | apply Kd.N_drewN | apply Kd.N_drew)); exact HO441.out)) k_ hk, Kd.fresh' (Kd.R_lt (by (with_reducible repeat (first | apply Kd.R_alloc | apply Kd.R_drewN | apply Kd.R_drew)); exact HO447.out)) k_ hk, Kd.freshB (g := gb424) (o := .cells #[.string t419, .slice Ao16 t420.length co16] 40 (0, 0)) (by (with_reducible repeat (first | refine blk_drewN ?_ _ | refine blk_drew ?_ | refine blk_alloc ?_ _)); exact BK424.out) k_ hk, Kd.freshB (g := gb434) (o := .cells #[.string t429, .slice Ao31 t430.length co31] 40 (0, 0)) (by (with_reducible repeat (first | refine blk_drewN ?_ _ | refine blk_drew ?_ | refine blk_alloc ?_ _)); exact BK434.out) k_ hk, Kd.freshB (g := gb449) (o := .cells #[.string t444, .slice Ao58 t445.length co58] 40 (0, 0)) (by (with_reducible repeat (first | refine blk_drewN ?_ _ | refine blk_drew ?_ | refine blk_alloc ?_ _)); exact BK449.out) k_ hk⟩) _ (Nat.le_refl _)) (Below.refl _ _) (Nat.le_refl _) (by simp) ?_; (case hd => rfl); (case hg => rfl); (case hr => first | (go_simp; done) | (go_simp; rfl)); (case hp => exact (Reps.c2 (show Kd.FK k40 _ _ (⟨t419, t420⟩ : S40) [.string t419, .slice Ao16 t420.length co16] from (k40_mkF _ _ (⟨t419, t420⟩ : S40) (Kd.R_reads' (Kd.R_mono (ok' := (fun k_ => some k_ ≠ (.slice Ao26 t425.length co26 : Value).ownBlock ∧ some k_ ≠ (.slice Ao31 t430.length co31 : Value).ownBlock ∧ some k_ ≠ (.slice Ao52 t439.length co52 : Value).ownBlock ∧ some k_ ≠ (.slice Ao58 t445.length co58 : Value).ownBlock ∧ k_ ≠ gb424 ∧ k_ ≠ gb434 ∧ k_ ≠ gb449)) (Kd.R_types (Kd.R_types (Kd.R_types (Kd.R_apart' (Kd.R_apart' (HO_425001.out) (Kd.N_typed HO_7.out) (by decide)) (Kd.N_typed HO441.out) (by decide)) BK424.out (by decide)) BK434.out (by decide)) BK449.out (by decide)) (fun k_ hk => ⟨hk.1.1.1.1.2, ⟨hk.1.1.1.1.1.1, ⟨hk.1.1.1.2, ⟨hk.1.1.1.1.1.2, ⟨hk.1.1.2, ⟨hk.1.2, hk.2⟩⟩⟩⟩⟩⟩))).2.1 (Kd.R_F (Kd.R_mono (ok' := (fun k_ => some k_ ≠ (.slice Ao26 t425.length co26 : Value).ownBlock ∧ some k_ ≠ (.slice Ao31 t430.length co31 : Value).ownBlock ∧ some k_ ≠ (.slice Ao52 t439.length co52 : Value).ownBlock ∧ some k_ ≠ (.slice Ao58 t445.length co58 : Value).ownBlock ∧ k_ ≠ gb424 ∧ k_ ≠ gb434 ∧ k_ ≠ gb449)) (Kd.R_types (Kd.R_types (Kd.R_types (Kd.R_apart' (Kd.R_apart' (HO_425001.out) (Kd.N_typed HO_7.out) (by decide)) (Kd.N_typed HO441.out) (by decide)) BK424.out (by decide)) BK434.out (by decide)) BK449.out (by decide)) (fun k_ hk => ⟨hk.1.1.1.1.2, ⟨hk.1.1.1.1.1.1, ⟨hk.1.1.1.2, ⟨hk.1.1.1.1.1.2, ⟨hk.1.1.2, ⟨hk.1.2, hk.2⟩⟩⟩⟩⟩⟩))))) (Reps.none _ _))); intro v452 w61 ho62 hb hg_ hnew_; clear hg_ hnew_; (first | rw [← Ny451.out] at ho62 | (simp only [Int.reduceToNat] at ho62; rw [← Ny451.out] at ho62)); have n0_ := Aside0.mk (Kd.N_elder' (by (with_reducible repeat (first | apply Kd.N_alloc | apply Kd.N_drewN | apply Kd.N_drew)); exact HO_7.out) (Kd.N_base ho62) hb); have n1_ := Aside0.mk (Kd.R_below (by (with_reducible repeat (first | apply Kd.R_alloc | apply Kd.R_drewN | apply Kd.R_drew)); exact HO_435001.out) hb); have n2_ := Aside0.mk (Kd.N_elder' (by (with_reducible repeat (first | apply Kd.N_alloc | apply Kd.N_drewN | apply Kd.N_drew)); exact HO441.out) (Kd.N_base ho62) hb); have n3_ := Aside0.mk (Kd.R_below (by (with_reducible repeat (first | apply Kd.R_alloc | apply Kd.R_drewN | apply Kd.R_drew)); exact HO447.out) hb); have n4_ := Aside0.mk (Kd.N_lower ho62 (below_size (by repeat (first | (with_reducible first | exact HB.out | apply below_alloc | apply pw_below_drewN | apply below_drew1 | refine below_set ?_ GE424.out | refine below_set ?_ GE434.out | refine below_set ?_ GE449.out) | exact HB.out)))); have n5_ := Aside0.mk (blk_below (g := gb424) (o := .cells #[.string t419, .slice Ao16 t420.length co16] 40 (0, 0)) (by (with_reducible repeat (first | refine blk_drewN ?_ _ | refine blk_drew ?_ | refine blk_alloc ?_ _)); exact BK424.out) hb); have n6_ := Aside0.mk (blk_below (g := gb434) (o := .cells #[.string t429, .slice Ao31 t430.length co31] 40 (0, 0)) (by (with_reducible repeat (first | refine blk_drewN ?_ _ | refine blk_drew ?_ | refine blk_alloc ?_ _)); exact BK434.out) hb); have n7_ := Aside0.mk (blk_below (g := gb449) (o := .cells #[.string t444, .slice Ao58 t445.length co58] 40 (0, 0)) (by (with_reducible repeat (first | refine blk_drewN ?_ _ | refine blk_drew ?_ | refine blk_alloc ?_ _)); exact BK449.out) hb); have n8_ := Aside0.mk (below_step (by repeat (first | (with_reducible first | exact HB.out | apply below_alloc | apply pw_below_drewN | apply below_drew1 | refine below_set ?_ GE424.out | refine below_set ?_ GE434.out | refine below_set ?_ GE449.out) | exact HB.out)) hb); clear HO_7; clear HO_435001; clear HO441; clear HO447; clear BK424; clear BK434; clear BK449; clear HB; clear HO_425001; have HO_7 := n0_; have HO_435001 := n1_; have HO441 := n2_; have HO447 := n3_; have HO453 := n4_; have BK424 := n5_; have BK434 := n6_; have BK449 := n7_; have HB := n8_; clear n0_ n1_ n2_ n3_ n4_ n5_ n6_ n7_ n8_; clear hb ho62; have hcz63_0 : w61.cell? ⟨gb449, 0, none⟩ = some (.string t444) := (blk_cell BK449.out 0).trans rfl; have hcz63_1 : w61.cell? ⟨gb449, 1, none⟩ = some (.slice Ao58 t445.length co58) := (blk_cell BK449.out 1).trans rfl; have hfz63_0 := blk_frozen BK449.out 0; have hfz63_1 := blk_frozen BK449.out 1) | ((with_reducible refine gate_dst (N := 122) rfl ?_); (try (refine gate_guard (by rfl) ?_; dsimp only)); refine Kd.N_lit k40 _ 40 ?hg (N' := 122) ?hd (xs := ([(⟨t444, t445⟩ : S40)] : List (S40))) (inner := [.string t444, .slice Ao58 t445.length co58]) (ok := (fun k_ => some k_ ≠ (.slice Ao26 t425.length co26 : Value).ownBlock ∧ some k_ ≠ (.slice Ao31 t430.length co31 : Value).ownBlock ∧ some k_ ≠ (.slice Ao52 t439.length co52 : Value).ownBlock ∧ some k_ ≠ (v452 : Value).ownBlock ∧ k_ ≠ gb424 ∧ k_ ≠ gb434 ∧ k_ ≠ gb449)) (okp := (fun k_ => some k_ ≠ (.slice Ao26 t425.length co26 : Value).ownBlock ∧ some k_ ≠ (.slice Ao31 t430.length co31 : Value).ownBlock ∧ some k_ ≠ (.slice Ao52 t439.length co52 : Value).ownBlock ∧ some k_ ≠ (v452 : Value).ownBlock ∧ k_ ≠ gb424 ∧ k_ ≠ gb434 ∧ k_ ≠ gb449)) ?hr ?hp (fun _ hk => hk) ((show ∀ k_, w61.heap.size ≤ k_ → (fun k_ => some k_ ≠ (.slice Ao26 t425.length co26 : Value).ownBlock ∧ some k_ ≠ (.slice Ao31 t430.length co31 : Value).ownBlock ∧ some k_ ≠ (.slice Ao52 t439.length co52 : Value).ownBlock ∧ some k_ ≠ (v452 : Value).ownBlock ∧ k_ ≠ gb424 ∧ k_ ≠ gb434 ∧ k_ ≠ gb449) k_ from fun k_ hk => ⟨Kd.fresh' (Kd.N_lt (by (with_reducible repeat (first | apply Kd.N_alloc | apply Kd.N_drewN | apply Kd.N_drew)); exact HO_7.out)) k_ hk, Kd.fresh' (Kd.R_lt (by (with_reducible repeat (first | apply Kd.R_alloc | apply Kd.R_drewN | apply Kd.R_drew)); exact HO_435001.out)) k_ hk, Kd.fresh' (Kd.N_lt (by (with_reducible repeat (first | apply Kd.N_alloc | apply Kd.N_drewN | apply Kd.N_drew)); exact HO441.out)) k_ hk, Kd.fresh' (Kd.N_lt (by (with_reducible repeat (first | apply Kd.N_alloc | apply Kd.N_drewN | apply Kd.N_drew)); exact HO453.out)) k_ hk, Kd.freshB (g := gb424) (o := .cells #[.string t419, .slice Ao16 t420.length co16] 40 (0, 0)) (by (with_reducible repeat (first | refine blk_drewN ?_ _ | refine blk_drew ?_ | refine blk_alloc ?_ _)); exact BK424.out) k_ hk, Kd.freshB (g := gb434) (o := .cells #[.string t429, .slice Ao31 t430.length co31] 40 (0, 0)) (by (with_reducible repeat (first | refine blk_drewN ?_ _ | refine blk_drew ?_ | refine blk_alloc ?_ _)); exact BK434.out) k_ hk, Kd.freshB (g := gb449) (o := .cells #[.string t444, .slice Ao58 t445.length co58] 40 (0, 0)) (by (with_reducible repeat (first | refine blk_drewN ?_ _ | refine blk_drew ?_ | refine blk_alloc ?_ _)); exact BK449.out) k_ hk⟩) _ (Nat.le_refl _)) (Below.refl _ _) (Nat.le_refl _) (by simp) ?_; (case hd => rfl); (case hg => rfl); (case hr => first | (go_simp; done) | (go_simp; rfl)); (case hp => exact (Reps.c2 (show Kd.FK k40 _ _ (⟨t444, t445⟩ : S40) [.string t444, .slice Ao58 t445.length co58] from (k40_mkF _ _ (⟨t444, t445⟩ : S40) (Kd.R_reads' (Kd.R_mono (ok' := (fun k_ => some k_ ≠ (.slice Ao26 t425.length co26 : Value).ownBlock ∧ some k_ ≠ (.slice Ao31 t430.length co31 : Value).ownBlock ∧ some k_ ≠ (.slice Ao52 t439.length co52 : Value).ownBlock ∧ some k_ ≠ (v452 : Value).ownBlock ∧ k_ ≠ gb424 ∧ k_ ≠ gb434 ∧ k_ ≠ gb449)) (Kd.R_types (Kd.R_types (Kd.R_types (Kd.R_apart' (Kd.R_apart' (Kd.R_apart' (HO447.out) (Kd.N_typed HO_7.out) (by decide)) (Kd.N_typed HO441.out) (by decide)) (Kd.N_typed HO453.out) (by decide)) BK424.out (by decide)) BK434.out (by decide)) BK449.out (by decide)) (fun k_ hk => ⟨hk.1.1.1.1.1.2, ⟨hk.1.1.1.1.1.1.2, ⟨hk.1.1.1.1.2, ⟨hk.1.1.1.2, ⟨hk.1.1.2, ⟨hk.1.2, hk.2⟩⟩⟩⟩⟩⟩))).2.1 (Kd.R_F (Kd.R_mono (ok' := (fun k_ => some k_ ≠ (.slice Ao26 t425.length co26 : Value).ownBlock ∧ some k_ ≠ (.slice Ao31 t430.length co31 : Value).ownBlock ∧ some k_ ≠ (.slice Ao52 t439.length co52 : Value).ownBlock ∧ some k_ ≠ (v452 : Value).ownBlock ∧ k_ ≠ gb424 ∧ k_ ≠ gb434 ∧ k_ ≠ gb449)) (Kd.R_types (Kd.R_types (Kd.R_types (Kd.R_apart' (Kd.R_apart' (Kd.R_apart' (HO447.out) (Kd.N_typed HO_7.out) (by decide)) (Kd.N_typed HO441.out) (by decide)) (Kd.N_typed HO453.out) (by decide)) BK424.out (by decide)) BK434.out (by decide)) BK449.out (by decide)) (fun k_ hk => ⟨hk.1.1.1.1.1.2, ⟨hk.1.1.1.1.1.1.2, ⟨hk.1.1.1.1.2, ⟨hk.1.1.1.2, ⟨hk.1.1.2, ⟨hk.1.2, hk.2⟩⟩⟩⟩⟩⟩))))) (Reps.none _ _))); intro v455 w64 ho65 hb hg_ hnew_; clear hg_ hnew_; (first | rw [← Ny454.out] at ho65 | (simp only [Int.reduceToNat] at ho65; rw [← Ny454.out] at ho65)); have n0_ := Aside0.mk (Kd.N_elder' (by (with_reducible repeat (first | apply Kd.N_alloc | apply Kd.N_drewN | apply Kd.N_drew)); exact HO_7.out) (Kd.N_base ho65) hb); have n1_ := Aside0.mk (Kd.R_below (by (with_reducible repeat (first | apply Kd.R_alloc | apply Kd.R_drewN | apply Kd.R_drew)); exact HO_435001.out) hb); have n2_ := Aside0.mk (Kd.N_elder' (by (with_reducible repeat (first | apply Kd.N_alloc | apply Kd.N_drewN | apply Kd.N_drew)); exact HO441.out) (Kd.N_base ho65) hb); have n3_ := Aside0.mk (Kd.N_elder' (by (with_reducible repeat (first | apply Kd.N_alloc | apply Kd.N_drewN | apply Kd.N_drew)); exact HO453.out) (Kd.N_base ho65) hb); have n4_ := Aside0.mk (Kd.N_lower ho65 (below_size (by repeat (first | (with_reducible first | exact HB.out | apply below_alloc | apply pw_below_drewN | apply below_drew1 | refine below_set ?_ GE424.out | refine below_set ?_ GE434.out | refine below_set ?_ GE449.out) | exact HB.out)))); have n5_ := Aside0.mk (blk_below (g := gb424) (o := .cells #[.string t419, .slice Ao16 t420.length co16] 40 (0, 0)) (by (with_reducible repeat (first | refine blk_drewN ?_ _ | refine blk_drew ?_ | refine blk_alloc ?_ _)); exact BK424.out) hb); have n6_ := Aside0.mk (blk_below (g := gb434) (o := .cells #[.string t429, .slice Ao31 t430.length co31] 40 (0, 0)) (by (with_reducible repeat (first | refine blk_drewN ?_ _ | refine blk_drew ?_ | refine blk_alloc ?_ _)); exact BK434.out) hb); have n7_ := Aside0.mk (blk_below (g := gb449) (o := .cells #[.string t444, .slice Ao58 t445.length co58] 40 (0, 0)) (by (with_reducible repeat (first | refine blk_drewN ?_ _ | refine blk_drew ?_ | refine blk_alloc ?_ _)); exact BK449.out) hb); have n8_ := Aside0.mk (below_step (by repeat (first | (with_reducible first | exact HB.out | apply below_alloc | apply pw_below_drewN | apply below_drew1 | refine below_set ?_ GE424.out | refine below_set ?_ GE434.out | refine below_set ?_ GE449.out) | exact HB.out)) hb); clear HO_7; clear HO_435001; clear HO441; clear HO453; clear BK424; clear BK434; clear BK449; clear HB; clear HO447; have HO_7 := n0_; have HO_435001 := n1_; have HO441 := n2_; have HO453 := n3_; have HO456 := n4_; have BK424 := n5_; have BK434 := n6_; have BK449 := n7_; have HB := n8_; clear n0_ n1_ n2_ n3_ n4_ n5_ n6_ n7_ n8_; clear hb ho65; obtain ⟨Ao66, co66, eo66⟩ := Kd.N_slice HO453.out; subst eo66; obtain ⟨Ao67, co67, eo67⟩ := Kd.N_slice HO456.out; subst eo67) | (go_at_call 15; (with_reducible refine (larchbase_SameObjects.calls kj24 _ _ y451 _ _ y454 t457 _ ?side1 ?side2 ?side3 ?side4 A48.out).mono ?_); (case side1 => repeat (first | exact (Kd.N_reads' HO453.out).2.2 | (with_reducible refine Kd.C_alloc ?_ _) | (with_reducible refine Kd.C_drewN ?_ _) | (with_reducible refine Kd.C_drew ?_))); (case side2 => exact (Kd.N_reads' HO453.out).2.1); (case side3 => repeat (first | exact (Kd.N_reads' HO456.out).2.2 | (with_reducible refine Kd.C_alloc ?_ _) | (with_reducible refine Kd.C_drewN ?_ _) | (with_reducible refine Kd.C_drew ?_))); (case side4 => exact (Kd.N_reads' HO456.out).2.1); rintro e w' ⟨rfl, ⟨nd, rfl⟩⟩))
                                go_ret
                                exact ⟨by first | rfl | (simp [errW_none, errW_some] <;> rfl) | (simp [*, errW_none, errW_some] <;> rfl), by repeat (first | (with_reducible first | exact HB.out | apply below_alloc | apply pw_below_drewN | apply below_drew1 | refine below_set ?_ GE424.out | refine below_set ?_ GE434.out | refine below_set ?_ GE449.out) | exact HB.out)⟩
                              · rw [if_neg c47] at H
                                exact absurd (H.trans (congrArg some hrt.out)) (by simp)
                            · rw [if_neg c46] at H
                              exact absurd (H.trans (congrArg some hrt.out)) (by simp)
                          · rw [if_neg c45] at H
                            exact absurd (H.trans (congrArg some hrt.out)) (by simp)
                        · rw [if_neg c44] at H
                          exact absurd (H.trans (congrArg some hrt.out)) (by simp)
                      · rw [if_neg c43] at H
                        exact absurd (H.trans (congrArg some hrt.out)) (by simp)
                    · rw [if_neg c41] at H
                      exact absurd (H.trans (congrArg some hrt.out)) (by simp)
  · replace c4 := Bool.eq_false_iff.mpr c4
    subst c4
    have H1 : (some false) = some r := by rw [if_neg (show ¬ (false = true) by decide)] at H; exact H
    exact absurd (H1.trans (congrArg some hrt.out)) (by simp)
end Go.Proofs.Yticpjpacoeecmaa.A.P
