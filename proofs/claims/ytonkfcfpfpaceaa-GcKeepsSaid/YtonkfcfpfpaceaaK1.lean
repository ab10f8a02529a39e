/- The law GcKeeps's walk. -/
import Derived.Test.YtonkfcfpfpaceaaG9
import Derived.Test.YtonkfcfpfpaceaaMA3
import Derived.Test.YtonkfcfpfpaceaaMB
namespace Go.Proofs.Ytonkfcfpfpaceaa.A.P
open Go.RowKit Go.Proofs.YtonkfcfpfpaceaaW.PrintWords Go.Proofs.YtonkfcfpfpaceaaW.PrintLast Go.Proofs.YtonkfcfpfpaceaaW.PrintMore
set_option linter.unusedVariables false
set_option linter.unusedSimpArgs false
/-- get, told by what can be read. -/
theorem getC {k : Nat} {A0 : Option Addr} {c0 : Nat} {l : List S37} {n : Int} {s : ByteArray} {ws : List S41} {r : Int} {w : World} (hr : Kd.C k37 w A0 l.length l) (hc : l.length ≤ c0) (h : larchref15_Get.f k l n = some (s, ws, r)) :
    Calls Try.prog 18 #[.slice A0 l.length c0, .int .i64 n] w fun e w' => ∃ A c, e = .returned (.tuple #[.agg #[.string s, .slice A ws.length c], .int .i64 r]) ∧ ws.length ≤ c ∧ Kd.C k41 w' A ws.length ws ∧ Below w.heap.size w w' := by
  refine (larchref15_Get.calls k A0 c0 l n s ws r w hr hc h).mono ?_
  rintro e w' ⟨v, rfl, hR, hb⟩
  obtain ⟨A, c, rfl, hl, hC⟩ := Kd.R_reads hR
  exact ⟨A, c, rfl, hl, hC, hb⟩
/-- A list of one object, in a block of its own. -/
theorem one_C {w : World} {g : Nat} {s : ByteArray} {A : Option Addr} {c : Nat} {ws : List S41} (hg : w.heap[g]? = some (.cells #[.string s, .slice A ws.length c] 37 (0, 0))) (hl : ws.length ≤ c) (hC : Kd.C k41 w A ws.length ws) :
    Kd.C k37 w (some ⟨g, 0, none⟩) ([(⟨s, ws⟩ : S37)] : List S37).length [⟨s, ws⟩] := by
  refine ⟨rfl, by simp, fun _ => ⟨_, rfl, fun j p hj => ?_⟩⟩
  obtain rfl : j = 0 := by
    have := (List.getElem?_eq_some_iff.1 hj).1
    simpa using this
  have : (⟨s, ws⟩ : S37) = p := by simpa using hj
  subst this
  refine ⟨_, ?_, k37_mk w ⟨s, ws⟩ (A1 := A) (c1 := c) hl hC, fun i u hu => ?_⟩
  · rfl
  · rw [Nat.zero_mul, Nat.zero_add, add_plain]
    exact (blk_cell hg i).trans (by simpa using hu)
/-- Two blocks that were just made. -/
theorem lits2 (w : World) (o1 o2 : Obj) : ((w.alloc o1).alloc o2).heap[w.heap.size]? = some o1 ∧ ((w.alloc o1).alloc o2).heap[w.heap.size + 1]? = some o2 ∧ Below w.heap.size w ((w.alloc o1).alloc o2) := by
  have h1 : (w.alloc o1).heap.size = w.heap.size + 1 := by simp
  refine ⟨blk_alloc (blk_new w o1) o2, ?_, below_alloc (below_alloc (Below.refl _ _) _) _⟩
  have := blk_new (w.alloc o1) o2
  rwa [h1] at this
/-- Two objects in lists of their own: alike. -/
theorem two_same {k : Nat} {w : World} {g1 g2 : Nat} {s : ByteArray} {A A' : Option Addr} {c c' : Nat} {ws : List S41} (h1 : w.heap[g1]? = some (.cells #[.string s, .slice A ws.length c] 37 (0, 0))) (h2 : w.heap[g2]? = some (.cells #[.string s, .slice A' ws.length c'] 37 (0, 0)))
    (hl : ws.length ≤ c) (hl' : ws.length ≤ c') (hC : Kd.C k41 w A ws.length ws) (hC' : Kd.C k41 w A' ws.length ws) (hso : larchbase_SameObjects.f k [⟨s, ws⟩] [⟨s, ws⟩] = some true) :
    Calls Try.prog 16 #[.slice (some ⟨g1, 0, none⟩) 1 1, .slice (some ⟨g2, 0, none⟩) 1 1] w fun e w' => e = .returned (.bool true) ∧ Drawn0 w w' :=
  larchbase_SameObjects.calls k (some ⟨g1, 0, none⟩) 1 [⟨s, ws⟩] (some ⟨g2, 0, none⟩) 1 [⟨s, ws⟩] true w (one_C h1 hl hC) (Nat.le_refl _) (one_C h2 hl' hC') (Nat.le_refl _) hso
set_option maxHeartbeats 8000000 in
set_option maxRecDepth 100000 in
theorem keeps_no (k : Nat) (A0 : Option Addr) (c0 : Nat) (l : List S37) (A1 : Option Addr) (c1 : Nat) (vs : List S41) (b : Bool) (w : World) (hr : Kd.C k37 w A0 l.length l) (hc0 : l.length ≤ c0)
    (hw : larchlaw16_works.f k = some true) (hli : larchlaw16_light.f k l = some b) (hno : b = false ∨ (300 : Int) < vs.length) :
    Calls Try.prog 4 #[.slice A0 l.length c0, .slice A1 vs.length c1] w fun e w' => e = .returned (.bool true) ∧ Below w.heap.size w w' := by
  have HW := Lib.hid (larchlaw16_works.calls k true w hw)
  have HLI := Lib.hid (fun w' (hb : Below w.heap.size w w') => larchlaw16_light.calls k A0 c0 l b w' (Kd.C_below hr hb) hc0 hli)
  clear hr hw hli
  cases b
  · clear hno
    go_enter Try.func4, Try.ntmps4
    go_wp2_with fail
    refine HW.out.mono ?_
    rintro e w1 ⟨rfl, hb⟩
    have HB1 := Aside0.mk hb
    clear hb
    go_wp2_with fail
    refine (HLI.out _ HB1.out).mono ?_
    rintro e w2 ⟨rfl, ⟨m2, rfl⟩⟩
    go_wp2
    go_ret
    exact ⟨rfl, pw_below_drewN HB1.out _⟩
  · have d3 : decide ((300 : Int) < (vs.length : Int)) = true := decide_eq_true (by
      rcases hno with h | h
      · cases h
      · exact h)
    clear hno
    go_enter Try.func4, Try.ntmps4
    go_wp2_with fail
    refine HW.out.mono ?_
    rintro e w1 ⟨rfl, hb⟩
    have HB1 := Aside0.mk hb
    clear hb
    go_wp2_with fail
    refine (HLI.out _ HB1.out).mono ?_
    rintro e w2 ⟨rfl, ⟨m2, rfl⟩⟩
    go_wp2
    go_ret
    exact ⟨rfl, pw_below_drewN HB1.out _⟩
set_option maxHeartbeats 8000000 in
set_option maxRecDepth 100000 in
theorem keeps_err (k : Nat) (A0 : Option Addr) (c0 : Nat) (l : List S37) (A1 : Option Addr) (c1 : Nat) (vs : List S41) (er : Int) (w : World) (hr : Kd.C k37 w A0 l.length l) (hc0 : l.length ≤ c0) (hr1 : Kd.C k41 w A1 vs.length vs) (hc1 : vs.length ≤ c1)
    (hw : larchlaw16_works.f k = some true) (hli : larchlaw16_light.f k l = some true) (h3 : (vs.length : Int) ≤ 300) (hre : gc_Reach.f l vs = some ([], er)) (hsw : gc_Sweep.f l vs = some ([], 0, er)) (her : er ≠ 0) :
    Calls Try.prog 4 #[.slice A0 l.length c0, .slice A1 vs.length c1] w fun e w' => e = .returned (.bool true) ∧ Below w.heap.size w w' := by
  have HW := Lib.hid (larchlaw16_works.calls k true w hw)
  have HLI := Lib.hid (fun w' (hb : Below w.heap.size w w') => larchlaw16_light.calls k A0 c0 l true w' (Kd.C_below hr hb) hc0 hli)
  have HRE := Lib.hid (fun w' (hb : Below w.heap.size w w') => gc_Reach.calls A0 c0 l A1 c1 vs [] er w' (Kd.C_below hr hb) hc0 (Kd.C_below hr1 hb) hc1 hre)
  have HSW := Lib.hid (fun w' (hb : Below w.heap.size w w') => gc_Sweep.calls A0 c0 l A1 c1 vs [] 0 er w' (Kd.C_below hr hb) hc0 (Kd.C_below hr1 hb) hc1 hsw)
  have d3 : decide ((300 : Int) < (vs.length : Int)) = false := decide_eq_false (by omega)
  have de : (er != 0) = true := by simpa using her
  clear hr hr1 hw hli hre hsw her h3
  go_enter Try.func4, Try.ntmps4
  go_wp2_with fail
  refine HW.out.mono ?_
  rintro e w1 ⟨rfl, hb⟩
  have HB1 := Aside0.mk hb
  clear hb
  go_wp2_with fail
  refine (HLI.out _ HB1.out).mono ?_
  rintro e w2 ⟨rfl, ⟨m2, rfl⟩⟩
  go_wp2_with fail
  refine (HRE.out _ (pw_below_drewN HB1.out _)).mono ?_
  rintro e w3 ⟨v3, rfl, hR3, hb⟩
  have HB3 := Aside0.mk (below_step (pw_below_drewN HB1.out m2) hb)
  obtain ⟨A3, c3, rfl⟩ := Kd.R_slice hR3
  clear hb hR3
  go_wp2_with fail
  refine (HSW.out _ HB3.out).mono ?_
  rintro e w4 ⟨v4, rfl, hN4, hb⟩
  have HB4 := Aside0.mk (below_step HB3.out hb)
  obtain ⟨A4, c4, rfl⟩ := Kd.N_slice hN4
  clear hb hN4
  go_wp2
  go_ret
  exact ⟨rfl, HB4.out⟩
set_option maxHeartbeats 8000000 in
set_option maxRecDepth 100000 in
theorem keeps_yes (k : Nat) (A0 : Option Addr) (c0 : Nat) (l : List S37) (A1 : Option Addr) (c1 : Nat) (vs : List S41) (o : List Int) (m : List S37) (n : Int) (L1 L2 : List Int) (w : World) (hr : Kd.C k37 w A0 l.length l) (hc0 : l.length ≤ c0) (hr1 : Kd.C k41 w A1 vs.length vs) (hc1 : vs.length ≤ c1)
    (hw : larchlaw16_works.f k = some true) (hli : larchlaw16_light.f k l = some true) (h3 : (vs.length : Int) ≤ 300) (hre : gc_Reach.f l vs = some (o, 0)) (hsw : gc_Sweep.f l vs = some (m, n, 0)) (hol : o.length ≤ 100000000)
    (hall : ∀ j : Nat, j < o.length → ∃ s ws, larchref15_Get.f k m (rd o j) = some (s, ws, 0) ∧ larchref15_Get.f k l (rd o j) = some (s, ws, 0) ∧ larchbase_SameObjects.f k [⟨s, ws⟩] [⟨s, ws⟩] = some true ∧ ws.length ≤ 100000000 ∧
      ∀ i : Nat, i < ws.length → ∃ s2 ws2 er, larchref15_Get.f k l (rd_T41 ws i).f1 = some (s2, ws2, er) ∧ ((rd_T41 ws i).f0 = 4 → er = 0 → larchbase_HasInt.f k o (rd_T41 ws i).f1 = some true))
    (hlv2 : larchref15_Live.f k m = some L2) (hL2 : L2.length = o.length) (hck : larchref15_Check.f k m = some 0) (hlv1 : larchref15_Live.f k l = some L1) (hn : n = wrap64 ((L1.length : Int) - (o.length : Int))) :
    Calls Try.prog 4 #[.slice A0 l.length c0, .slice A1 vs.length c1] w fun e w' => e = .returned (.bool true) ∧ Below w.heap.size w w' := by
  have HW := Lib.hid (larchlaw16_works.calls k true w hw)
  have HLI := Lib.hid (fun w' (hb : Below w.heap.size w w') => larchlaw16_light.calls k A0 c0 l true w' (Kd.C_below hr hb) hc0 hli)
  have HRE := Lib.hid (fun w' (hb : Below w.heap.size w w') => gc_Reach.calls A0 c0 l A1 c1 vs o 0 w' (Kd.C_below hr hb) hc0 (Kd.C_below hr1 hb) hc1 hre)
  have HSW := Lib.hid (fun w' (hb : Below w.heap.size w w') => gc_Sweep.calls A0 c0 l A1 c1 vs m n 0 w' (Kd.C_below hr hb) hc0 (Kd.C_below hr1 hb) hc1 hsw)
  have HR := Aside0.mk hr
  have HALL := Lib.hid hall
  have HL2 := Lib.hid hlv2
  have HLL := Aside0.mk hL2
  have HCK := Lib.hid hck
  have HL1 := Lib.hid hlv1
  have HN := Aside0.mk hn
  have d3 : decide ((300 : Int) < (vs.length : Int)) = false := decide_eq_false (by omega)
  clear hr hr1 hw hli hre hsw h3 hall hlv2 hL2 hck hlv1 hn
  go_enter Try.func4, Try.ntmps4
  go_wp2_with fail
  refine HW.out.mono ?_
  rintro e w1 ⟨rfl, hb⟩
  have HB1 := Aside0.mk hb
  clear hb
  go_wp2_with fail
  refine (HLI.out _ HB1.out).mono ?_
  rintro e w2 ⟨rfl, ⟨m2, rfl⟩⟩
  go_wp2_with fail
  refine (HRE.out _ (pw_below_drewN HB1.out _)).mono ?_
  rintro e w3 ⟨v3, rfl, hR3, hb⟩
  have HB3 := Aside0.mk (below_step (pw_below_drewN HB1.out m2) hb)
  obtain ⟨Ao, co, rfl, hco, hCo⟩ := Kd.R_reads hR3
  have HO3 := Aside0.mk hCo
  clear hb hR3 hCo
  go_wp2_with fail
  refine (HSW.out _ HB3.out).mono ?_
  rintro e w4 ⟨v4, rfl, hN4, hb⟩
  have HB4 := Aside0.mk (below_step HB3.out hb)
  have HO4 := Aside0.mk (Kd.C_below HO3.out hb)
  obtain ⟨Am, cm, rfl⟩ := Kd.N_slice hN4
  have hcm := (Kd.N_reads' hN4).2.1
  have HM4 := Aside0.mk (Kd.N_reads' hN4).2.2
  have HR4 := Aside0.mk (Kd.C_below HR.out HB4.out)
  clear hb hN4 HO3 HB3 HR
  go_wp2_with fail
  go_loopg [10] (o.length + 1) (fun kq v10 w' => ∃ j : Nat, v10 = .int .i64 (j : Int) ∧ j ≤ o.length ∧ Aside0 (j + kq = o.length + 1) ∧ Aside0 (Below w4.heap.size w4 w'))
  case atStart => exact ⟨0, rfl, by omega, ⟨by omega⟩, ⟨Below.refl _ _⟩⟩
  case round =>
    obtain ⟨j, rfl, hj, hk, HBr⟩ := hrel
    by_cases q1 : j < o.length
    · have q1b : decide ((j : Int) < (o.length : Int)) = true := decide_eq_true (by omega)
      obtain ⟨s, ws, hg1, hg2, hso, hwl, hin⟩ := HALL.out j q1
      have HORD := Lib.hid (fun w' (hb : Below wr.heap.size wr w') => Kd.at_int (Kd.C_below (Kd.C_below HO4.out HBr.out) hb) (j : Int) (by omega) (by omega))
      obtain ⟨ad, e5, hx0⟩ := HORD.out wr (Below.refl _ _)
      cases e5
      simp only [Int.toNat_natCast] at hx0
      have HG1 := Lib.hid (getC (Kd.C_below HM4.out HBr.out) hcm hg1)
      have HG2 := Lib.hid (fun w' (hb : Below wr.heap.size wr w') => getC (Kd.C_below (Kd.C_below HR4.out HBr.out) hb) hc0 hg2)
      have HSO := Aside0.mk hso
      have HIN := Lib.hid hin
      clear hg1 hg2 hso hin
      obtain ⟨q, hq⟩ : ∃ q, Aside0 (rd o (j : Int) = q) := ⟨_, ⟨rfl⟩⟩
      rw [hq.out] at hx0 HG1 HG2 HORD
      go_wp2_with fail
      refine HG1.out.mono ?_
      rintro e wa ⟨Aa, ca, rfl, hca, hCa, hb⟩
      have HBa := Aside0.mk hb
      have HCa := Aside0.mk hCa
      have hxa2 : (wa.alloc (.cells #[.string s, .slice Aa ws.length ca] 37)).cell? (ad.add j) = some (.int .i64 q) := by
        obtain ⟨ad2, e2, h2⟩ := HORD.out (wa.alloc (.cells #[.string s, .slice Aa ws.length ca] 37)) (below_alloc HBa.out _)
        injection e2 with e2
        subst e2
        simpa using h2
      clear hb hCa hx0
      go_wp2_with fail
      refine (HG2.out _ (below_alloc HBa.out _)).mono ?_
      rintro e wb ⟨Ab, cb, rfl, hcb, hCb, hb⟩
      have hza : wr.heap.size ≤ wa.heap.size := HBa.out.size
      have HBb := Aside0.mk (below_then (below_alloc HBa.out (.cells #[.string s, .slice Aa ws.length ca] 37)) (by simp; omega) hb)
      have HCb := Aside0.mk hCb
      have BKa := Aside0.mk (blk_below (blk_new wa (.cells #[.string s, .slice Aa ws.length ca] 37)) hb)
      have HCab := Aside0.mk (Kd.C_below (Kd.C_alloc HCa.out (.cells #[.string s, .slice Aa ws.length ca] 37)) hb)
      generalize wa.heap.size = gx at *
      have BKb := Aside0.mk (blk_alloc BKa.out (.cells #[.string s, .slice Ab ws.length cb] 37))
      have BNb := Aside0.mk (blk_new wb (.cells #[.string s, .slice Ab ws.length cb] 37))
      have hy0 : wb.cell? ⟨gx, 0, none⟩ = some (.string s) := (blk_cell BKa.out 0).trans rfl
      have hy1 : wb.cell? ⟨gx, 1, none⟩ = some (.slice Aa ws.length ca) := (blk_cell BKa.out 1).trans rfl
      have hzb : gx < wb.heap.size := blk_lt BKa.out
      have HCab2 := Aside0.mk (Kd.C_alloc HCab.out (.cells #[.string s, .slice Ab ws.length cb] 37))
      have HCb2 := Aside0.mk (Kd.C_alloc HCb.out (.cells #[.string s, .slice Ab ws.length cb] 37))
      clear hb hCb hxa2
      go_wp2_with fail
      obtain ⟨hL0, hL1, hLB⟩ := lits2 (wb.alloc (.cells #[.string s, .slice Ab ws.length cb] 37)) (.cells #[.string s, .slice Aa ws.length ca] 37) (.cells #[.string s, .slice Ab ws.length cb] 37)
      rw [World.size_alloc] at hL0 hL1
      have HS2 := Lib.hid (two_same hL0 hL1 hca hcb (Kd.C_below HCab2.out hLB) (Kd.C_below HCb2.out hLB) HSO.out)
      have HLB := Aside0.mk hLB
      clear hL0 hL1 hLB
      refine HS2.out.mono ?_
      rintro e wc' ⟨rfl, ⟨mc, rfl⟩⟩
      obtain ⟨wc, hwc⟩ : ∃ wc, Aside0 (wc = (((wb.alloc (.cells #[.string s, .slice Ab ws.length cb] 37)).alloc (.cells #[.string s, .slice Aa ws.length ca] 37)).alloc (.cells #[.string s, .slice Ab ws.length cb] 37)).drewN mc) := ⟨_, ⟨rfl⟩⟩
      rw [← hwc.out]
      have HBbc := Aside0.mk (show Below wb.heap.size wb wc by
        rw [hwc.out]
        exact pw_below_drewN (below_step (below_alloc (Below.refl _ _) _) HLB.out) _)
      have HBc := Aside0.mk (below_step HBr.out (below_step HBb.out HBbc.out))
      have BKc := Aside0.mk (blk_below BKa.out HBbc.out)
      have HXc := Aside0.mk (Kd.C_below HCab.out HBbc.out)
      have HOc := Aside0.mk (Kd.C_below HO4.out HBc.out)
      have HRc := Aside0.mk (Kd.C_below HR4.out HBc.out)
      have hcA := hca
      clear hwc HLB HS2 HCab2 HCb2 BKb BNb HCab HCb HCa HBa HG1 HG2 HORD HSO hy0 hy1 hzb hza hcb HBbc BKa
      obtain ⟨gq, hgq⟩ : ∃ gq, gq = gk := ⟨_, rfl⟩
      subst hgq
      go_wp2
      go_loopg [15] (ws.length + 1) (fun kq v15 w' => ∃ i : Nat, v15 = .int .i64 (i : Int) ∧ i ≤ ws.length ∧ Aside0 (i + kq = ws.length + 1) ∧ Aside0 (Below wc.heap.size wc w'))
      case atStart => exact ⟨0, rfl, by omega, ⟨by omega⟩, ⟨Below.refl _ _⟩⟩
      case round =>
        obtain ⟨i, rfl, hi, hki, HBi⟩ := hrel
        have BKi := Aside0.mk (blk_below BKc.out HBi.out)
        have hx1i : wr.cell? ⟨gx, 1, none⟩ = some (.slice Aa ws.length ca) := (blk_cell BKi.out 1).trans rfl
        by_cases q2 : i < ws.length
        · have q2b : decide ((i : Int) < (ws.length : Int)) = true := decide_eq_true (by omega)
          obtain ⟨adw, ew, hv0, hv1⟩ := at_T41 (Kd.C_below HXc.out HBi.out) (i : Int) (by omega) (by omega)
          cases ew
          simp only [Int.toNat_natCast] at hv0 hv1
          obtain ⟨s2, ws2, er, hgt, hhas⟩ := HIN.out i q2
          obtain ⟨k0, hk0⟩ : ∃ k0, Aside0 ((rd_T41 ws (i : Int)).f0 = k0) := ⟨_, ⟨rfl⟩⟩
          obtain ⟨k1, hk1⟩ : ∃ k1, Aside0 ((rd_T41 ws (i : Int)).f1 = k1) := ⟨_, ⟨rfl⟩⟩
          rw [hk0.out] at hv0 hhas
          rw [hk1.out] at hv1 hhas hgt
          have HG3 := Lib.hid (fun w' (hb : Below wr.heap.size wr w') => getC (Kd.C_below (Kd.C_below HRc.out HBi.out) hb) hc0 hgt)
          have HHAS := Lib.hid hhas
          clear hgt hhas
          go_wp2_with fail
          refine (HG3.out _ (below_alloc (Below.refl _ _) _)).mono ?_
          rintro e wd ⟨Ad, cd, rfl, hcd, hCd, hb⟩
          have BV := Aside0.mk (blk_below (blk_new wr (.cells #[.int .i64 k0, .int .i64 k1] 41)) hb)
          have BV2 := Aside0.mk (blk_alloc BV.out (.cells #[.string s2, .slice Ad ws2.length cd] 37))
          have hsv : wr.heap.size < wd.heap.size := blk_lt BV.out
          have hw0 : wd.cell? ⟨wr.heap.size, 0, none⟩ = some (.int .i64 k0) := (blk_cell BV.out 0).trans rfl
          have hw1 : wd.cell? ⟨wr.heap.size, 1, none⟩ = some (.int .i64 k1) := (blk_cell BV.out 1).trans rfl
          have hw02 : (wd.alloc (.cells #[.string s2, .slice Ad ws2.length cd] 37)).cell? ⟨wr.heap.size, 0, none⟩ = some (.int .i64 k0) := (blk_cell BV2.out 0).trans rfl
          have hw12 : (wd.alloc (.cells #[.string s2, .slice Ad ws2.length cd] 37)).cell? ⟨wr.heap.size, 1, none⟩ = some (.int .i64 k1) := (blk_cell BV2.out 1).trans rfl
          have HBd := Aside0.mk (below_alloc (below_then (below_alloc HBi.out (.cells #[.int .i64 k0, .int .i64 k1] 41)) (by have := HBi.out.size; simp; omega) hb) (.cells #[.string s2, .slice Ad ws2.length cd] 37))
          clear hb hCd HG3 hv0 hv1
          by_cases qk : k0 = 4
          · subst qk
            by_cases qe : er = 0
            · subst qe
              have HHI := Lib.hid (larchbase_HasInt.calls k (some ad) co o k1 true (wd.alloc (.cells #[.string s2, .slice Ad ws2.length cd] 37)) (Kd.C_below HOc.out HBd.out) hco (HHAS.out rfl rfl))
              go_wp2_with fail
              refine HHI.out.mono ?_
              rintro e we ⟨rfl, ⟨me, rfl⟩⟩
              go_wp2
              go_roundg (gk - 1)
              case measure => have := hki.out; omega
              case rel => exact ⟨i + 1, by first | rfl | simp, by omega, ⟨by have := hki.out; omega⟩, ⟨pw_below_drewN HBd.out _⟩⟩
            · have deb : (er == 0) = false := by simpa using qe
              clear qe
              go_wp2
              go_roundg (gk - 1)
              case measure => have := hki.out; omega
              case rel => exact ⟨i + 1, by first | rfl | simp, by omega, ⟨by have := hki.out; omega⟩, HBd⟩
          · have dkb : (k0 == 4) = false := by simpa using qk
            clear qk
            go_wp2
            go_roundg (gk - 1)
            case measure => have := hki.out; omega
            case rel => exact ⟨i + 1, by first | rfl | simp, by omega, ⟨by have := hki.out; omega⟩, HBd⟩
        · have q2b : decide ((i : Int) < (ws.length : Int)) = false := decide_eq_false (by omega)
          go_wp2
          go_roundg (gq - 1)
          case measure => have := hk.out; omega
          case rel => exact ⟨j + 1, by first | rfl | simp, by omega, ⟨by have := hk.out; omega⟩, ⟨below_step HBc.out HBi.out⟩⟩
    · have q1b : decide ((j : Int) < (o.length : Int)) = false := decide_eq_false (by omega)
      have HV2 := Lib.hid (larchref15_Live.calls k Am cm m L2 wr (Kd.C_below HM4.out HBr.out) hcm HL2.out)
      have HCK2 := Lib.hid (fun w' (hb : Below wr.heap.size wr w') => larchref15_Check.calls k Am cm m 0 w' (Kd.C_below (Kd.C_below HM4.out HBr.out) hb) hcm HCK.out)
      have HV1 := Lib.hid (fun w' (hb : Below wr.heap.size wr w') => larchref15_Live.calls k A0 c0 l L1 w' (Kd.C_below (Kd.C_below HR4.out HBr.out) hb) hc0 HL1.out)
      have dl : ((L2.length : Int) == (o.length : Int)) = true := beq_iff_eq.mpr (by rw [HLL.out])
      have dn : (n == wrap64 ((L1.length : Int) - (o.length : Int))) = true := beq_iff_eq.mpr HN.out
      go_wp2_with fail
      refine HV2.out.mono ?_
      rintro e wa ⟨va, rfl, hRa, hba⟩
      obtain ⟨Aa, ca, rfl⟩ := Kd.R_slice hRa
      have HBa := Aside0.mk hba
      clear hRa hba
      go_wp2_with fail
      refine (HCK2.out _ HBa.out).mono ?_
      rintro e wb ⟨rfl, ⟨mb, rfl⟩⟩
      go_wp2_with fail
      refine (HV1.out _ (pw_below_drewN HBa.out mb)).mono ?_
      rintro e wc ⟨vc, rfl, hRc, hbc⟩
      obtain ⟨Ac, cc, rfl⟩ := Kd.R_slice hRc
      have HBc := Aside0.mk (below_step (pw_below_drewN HBa.out mb) hbc)
      clear hRc hbc
      go_wp2
      go_ret
      exact ⟨rfl, below_step HB4.out (below_step HBr.out HBc.out)⟩
end Go.Proofs.Ytonkfcfpfpaceaa.A.P
