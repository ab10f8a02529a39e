/- The law HeapKeeps's walk. -/
import Derived.Test.YticpjpacoeecmaaAx10
import Derived.Test.YticpjpacoeecmaaAx1
import Derived.Test.YticpjpacoeecmaaAx4
import Derived.Test.YticpjpacoeecmaaAx5
import Derived.Test.YticpjpacoeecmaaAx9
import Derived.Lib.Hide
namespace Go.Proofs.Yticpjpacoeecmaa.A.P
open Go.RowKit Go.Proofs.YticpjpacoeecmaaW.PrintWords Go.Proofs.YticpjpacoeecmaaW.PrintLast Go.Proofs.YticpjpacoeecmaaW.PrintMore Go.Proofs.Yticpjpacoeecmaa.C
set_option linter.unusedVariables false
set_option linter.unusedSimpArgs false
/-- get, told by what can be read. -/
theorem getC {A0 : Option Addr} {c0 : Nat} {l : List S40} {n : Int} {s : ByteArray} {ws : List S24} {r : Int} {w : World} (hr : Kd.C k40 w A0 l.length l) (hc : l.length ≤ c0) (h : heap_Get.f l n = some (s, ws, r)) :
    Calls Try.prog 19 #[.slice A0 l.length c0, .int .i64 n] w fun e w' => ∃ A c, e = .returned (.tuple #[.agg #[.string s, .slice A ws.length c], .int .i64 r]) ∧ ws.length ≤ c ∧ Kd.C k24 w' A ws.length ws ∧ Below w.heap.size w w' := by
  refine (heap_Get.calls A0 c0 l n s ws r w hr hc h).mono ?_
  rintro e w' ⟨v, rfl, hR, hb⟩
  obtain ⟨A, c, rfl, hl, hC⟩ := Kd.R_reads hR
  exact ⟨A, c, rfl, hl, hC, hb⟩
/-- put, told by what can be read. -/
theorem putC {k : Nat} {A0 : Option Addr} {c0 : Nat} {l : List S40} {s : ByteArray} {A1 : Option Addr} {c1 : Nat} {ws : List S24} {m : List S40} {n r : Int} {w : World} (hr : Kd.C k40 w A0 l.length l) (hc : l.length ≤ c0) (hr1 : Kd.C k24 w A1 ws.length ws) (hc1 : ws.length ≤ c1) (h : heap_Put.f k l s ws = some (m, n, r)) :
    Calls Try.prog 28 #[.slice A0 l.length c0, .agg #[.string s, .slice A1 ws.length c1]] w fun e w' => ∃ A c, e = .returned (.tuple #[.slice A m.length c, .int .i64 n, .int .i64 r]) ∧ m.length ≤ c ∧ Kd.C k40 w' A m.length m ∧ Below w.heap.size w w' := by
  refine (heap_Put.calls k (fun k_ => k_ < w.heap.size) A0 c0 l s A1 c1 ws m n r w (Kd.V_mk hc (Kd.C_F k40_heap hr)) hr1 hc1 h).mono ?_
  rintro e w' ⟨v, rfl, hN, hb⟩
  obtain ⟨A, c, rfl⟩ := Kd.N_slice hN
  obtain ⟨_, hl, hC⟩ := Kd.N_reads' hN
  exact ⟨A, c, rfl, hl, hC, hb⟩
/-- A list of one object, in a block of its own. -/
theorem one_C {w : World} {g : Nat} {s : ByteArray} {A : Option Addr} {c : Nat} {ws : List S24} (hg : w.heap[g]? = some (.cells #[.string s, .slice A ws.length c] 40 (0, 0))) (hl : ws.length ≤ c) (hC : Kd.C k24 w A ws.length ws) :
    Kd.C k40 w (some ⟨g, 0, none⟩) ([(⟨s, ws⟩ : S40)] : List S40).length [⟨s, ws⟩] := by
  refine ⟨rfl, by simp, fun _ => ⟨_, rfl, fun j p hj => ?_⟩⟩
  obtain rfl : j = 0 := by
    have := (List.getElem?_eq_some_iff.1 hj).1
    simpa using this
  have : (⟨s, ws⟩ : S40) = p := by simpa using hj
  subst this
  refine ⟨_, ?_, k40_mk w ⟨s, ws⟩ (A1 := A) (c1 := c) hl hC, fun i u hu => ?_⟩
  · rfl
  · rw [Nat.zero_mul, Nat.zero_add, add_plain]
    exact (blk_cell hg i).trans (by simpa using hu)
/-- A number of a row that is read. -/
theorem int_at {w : World} {A : Option Addr} {n : Nat} {xs : List Int} (h : Kd.C (Kd.int .i64) w A n xs) (i : Int) (h0 : 0 ≤ i) (h1 : i < n) : ∃ ad, A = some ad ∧ w.cell? (ad.add i.toNat) = some (.int .i64 (rd xs i)) := by
  obtain ⟨ad, c, e, _, hK, hc⟩ := Kd.C_get h 0 i h0 h1
  have hK' : c = [.int .i64 (xs.getD i.toNat 0)] := hK
  subst hK'
  refine ⟨ad, e, ?_⟩
  have := hc 0 _ rfl
  rwa [show i.toNat * (Kd.int .i64).sz + 0 = i.toNat from by show i.toNat * 1 + 0 = i.toNat; omega] at this
/-- Three blocks that were just made. -/
theorem lits (w : World) (o1 o2 o3 : Obj) : (((w.alloc o1).alloc o2).alloc o3).heap[w.heap.size]? = some o1 ∧ (((w.alloc o1).alloc o2).alloc o3).heap[w.heap.size + 1]? = some o2 ∧ (((w.alloc o1).alloc o2).alloc o3).heap[w.heap.size + 1 + 1]? = some o3 ∧ Below w.heap.size w (((w.alloc o1).alloc o2).alloc o3) := by
  have h1 : (w.alloc o1).heap.size = w.heap.size + 1 := by simp
  have h2 : ((w.alloc o1).alloc o2).heap.size = w.heap.size + 1 + 1 := by simp
  refine ⟨blk_alloc (blk_alloc (blk_new w o1) o2) o3, ?_, ?_, below_alloc (below_alloc (below_alloc (Below.refl _ _) _) _) _⟩
  · have := blk_alloc (blk_new (w.alloc o1) o2) o3
    rwa [h1] at this
  · have := blk_new ((w.alloc o1).alloc o2) o3
    rwa [h2] at this
/-- Two objects in lists of their own: alike. -/
theorem two_same {k : Nat} {w : World} {g1 g2 : Nat} {s : ByteArray} {A A' : Option Addr} {c c' : Nat} {ws : List S24} (h1 : w.heap[g1]? = some (.cells #[.string s, .slice A ws.length c] 40 (0, 0))) (h2 : w.heap[g2]? = some (.cells #[.string s, .slice A' ws.length c'] 40 (0, 0)))
    (hl : ws.length ≤ c) (hl' : ws.length ≤ c') (hC : Kd.C k24 w A ws.length ws) (hC' : Kd.C k24 w A' ws.length ws) (hso : larchbase_SameObjects.f k [⟨s, ws⟩] [⟨s, ws⟩] = some true) :
    Calls Try.prog 15 #[.slice (some ⟨g1, 0, none⟩) 1 1, .slice (some ⟨g2, 0, none⟩) 1 1] w fun e w' => e = .returned (.bool true) ∧ Drawn0 w w' :=
  larchbase_SameObjects.calls k (some ⟨g1, 0, none⟩) 1 [⟨s, ws⟩] (some ⟨g2, 0, none⟩) 1 [⟨s, ws⟩] true w (one_C h1 hl hC) (Nat.le_refl _) (one_C h2 hl' hC') (Nat.le_refl _) hso
set_option maxHeartbeats 8000000 in
set_option maxRecDepth 100000 in
theorem keeps_no (k : Nat) (A0 : Option Addr) (c0 : Nat) (l : List S40) (s : ByteArray) (A1 : Option Addr) (c1 : Nat) (ws : List S24) (b : Bool) (w : World) (hr : Kd.C k40 w A0 l.length l) (hc0 : l.length ≤ c0)
    (hw : larchlaw15_works.f k = some true) (hli : larchlaw15_light.f k l = some b) (hno : b = false ∨ (300 : Int) < l.length ∨ (70000 : Int) < ws.length) :
    Calls Try.prog 6 #[.slice A0 l.length c0, .agg #[.string s, .slice A1 ws.length c1]] w fun e w' => e = .returned (.bool true) ∧ Below w.heap.size w w' := by
  have HR := Aside0.mk hr
  have HB0 := Aside0.mk (below_alloc (Below.refl w.heap.size w) (.cells #[.string s, .slice A1 ws.length c1] 40))
  have BK0 := Aside0.mk (blk_new w (.cells #[.string s, .slice A1 ws.length c1] 40))
  have HW := Lib.hid (larchlaw15_works.calls k true ⟨rfl⟩ (w.alloc (.cells #[.string s, .slice A1 ws.length c1] 40)) hw)
  have HLI := Lib.hid (fun w' (hb : Below w.heap.size w w') => larchlaw15_light.calls k A0 c0 l b w' (Kd.C_below hr hb) hc0 hli)
  clear hr hw hli
  cases b
  · clear hno
    go_enter Try.func6, Try.ntmps6
    go_wp2_with fail
    refine HW.out.mono ?_
    rintro e w1 ⟨rfl, hb⟩
    have HB1 := Aside0.mk (below_then HB0.out HB0.out.size hb)
    clear hb
    go_wp2_with fail
    refine (HLI.out _ HB1.out).mono ?_
    rintro e w2 ⟨rfl, ⟨m2, rfl⟩⟩
    go_wp2
    go_ret
    exact ⟨rfl, pw_below_drewN HB1.out _⟩
  · by_cases h3 : (300 : Int) < l.length
    · have d3 : decide ((300 : Int) < (l.length : Int)) = true := decide_eq_true h3
      clear hno h3
      go_enter Try.func6, Try.ntmps6
      go_wp2_with fail
      refine HW.out.mono ?_
      rintro e w1 ⟨rfl, hb⟩
      have HB1 := Aside0.mk (below_then HB0.out HB0.out.size hb)
      clear hb
      go_wp2_with fail
      refine (HLI.out _ HB1.out).mono ?_
      rintro e w2 ⟨rfl, ⟨m2, rfl⟩⟩
      go_wp2
      go_ret
      exact ⟨rfl, pw_below_drewN HB1.out _⟩
    · have d3 : decide ((300 : Int) < (l.length : Int)) = false := decide_eq_false h3
      have d4 : decide ((70000 : Int) < (ws.length : Int)) = true := decide_eq_true (by
        rcases hno with h | h | h
        · cases h
        · exact absurd h h3
        · exact h)
      clear hno h3
      go_enter Try.func6, Try.ntmps6
      go_wp2_with fail
      refine HW.out.mono ?_
      rintro e w1 ⟨rfl, hb⟩
      have HB1 := Aside0.mk (below_then HB0.out HB0.out.size hb)
      have BK1 := Aside0.mk (blk_below BK0.out hb)
      have hcx1 : w1.cell? ⟨w.heap.size, 1, none⟩ = some (.slice A1 ws.length c1) := (blk_cell BK1.out 1).trans rfl
      clear hb
      go_wp2_with fail
      refine (HLI.out _ HB1.out).mono ?_
      rintro e w2 ⟨rfl, ⟨m2, rfl⟩⟩
      go_wp2
      go_ret
      exact ⟨rfl, pw_below_drewN HB1.out _⟩
set_option maxHeartbeats 8000000 in
set_option maxRecDepth 100000 in
theorem keeps_ref (k : Nat) (A0 : Option Addr) (c0 : Nat) (l : List S40) (s : ByteArray) (A1 : Option Addr) (c1 : Nat) (ws : List S24) (r : Int) (w : World) (hr : Kd.C k40 w A0 l.length l) (hc0 : l.length ≤ c0) (hr1 : Kd.C k24 w A1 ws.length ws) (hc1 : ws.length ≤ c1)
    (hw : larchlaw15_works.f k = some true) (hli : larchlaw15_light.f k l = some true) (h3 : (l.length : Int) ≤ 300) (h7 : (ws.length : Int) ≤ 70000) (hput : heap_Put.f k l s ws = some ([], 0, r)) (hr0 : r ≠ 0) :
    Calls Try.prog 6 #[.slice A0 l.length c0, .agg #[.string s, .slice A1 ws.length c1]] w fun e w' => e = .returned (.bool true) ∧ Below w.heap.size w w' := by
  have HR := Aside0.mk hr
  have HB0 := Aside0.mk (below_alloc (Below.refl w.heap.size w) (.cells #[.string s, .slice A1 ws.length c1] 40))
  have BK0 := Aside0.mk (blk_new w (.cells #[.string s, .slice A1 ws.length c1] 40))
  have HW := Lib.hid (larchlaw15_works.calls k true ⟨rfl⟩ (w.alloc (.cells #[.string s, .slice A1 ws.length c1] 40)) hw)
  have HLI := Lib.hid (fun w' (hb : Below w.heap.size w w') => larchlaw15_light.calls k A0 c0 l true w' (Kd.C_below hr hb) hc0 hli)
  have HP := Lib.hid (fun w' (hb : Below w.heap.size w w') => putC (Kd.C_below hr hb) hc0 (Kd.C_below hr1 hb) hc1 hput)
  have d3 : decide ((300 : Int) < (l.length : Int)) = false := decide_eq_false (by omega)
  have d4 : decide ((70000 : Int) < (ws.length : Int)) = false := decide_eq_false (by omega)
  have d5 : (r != 0) = true := bne_iff_ne.mpr hr0
  clear hr hr1 hw hli h3 h7 hput hr0
  go_enter Try.func6, Try.ntmps6
  go_wp2_with fail
  refine HW.out.mono ?_
  rintro e w1 ⟨rfl, hb⟩
  have HB1 := Aside0.mk (below_then HB0.out HB0.out.size hb)
  have BK1 := Aside0.mk (blk_below BK0.out hb)
  have hcx0 : w1.cell? ⟨w.heap.size, 0, none⟩ = some (.string s) := (blk_cell BK1.out 0).trans rfl
  have hcx1 : w1.cell? ⟨w.heap.size, 1, none⟩ = some (.slice A1 ws.length c1) := (blk_cell BK1.out 1).trans rfl
  clear hb
  go_wp2_with fail
  refine (HLI.out _ HB1.out).mono ?_
  rintro e w2 ⟨rfl, ⟨m2, rfl⟩⟩
  go_wp2_with fail
  refine (HP.out _ (pw_below_drewN HB1.out _)).mono ?_
  rintro e w3 ⟨Am, cm, rfl, hcm, hCm, hb⟩
  have HB3 := Aside0.mk (below_then (pw_below_drewN HB1.out m2) (pw_below_drewN HB1.out m2).size hb)
  clear hb hCm hcm
  go_wp2
  go_ret
  exact ⟨by simp, HB3.out⟩
set_option maxHeartbeats 8000000 in
set_option maxRecDepth 100000 in
theorem keeps_yes (k : Nat) (A0 : Option Addr) (c0 : Nat) (l : List S40) (s : ByteArray) (A1 : Option Addr) (c1 : Nat) (ws : List S24) (m : List S40) (n : Int) (L L2 : List Int) (W1 W2 : Int) (w : World) (hr : Kd.C k40 w A0 l.length l) (hc0 : l.length ≤ c0) (hr1 : Kd.C k24 w A1 ws.length ws) (hc1 : ws.length ≤ c1)
    (hw : larchlaw15_works.f k = some true) (hli : larchlaw15_light.f k l = some true) (h3 : (l.length : Int) ≤ 300) (h7 : (ws.length : Int) ≤ 70000) (hput : heap_Put.f k l s ws = some (m, n, 0))
    (hget : heap_Get.f m n = some (s, ws, 0)) (hso : larchbase_SameObjects.f k [⟨s, ws⟩] [⟨s, ws⟩] = some true) (hchk : heap_Check.f m = some 0) (hlv : heap_Live.f k l = some L)
    (hall : ∀ j : Int, 0 ≤ j → j < L.length → ∃ s' ws', heap_Get.f l (rd L j) = some (s', ws', 0) ∧ heap_Get.f m (rd L j) = some (s', ws', 0) ∧ rd L j ≠ n ∧ larchbase_SameObjects.f k [⟨s', ws'⟩] [⟨s', ws'⟩] = some true)
    (hlv2 : heap_Live.f k m = some L2) (hL : (L2.length : Int) = L.length + 1) (hw1 : heap_Words.f k l = some W1) (hw2 : heap_Words.f k m = some W2) (hW0 : 0 ≤ W1) (hW9 : W1 ≤ 1000000) (hL9 : L.length ≤ 5000) (hW : W2 = W1 + ws.length) :
    Calls Try.prog 6 #[.slice A0 l.length c0, .agg #[.string s, .slice A1 ws.length c1]] w fun e w' => e = .returned (.bool true) ∧ Below w.heap.size w w' := by
  have HR := Aside0.mk hr
  have HB0 := Aside0.mk (below_alloc (Below.refl w.heap.size w) (.cells #[.string s, .slice A1 ws.length c1] 40))
  have BK0 := Aside0.mk (blk_new w (.cells #[.string s, .slice A1 ws.length c1] 40))
  have HW := Lib.hid (larchlaw15_works.calls k true ⟨rfl⟩ (w.alloc (.cells #[.string s, .slice A1 ws.length c1] 40)) hw)
  have HLI := Lib.hid (fun w' (hb : Below w.heap.size w w') => larchlaw15_light.calls k A0 c0 l true w' (Kd.C_below hr hb) hc0 hli)
  have HP := Lib.hid (fun w' (hb : Below w.heap.size w w') => putC (Kd.C_below hr hb) hc0 (Kd.C_below hr1 hb) hc1 hput)
  have HLV := Lib.hid (fun w' (hb : Below w.heap.size w w') => heap_Live.calls k A0 c0 l L w' (Kd.C_below hr hb) hc0 hlv)
  have d3 : decide ((300 : Int) < (l.length : Int)) = false := decide_eq_false (by omega)
  have d4 : decide ((70000 : Int) < (ws.length : Int)) = false := decide_eq_false (by omega)
  have HR1 := Aside0.mk hr1
  have HGET := Aside0.mk hget
  have HSO := Aside0.mk hso
  have HCHK := Aside0.mk hchk
  have HALL := Aside0.mk hall
  have HL2 := Aside0.mk hlv2
  have HLL := Aside0.mk hL
  have HW1 := Aside0.mk hw1
  have HW2 := Aside0.mk hw2
  have HWW := Aside0.mk hW
  clear hr hr1 hw hli hput hget hso hchk hall hlv2 hL hw1 hw2 hW hlv
  go_enter Try.func6, Try.ntmps6
  go_wp2_with fail
  refine HW.out.mono ?_
  rintro e w1 ⟨rfl, hb⟩
  have HB1 := Aside0.mk (below_then HB0.out HB0.out.size hb)
  have BK1 := Aside0.mk (blk_below BK0.out hb)
  have hcx0 : w1.cell? ⟨w.heap.size, 0, none⟩ = some (.string s) := (blk_cell BK1.out 0).trans rfl
  have hcx1 : w1.cell? ⟨w.heap.size, 1, none⟩ = some (.slice A1 ws.length c1) := (blk_cell BK1.out 1).trans rfl
  clear hb
  go_wp2_with fail
  refine (HLI.out _ HB1.out).mono ?_
  rintro e w2 ⟨rfl, ⟨m2, rfl⟩⟩
  go_wp2_with fail
  refine (HP.out _ (pw_below_drewN HB1.out _)).mono ?_
  rintro e w3 ⟨Am, cm, rfl, hcm, hCm, hb⟩
  have HB3 := Aside0.mk (below_then (pw_below_drewN HB1.out m2) (pw_below_drewN HB1.out m2).size hb)
  have BK3 := Aside0.mk (blk_below (blk_drewN BK1.out m2) hb)
  have HM3 := Aside0.mk hCm
  have HG3 := Lib.hid (getC hCm hcm HGET.out)
  clear hb hCm hcx0 hcx1
  go_wp2_with fail
  refine HG3.out.mono ?_
  rintro e w4 ⟨Ay, cy, rfl, hcy, hCy, hb⟩
  have HB4 := Aside0.mk (below_then HB3.out HB3.out.size hb)
  have BK4 := Aside0.mk (blk_below BK3.out hb)
  have HM4 := Aside0.mk (Kd.C_below HM3.out hb)
  have HY4 := Aside0.mk hCy
  have hcx0 : w4.cell? ⟨w.heap.size, 0, none⟩ = some (.string s) := (blk_cell BK4.out 0).trans rfl
  have hcx1 : w4.cell? ⟨w.heap.size, 1, none⟩ = some (.slice A1 ws.length c1) := (blk_cell BK4.out 1).trans rfl
  have hz4 : w.heap.size < w4.heap.size := blk_lt BK4.out
  clear hb hCy HM3 HG3
  go_wp2_with fail
  obtain ⟨hL0, hL1, hL2, hLB⟩ := lits w4 (.cells #[.string s, .slice Ay ws.length cy] 40) (.cells #[.string s, .slice A1 ws.length c1] 40) (.cells #[.string s, .slice Ay ws.length cy] 40)
  have HSO4 := Lib.hid (two_same hL1 hL2 hc1 hcy (Kd.C_below HR1.out (below_then HB4.out HB4.out.size hLB)) (Kd.C_below HY4.out hLB) HSO.out)
  have HLB := Aside0.mk hLB
  clear hL0 hL1 hL2 hLB
  refine HSO4.out.mono ?_
  rintro e w5 ⟨rfl, ⟨m5, rfl⟩⟩
  obtain ⟨w5, hw5⟩ : ∃ w5, Aside0 (w5 = (((w4.alloc (.cells #[.string s, .slice Ay ws.length cy] 40)).alloc (.cells #[.string s, .slice A1 ws.length c1] 40)).alloc (.cells #[.string s, .slice Ay ws.length cy] 40)).drewN m5) := ⟨_, ⟨rfl⟩⟩
  rw [← hw5.out]
  have HB45 := Aside0.mk (show Below w4.heap.size w4 w5 by rw [hw5.out]; exact pw_below_drewN HLB.out _)
  have HB5 := Aside0.mk (below_then HB4.out HB4.out.size HB45.out)
  have BK5 := Aside0.mk (blk_below BK4.out HB45.out)
  have HM5 := Aside0.mk (Kd.C_below HM4.out HB45.out)
  have HCK5 := Lib.hid (heap_Check.calls Am cm m 0 w5 HM5.out hcm HCHK.out)
  clear hw5 HLB HSO4 hcx0 hcx1 hz4 HY4
  go_wp2_with fail
  refine HCK5.out.mono ?_
  rintro e w6 ⟨rfl, hb⟩
  have HB6 := Aside0.mk (below_then HB5.out HB5.out.size hb)
  have BK6 := Aside0.mk (blk_below BK5.out hb)
  have HM6 := Aside0.mk (Kd.C_below HM5.out hb)
  clear hb HCK5 HM4 HM5 BK3 BK4 BK5
  go_wp2_with fail
  refine (HLV.out _ HB6.out).mono ?_
  rintro e w7 ⟨v1, rfl, hRL, hb⟩
  have HB7 := Aside0.mk (below_then HB6.out HB6.out.size hb)
  have BK7 := Aside0.mk (blk_below BK6.out hb)
  have HM7 := Aside0.mk (Kd.C_below HM6.out hb)
  obtain ⟨AL, cL, rfl, hcL, hCL⟩ := Kd.R_reads hRL
  have HCL := Aside0.mk hCL
  have hLm := hCL.2.1
  clear hb hRL hCL BK6 HM6
  go_wp2_with fail
  go_loopg [11] L.length (fun kq v11 w' => ∃ j : Int, v11 = .int .i64 j ∧ 0 ≤ j ∧ Aside0 (j = L.length - kq) ∧ Aside0 (Below w7.heap.size w7 w'))
  case atStart => exact ⟨0, rfl, by omega, ⟨by omega⟩, ⟨Below.refl _ _⟩⟩
  case round =>
    obtain ⟨j, rfl, h0, hk, HBr⟩ := hrel
    by_cases q1 : j < (L.length : Int)
    · have q1b : decide (j < (L.length : Int)) = true := decide_eq_true q1
      obtain ⟨s', ws', hg1, hg2, hne, hso'⟩ := HALL.out j h0 q1
      obtain ⟨ad, e5, hx0⟩ := int_at (Kd.C_below HCL.out HBr.out) j h0 q1
      cases e5
      have HBw := Aside0.mk (below_then HB7.out HB7.out.size HBr.out)
      have dne : (rd L j == n) = false := beq_eq_false_iff_ne.mpr hne
      have HG1 := Lib.hid (getC (Kd.C_below HR.out HBw.out) hc0 hg1)
      have HG2 := Lib.hid (fun w' (hb : Below wr.heap.size wr w') => getC (Kd.C_below (Kd.C_below HM7.out HBr.out) hb) hcm hg2)
      have HCLr := Lib.hid (fun w' (hb : Below wr.heap.size wr w') => int_at (Kd.C_below (Kd.C_below HCL.out HBr.out) hb) j h0 q1)
      have HSO' := Aside0.mk hso'
      clear hg1 hg2 hne hso'
      obtain ⟨q, hq⟩ : ∃ q, Aside0 (rd L j = q) := ⟨_, ⟨rfl⟩⟩
      rw [hq.out] at hx0 dne HG1 HG2 HCLr
      go_wp2_with fail
      refine HG1.out.mono ?_
      rintro e wa ⟨Aa, ca, rfl, hca, hCa, hb⟩
      have HBa := Aside0.mk hb
      have HCa := Aside0.mk hCa
      have hxa : wa.cell? (ad.add j.toNat) = some (.int .i64 q) := by
        obtain ⟨ad2, e2, h2⟩ := HCLr.out wa hb
        injection e2 with e2
        subst e2
        exact h2
      have hxa2 : (wa.alloc (.cells #[.string s', .slice Aa ws'.length ca] 40)).cell? (ad.add j.toNat) = some (.int .i64 q) := by
        obtain ⟨ad2, e2, h2⟩ := HCLr.out (wa.alloc (.cells #[.string s', .slice Aa ws'.length ca] 40)) (below_alloc HBa.out _)
        injection e2 with e2
        subst e2
        exact h2
      clear hb hCa hx0
      go_wp2_with fail
      refine (HG2.out _ (below_alloc HBa.out _)).mono ?_
      rintro e wb ⟨Ab, cb, rfl, hcb, hCb, hb⟩
      have hza : wr.heap.size ≤ wa.heap.size := HBa.out.size
      have HBb := Aside0.mk (below_then (below_alloc HBa.out (.cells #[.string s', .slice Aa ws'.length ca] 40)) (by simp; omega) hb)
      have HCb := Aside0.mk hCb
      have BKa := Aside0.mk (blk_below (blk_new wa (.cells #[.string s', .slice Aa ws'.length ca] 40)) hb)
      have HCab := Aside0.mk (Kd.C_below (Kd.C_alloc HCa.out (.cells #[.string s', .slice Aa ws'.length ca] 40)) hb)
      have hxb : wb.cell? (ad.add j.toNat) = some (.int .i64 q) := by
        obtain ⟨ad2, e2, h2⟩ := HCLr.out wb HBb.out
        injection e2 with e2
        subst e2
        exact h2
      have hxb2 : (wb.alloc (.cells #[.string s', .slice Ab ws'.length cb] 40)).cell? (ad.add j.toNat) = some (.int .i64 q) := by
        obtain ⟨ad2, e2, h2⟩ := HCLr.out (wb.alloc (.cells #[.string s', .slice Ab ws'.length cb] 40)) (below_alloc HBb.out _)
        injection e2 with e2
        subst e2
        exact h2
      have hy0 : wb.cell? ⟨wa.heap.size, 0, none⟩ = some (.string s') := (blk_cell BKa.out 0).trans rfl
      have hy1 : wb.cell? ⟨wa.heap.size, 1, none⟩ = some (.slice Aa ws'.length ca) := (blk_cell BKa.out 1).trans rfl
      have hzb : wa.heap.size < wb.heap.size := blk_lt BKa.out
      clear hb hCb hxa hxa2
      obtain ⟨hL0, hL1, hL2, hLB⟩ := lits wb (.cells #[.string s', .slice Ab ws'.length cb] 40) (.cells #[.string s', .slice Aa ws'.length ca] 40) (.cells #[.string s', .slice Ab ws'.length cb] 40)
      have HS2 := Lib.hid (two_same hL1 hL2 hca hcb (Kd.C_below HCab.out hLB) (Kd.C_below HCb.out hLB) HSO'.out)
      have HLB := Aside0.mk hLB
      clear hL0 hL1 hL2 hLB
      go_wp2_with fail
      refine HS2.out.mono ?_
      rintro e wc ⟨rfl, ⟨mc, rfl⟩⟩
      have HBc := Aside0.mk (below_then HBb.out HBb.out.size (pw_below_drewN HLB.out mc))
      go_wp2
      go_roundg (gk - 1)
      case measure => have := hk.out; omega
      case rel => exact ⟨j + 1, by first | rfl | simp, by omega, ⟨by have := hk.out; omega⟩, ⟨below_then HBr.out HBr.out.size HBc.out⟩⟩
    · have q1b : decide (j < (L.length : Int)) = false := decide_eq_false q1
      have HBz := Aside0.mk (below_then HB7.out HB7.out.size HBr.out)
      have BKz := Aside0.mk (blk_below BK7.out HBr.out)
      have HM := Aside0.mk (Kd.C_below HM7.out HBr.out)
      have HR' := Aside0.mk (Kd.C_below HR.out HBz.out)
      clear HR
      have HR := HR'
      clear HR'
      have hcx1 : wr.cell? ⟨w.heap.size, 1, none⟩ = some (.slice A1 ws.length c1) := (blk_cell BKz.out 1).trans rfl
      have dl : ((L2.length : Int) == wrap64 ((L.length : Int) + 1)) = true := beq_iff_eq.mpr (by rw [HLL.out]; unfold wrap64; omega)
      have hll : (L.length : Int) + 1 ≤ 9223372036854775807 := by omega
      have dw : (W2 == wrap64 (W1 + (ws.length : Int))) = true := beq_iff_eq.mpr (by rw [HWW.out]; unfold wrap64; omega)
      go_wp2_with fail
      refine start_ (n := 19) (S := fun w' => w'.cell? ⟨w.heap.size, 1, none⟩ = some (.slice A1 ws.length c1)) (ds := []) #[false, false, false, false, false, false, false, false, false, false, false, false, false, false, false, false, false, false, false] (by kernel_rfl) rfl rfl (hcx1) (fun hHeld => ?_)
      refine pure_ (i := 0) (N := some 117) (v := ?_) (a' := ?_) #[true, false, false, false, false, false, false, false, false, false, false, false, false, false, false, false, false, false, false] rfl rfl (by kernel_rfl) (fun _ _ _ h => h) (Or.inl ⟨by rfl, ?_⟩) ?_ ?_
      rotate_left
      · intro w'
        go_simp
        with_reducible rfl
      rotate_left
      · simp only [Act.put, List.setIfInBounds_toArray, List.set_cons_zero, List.set_cons_succ, i64_w, i32_w]
        rfl
      refine pure_ (i := 3) (N := some 120) (v := ?_) (a' := ?_) #[true, false, false, true, false, false, false, false, false, false, false, false, false, false, false, false, false, false, false] rfl rfl (by kernel_rfl) (fun _ _ _ h => h) (Or.inl ⟨by rfl, ?_⟩) ?_ ?_
      rotate_left
      · intro w'
        go_simp
        with_reducible rfl
      rotate_left
      · simp only [Act.put, List.setIfInBounds_toArray, List.set_cons_zero, List.set_cons_succ, i64_w, i32_w]
        rfl
      refine pure_ (i := 4) (N := some 121) (v := ?_) (a' := ?_) #[true, false, false, true, true, false, false, false, false, false, false, false, false, false, false, false, false, false, false] rfl rfl (by kernel_rfl) (fun _ _ _ h => h) (Or.inl ⟨by rfl, ?_⟩) ?_ ?_
      rotate_left
      · intro w'
        go_simp
        with_reducible rfl
      rotate_left
      · simp only [Act.put, List.setIfInBounds_toArray, List.set_cons_zero, List.set_cons_succ, i64_w, i32_w]
        rfl
      refine pure_ (i := 5) (N := some 122) (v := ?_) (a' := ?_) #[true, false, false, true, true, true, false, false, false, false, false, false, false, false, false, false, false, false, false] rfl rfl (by kernel_rfl) (fun _ _ _ h => h) (Or.inl ⟨by rfl, ?_⟩) ?_ ?_
      rotate_left
      · intro w'
        go_simp
        with_reducible rfl
      rotate_left
      · simp only [Act.put, List.setIfInBounds_toArray, List.set_cons_zero, List.set_cons_succ, i64_w, i32_w]
        rfl
      refine one_ (i := 1) (N := some 118) #[true, true, false, true, true, true, false, false, false, false, false, false, false, false, false, false, false, false, false] rfl rfl (by kernel_rfl) (by decide) (fun K hK => ?_)
      refine goes_ Try.func26 (by kernel_rfl) rfl #[.slice Am m.length cm] (by rfl) rfl rfl (by simp only [List.map_toArray, List.map_cons, List.map_nil]; rfl) ?_
      with_reducible refine (heap_Live.calls k Am cm m L2 _ (Kd.C_drew HM.out) hcm HL2.out).mono ?_
      rintro e wa ⟨v2, rfl, hR2, hb⟩
      refine ⟨_, rfl, ?_⟩
      have HBa := Aside0.mk (below_then HBz.out HBz.out.size (below_then (below_drew (Below.refl _ _)) (Nat.le_refl _) hb))
      have BKa := Aside0.mk (blk_below (blk_drew BKz.out) hb)
      have HMa := Aside0.mk (Kd.C_below (Kd.C_drew HM.out) hb)
      have HLa := Aside0.mk (Kd.C_below (Kd.C_drew HR.out) hb)
      obtain ⟨A2_, c2_, e2_⟩ := Kd.R_slice hR2
      subst e2_
      clear hb hR2
      refine hK.out _ _ ((blk_cell BKa.out 1).trans rfl) (fun hHeld => ?_)
      clear hK K
      refine norm_ (a' := ?_) ?_ ?_
      rotate_left
      · show Act.put _ (some 118) _ = _
        simp only [Act.put, List.setIfInBounds_toArray, List.set_cons_zero, List.set_cons_succ, i64_w, i32_w]
        rfl
      refine pure_ (i := 2) (N := some 119) (v := ?_) (a' := ?_) #[true, true, true, true, true, true, false, false, false, false, false, false, false, false, false, false, false, false, false] rfl rfl (by kernel_rfl) (fun _ _ _ h => h) (Or.inl ⟨by rfl, ?_⟩) ?_ ?_
      rotate_left
      · intro w'
        go_simp
        with_reducible rfl
      rotate_left
      · simp only [Act.put, List.setIfInBounds_toArray, List.set_cons_zero, List.set_cons_succ, i64_w, i32_w]
        rfl
      refine pure_ (i := 6) (N := some 123) (v := ?_) (a' := ?_) #[true, true, true, true, true, true, true, false, false, false, false, false, false, false, false, false, false, false, false] rfl rfl (by kernel_rfl) (fun _ _ _ h => h) (Or.inl ⟨by rfl, ?_⟩) ?_ ?_
      rotate_left
      · intro w'
        go_simp
        with_reducible rfl
      rotate_left
      · simp only [Act.put, List.setIfInBounds_toArray, List.set_cons_zero, List.set_cons_succ, i64_w, i32_w]
        rfl
      refine pure_ (i := 7) (N := some 124) (v := ?_) (a' := ?_) #[true, true, true, true, true, true, true, true, false, false, false, false, false, false, false, false, false, false, false] rfl rfl (by kernel_rfl) (fun _ _ _ h => h) (Or.inl ⟨by rfl, ?_⟩) ?_ ?_
      rotate_left
      · intro w'
        go_simp
        with_reducible rfl
      rotate_left
      · simp only [Act.put, List.setIfInBounds_toArray, List.set_cons_zero, List.set_cons_succ, i64_w, i32_w]
        rfl
      refine pure_ (i := 8) (N := some 125) (v := ?_) (a' := ?_) #[true, true, true, true, true, true, true, true, true, false, false, false, false, false, false, false, false, false, false] rfl rfl (by kernel_rfl) (fun _ _ _ h => h) (Or.inl ⟨by rfl, ?_⟩) ?_ ?_
      rotate_left
      · intro w'
        go_simp
        with_reducible rfl
      rotate_left
      · simp only [Act.put, List.setIfInBounds_toArray, List.set_cons_zero, List.set_cons_succ, i64_w, i32_w]
        rfl
      refine pure_ (i := 10) (N := some 127) (v := ?_) (a' := ?_) #[true, true, true, true, true, true, true, true, true, false, true, false, false, false, false, false, false, false, false] rfl rfl (by kernel_rfl) (fun _ _ _ h => h) (Or.inl ⟨by rfl, ?_⟩) ?_ ?_
      rotate_left
      · intro w'
        go_simp
        with_reducible rfl
      rotate_left
      · simp only [Act.put, List.setIfInBounds_toArray, List.set_cons_zero, List.set_cons_succ, i64_w, i32_w]
        rfl
      refine pure_ (i := 12) (N := some 129) (v := ?_) (a' := ?_) #[true, true, true, true, true, true, true, true, true, false, true, false, true, false, false, false, false, false, false] rfl rfl (by kernel_rfl) (fun _ _ _ h => h) (Or.inl ⟨by rfl, ?_⟩) ?_ ?_
      rotate_left
      · intro w'
        go_simp
        with_reducible rfl
      rotate_left
      · simp only [Act.put, List.setIfInBounds_toArray, List.set_cons_zero, List.set_cons_succ, i64_w, i32_w]
        rfl
      refine take_ (i := 13) (N := some 130) (v := ?_) (a' := ?_) #[true, true, true, true, true, true, true, true, true, false, true, false, true, true, false, false, false, false, false] rfl rfl (by kernel_rfl) (fun _ _ _ h => h) (Or.inl ⟨by rfl, ?_⟩) hHeld ?_ ?_
      rotate_left
      · intro w' s0
        go_simp
        with_reducible rfl
      rotate_left
      · simp only [Act.put, List.setIfInBounds_toArray, List.set_cons_zero, List.set_cons_succ, i64_w, i32_w]
        rfl
      refine pure_ (i := 14) (N := some 131) (v := ?_) (a' := ?_) #[true, true, true, true, true, true, true, true, true, false, true, false, true, true, true, false, false, false, false] rfl rfl (by kernel_rfl) (fun _ _ _ h => h) (Or.inl ⟨by rfl, ?_⟩) ?_ ?_
      rotate_left
      · intro w'
        go_simp
        with_reducible rfl
      rotate_left
      · simp only [Act.put, List.setIfInBounds_toArray, List.set_cons_zero, List.set_cons_succ, i64_w, i32_w]
        rfl
      refine one_ (i := 9) (N := some 126) #[true, true, true, true, true, true, true, true, true, true, true, false, true, true, true, false, false, false, false] rfl rfl (by kernel_rfl) (by decide) (fun K hK => ?_)
      refine goes_ Try.func23 (by kernel_rfl) rfl #[.slice Am m.length cm] (by rfl) rfl rfl (by simp only [List.map_toArray, List.map_cons, List.map_nil]; rfl) ?_
      with_reducible refine (heap_Words.calls k Am cm m W2 wa HMa.out hcm HW2.out).mono ?_
      rintro e wb ⟨rfl, hb⟩
      refine ⟨_, rfl, ?_⟩
      have HBb := Aside0.mk (below_then HBa.out HBa.out.size hb)
      have BKb := Aside0.mk (blk_below BKa.out hb)
      have HLb := Aside0.mk (Kd.C_below HLa.out hb)
      clear hb
      refine hK.out _ _ ((blk_cell BKb.out 1).trans rfl) (fun hHeld => ?_)
      clear hK K
      refine norm_ (a' := ?_) ?_ ?_
      rotate_left
      · show Act.put _ (some 126) _ = _
        simp only [Act.put, List.setIfInBounds_toArray, List.set_cons_zero, List.set_cons_succ, i64_w, i32_w]
        rfl
      refine one_ (i := 11) (N := some 128) #[true, true, true, true, true, true, true, true, true, true, true, true, true, true, true, false, false, false, false] rfl rfl (by kernel_rfl) (by decide) (fun K hK => ?_)
      refine goes_ Try.func23 (by kernel_rfl) rfl #[.slice A0 l.length c0] (by rfl) rfl rfl (by simp only [List.map_toArray, List.map_cons, List.map_nil]; rfl) ?_
      with_reducible refine (heap_Words.calls k A0 c0 l W1 wb HLb.out hc0 HW1.out).mono ?_
      rintro e wc ⟨rfl, hb⟩
      refine ⟨_, rfl, ?_⟩
      have HBc := Aside0.mk (below_then HBb.out HBb.out.size hb)
      have BKc := Aside0.mk (blk_below BKb.out hb)
      clear hb
      refine hK.out _ _ ((blk_cell BKc.out 1).trans rfl) (fun hHeld => ?_)
      clear hK K
      refine norm_ (a' := ?_) ?_ ?_
      rotate_left
      · show Act.put _ (some 128) _ = _
        simp only [Act.put, List.setIfInBounds_toArray, List.set_cons_zero, List.set_cons_succ, i64_w, i32_w]
        rfl
      refine pure_ (i := 15) (N := some 132) (v := ?_) (a' := ?_) #[true, true, true, true, true, true, true, true, true, true, true, true, true, true, true, true, false, false, false] rfl rfl (by kernel_rfl) (fun _ _ _ h => h) (Or.inl ⟨by rfl, ?_⟩) ?_ ?_
      rotate_left
      · intro w'
        go_simp
        with_reducible rfl
      rotate_left
      · simp only [Act.put, List.setIfInBounds_toArray, List.set_cons_zero, List.set_cons_succ, i64_w, i32_w]
        rfl
      refine pure_ (i := 16) (N := some 133) (v := ?_) (a' := ?_) #[true, true, true, true, true, true, true, true, true, true, true, true, true, true, true, true, true, false, false] rfl rfl (by kernel_rfl) (fun _ _ _ h => h) (Or.inl ⟨by rfl, ?_⟩) ?_ ?_
      rotate_left
      · intro w'
        go_simp
        with_reducible rfl
      rotate_left
      · simp only [Act.put, List.setIfInBounds_toArray, List.set_cons_zero, List.set_cons_succ, i64_w, i32_w]
        rfl
      refine pure_ (i := 17) (N := some 134) (v := ?_) (a' := ?_) #[true, true, true, true, true, true, true, true, true, true, true, true, true, true, true, true, true, true, false] rfl rfl (by kernel_rfl) (fun _ _ _ h => h) (Or.inl ⟨by rfl, ?_⟩) ?_ ?_
      rotate_left
      · intro w'
        go_simp
        with_reducible rfl
      rotate_left
      · simp only [Act.put, List.setIfInBounds_toArray, List.set_cons_zero, List.set_cons_succ, i64_w, i32_w]
        rfl
      refine pure_ (i := 18) (N := some 4) (v := ?_) (a' := ?_) #[true, true, true, true, true, true, true, true, true, true, true, true, true, true, true, true, true, true, true] rfl rfl (by kernel_rfl) (fun _ _ _ h => h) (Or.inl ⟨by rfl, ?_⟩) ?_ ?_
      rotate_left
      · intro w'
        go_simp
        with_reducible rfl
      rotate_left
      · simp only [Act.put, List.setIfInBounds_toArray, List.set_cons_zero, List.set_cons_succ, i64_w, i32_w]
        rfl
      refine done_ (by kernel_rfl) ?_

      go_wp2
      go_ret
      exact ⟨rfl, HBc.out⟩
end Go.Proofs.Yticpjpacoeecmaa.A.P
