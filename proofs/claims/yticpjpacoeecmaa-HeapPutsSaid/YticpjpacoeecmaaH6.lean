/- The law HeapPuts's walk. -/
import Derived.Test.YticpjpacoeecmaaH4
import Derived.Test.YticpjpacoeecmaaAx6
import Derived.Test.YticpjpacoeecmaaAx7
import Derived.Test.YticpjpacoeecmaaAx16
namespace Go.Proofs.Yticpjpacoeecmaa.A.P
open Go.RowKit Go.Proofs.YticpjpacoeecmaaW.PrintWords Go.Proofs.YticpjpacoeecmaaW.PrintLast Go.Proofs.YticpjpacoeecmaaW.PrintMore Go.Proofs.Yticpjpacoeecmaa.C
attribute [local go_sem] max2_int min2_int max_two min_two max_three min_three max_four min_four
set_option linter.unusedVariables false
set_option linter.unusedSimpArgs false
theorem lits2 (w : World) (o2 o3 : Obj) : ((w.alloc o2).alloc o3).heap[w.heap.size]? = some o2 ∧ ((w.alloc o2).alloc o3).heap[w.heap.size + 1]? = some o3 ∧ Below w.heap.size w ((w.alloc o2).alloc o3) := by
  have h1 : (w.alloc o2).heap.size = w.heap.size + 1 := by simp
  refine ⟨blk_alloc (blk_new w o2) o3, ?_, below_alloc (below_alloc (Below.refl _ _) _) _⟩
  have := blk_new (w.alloc o2) o3
  rwa [h1] at this
theorem copyC {k : Nat} {A0 : Option Addr} {c0 : Nat} {l r : List S40} {w : World} (hr : Kd.C k40 w A0 l.length l) (hc : l.length ≤ c0) (h : larchref15_Copy.f k l = some r) :
    Calls Try.prog 10 #[.slice A0 l.length c0] w fun e w' => ∃ A c, e = .returned (.slice A r.length c) ∧ r.length ≤ c ∧ Kd.C k40 w' A r.length r ∧ Below w.heap.size w w' := by
  refine (larchref15_Copy.calls k A0 c0 l r w hr hc h).mono ?_
  rintro e w' ⟨v, rfl, hS, hb⟩
  obtain ⟨A, c, rfl⟩ := Kd.S_slice hS
  obtain ⟨_, hl, hC⟩ := Kd.S_reads' hS
  exact ⟨A, c, rfl, hl, hC, hb⟩
theorem rputC {k : Nat} {A0 : Option Addr} {c0 : Nat} {l : List S40} {s : ByteArray} {A1 : Option Addr} {c1 : Nat} {ws : List S24} {m : List S40} {n r : Int} {w : World} (hr : Kd.C k40 w A0 l.length l) (hc : l.length ≤ c0) (hr1 : Kd.C k24 w A1 ws.length ws) (hc1 : ws.length ≤ c1) (h : larchref15_Put.f k l s ws = some (m, n, r)) :
    Calls Try.prog 29 #[.slice A0 l.length c0, .agg #[.string s, .slice A1 ws.length c1]] w fun e w' => ∃ A c, e = .returned (.tuple #[.slice A m.length c, .int .i64 n, .int .i64 r]) ∧ m.length ≤ c ∧ Kd.C k40 w' A m.length m ∧ Below w.heap.size w w' := by
  refine (larchref15_Put.calls k A0 c0 l s (fun k_ => k_ < w.heap.size) A1 c1 ws m n r w hr hc (Kd.V_mk hc1 (Kd.C_F k24_heap hr1)) h).mono ?_
  rintro e w' ⟨v, rfl, hN, hb⟩
  obtain ⟨A, c, rfl⟩ := Kd.N_slice hN
  obtain ⟨_, hl, hC⟩ := Kd.N_reads' hN
  exact ⟨A, c, rfl, hl, hC, hb⟩
theorem arrC {k : Nat} {s s' : ByteArray} {n r : Int} {vs : List S24} {w : World} (h : heap_Array.f k s n = some (s', vs, r)) :
    Calls Try.prog 30 #[.string s, .int .i64 n] w fun e w' => ∃ A c, e = .returned (.tuple #[.agg #[.string s', .slice A vs.length c], .int .i64 r]) ∧ vs.length ≤ c ∧ Kd.C k24 w' A vs.length vs ∧ Below w.heap.size w w' := by
  refine (heap_Array.calls k s n s' vs r w h).mono ?_
  rintro e w' ⟨v, rfl, hR, hb⟩
  obtain ⟨A, c, rfl, hl, hC⟩ := Kd.R_reads hR
  exact ⟨A, c, rfl, hl, hC, hb⟩
theorem rarrC {k : Nat} {s s' : ByteArray} {n r : Int} {vs : List S24} {w : World} (h : larchref15_Array.f k s n = some (s', vs, r)) :
    Calls Try.prog 31 #[.string s, .int .i64 n] w fun e w' => ∃ A c, e = .returned (.tuple #[.agg #[.string s', .slice A vs.length c], .int .i64 r]) ∧ vs.length ≤ c ∧ Kd.C k24 w' A vs.length vs ∧ Below w.heap.size w w' := by
  refine (larchref15_Array.calls k s n s' vs r w h).mono ?_
  rintro e w' ⟨v, rfl, hR, hb⟩
  obtain ⟨A, c, rfl, hl, hC⟩ := Kd.R_reads hR
  exact ⟨A, c, rfl, hl, hC, hb⟩
set_option maxHeartbeats 8000000 in
set_option maxRecDepth 100000 in
theorem puts_no (k : Nat) (A0 : Option Addr) (c0 : Nat) (l : List S40) (s : ByteArray) (A1 : Option Addr) (c1 : Nat) (ws : List S24) (kind : ByteArray) (size : Int) (b : Bool) (w : World) (hr : Kd.C k40 w A0 l.length l) (hc0 : l.length ≤ c0)
    (hli : larchlaw15_light.f k l = some b) (hno : b = false ∨ (70000 : Int) < ws.length) :
    Calls Try.prog 8 #[.slice A0 l.length c0, .agg #[.string s, .slice A1 ws.length c1], .string kind, .int .i64 size] w fun e w' => e = .returned (.bool true) ∧ Below w.heap.size w w' := by
  have HB0 := Aside0.mk (below_alloc (Below.refl w.heap.size w) (.cells #[.string s, .slice A1 ws.length c1] 40))
  have HLI := Lib.hid (larchlaw15_light.calls k A0 c0 l b _ (Kd.C_below hr HB0.out) hc0 hli)
  clear hr hli
  cases b
  · clear hno
    go_enter Try.func8, Try.ntmps8
    go_wp2_with fail
    refine HLI.out.mono ?_
    rintro e w2 ⟨rfl, ⟨m2, rfl⟩⟩
    go_wp2
    go_ret
    exact ⟨rfl, pw_below_drewN HB0.out _⟩
  · have d4 : decide ((70000 : Int) < (ws.length : Int)) = true := decide_eq_true (by
      rcases hno with h | h
      · cases h
      · exact h)
    clear hno
    go_enter Try.func8, Try.ntmps8
    go_wp2_with fail
    refine HLI.out.mono ?_
    rintro e w2 ⟨rfl, ⟨m2, rfl⟩⟩
    go_wp2
    go_ret
    exact ⟨rfl, pw_below_drewN HB0.out _⟩
set_option maxHeartbeats 8000000 in
set_option maxRecDepth 100000 in
theorem puts_yes (k : Nat) (A0 : Option Addr) (c0 : Nat) (l : List S40) (s : ByteArray) (A1 : Option Addr) (c1 : Nat) (ws : List S24) (kind : ByteArray) (size size' : Int) (m : List S40) (n r : Int) (s' : ByteArray) (vs : List S24) (r' : Int) (w : World) (hr : Kd.C k40 w A0 l.length l) (hc0 : l.length ≤ c0) (hr1 : Kd.C k24 w A1 ws.length ws) (hc1 : ws.length ≤ c1)
    (hli : larchlaw15_light.f k l = some true) (h7 : (ws.length : Int) ≤ 70000) (hcp : larchref15_Copy.f k l = some l) (hput : heap_Put.f k l s ws = some (m, n, r)) (hrput : larchref15_Put.f k l s ws = some (m, n, r))
    (harr : heap_Array.f k kind size = some (s', vs, r')) (dm : (if (65537 : Int) < size then (65537 : Int) else size) = size') (hrarr : larchref15_Array.f k kind size' = some (s', vs, r')) (hso : larchbase_SameObjects.f k m m = some true) (hso1 : larchbase_SameObjects.f k [⟨s', vs⟩] [⟨s', vs⟩] = some true) (hso2 : larchbase_SameObjects.f k l l = some true) (hw : larchlaw15_works.f k = some true) :
    Calls Try.prog 8 #[.slice A0 l.length c0, .agg #[.string s, .slice A1 ws.length c1], .string kind, .int .i64 size] w fun e w' => e = .returned (.bool true) ∧ Below w.heap.size w w' := by
  have HR := Aside0.mk hr
  have HR1 := Aside0.mk hr1
  have HB0 := Aside0.mk (below_alloc (Below.refl w.heap.size w) (.cells #[.string s, .slice A1 ws.length c1] 40))
  have BK0 := Aside0.mk (blk_new w (.cells #[.string s, .slice A1 ws.length c1] 40))
  have HLI := Lib.hid (larchlaw15_light.calls k A0 c0 l true _ (Kd.C_below hr HB0.out) hc0 hli)
  have HCP := Lib.hid (fun w' (hb : Below w.heap.size w w') => copyC (Kd.C_below hr hb) hc0 hcp)
  have HRP := Lib.hid (fun w' (hb : Below w.heap.size w w') => rputC (Kd.C_below hr hb) hc0 (Kd.C_below hr1 hb) hc1 hrput)
  have d4 : decide ((70000 : Int) < (ws.length : Int)) = false := decide_eq_false (by omega)
  have HPUT := Aside0.mk hput
  have HARR := Lib.hid (fun w' : World => arrC (w := w') harr)
  have HRARR := Lib.hid (fun w' : World => rarrC (w := w') hrarr)
  have HSO := Aside0.mk hso
  have HSO1 := Aside0.mk hso1
  have HSO2 := Aside0.mk hso2
  have HW := Lib.hid (fun w' : World => larchlaw15_works.calls k true ⟨rfl⟩ w' hw)
  clear hr hr1 hli h7 hcp hput hrput harr hrarr hso hso1 hso2 hw
  go_enter Try.func8, Try.ntmps8
  go_wp2_with fail
  refine HLI.out.mono ?_
  rintro e w2 ⟨rfl, ⟨m2, rfl⟩⟩
  go_wp2_with fail
  refine (HCP.out _ (pw_below_drewN HB0.out _)).mono ?_
  rintro e w3 ⟨Ao, co, rfl, hco, hCo, hb⟩
  have HB3 := Aside0.mk (below_then (pw_below_drewN HB0.out m2) (pw_below_drewN HB0.out m2).size hb)
  have BK3 := Aside0.mk (blk_below (blk_drewN BK0.out m2) hb)
  have HO3 := Aside0.mk hCo
  have HP3 := Lib.hid (putC hCo hco (Kd.C_below HR1.out HB3.out) hc1 HPUT.out)
  have hcx0 : w3.cell? ⟨w.heap.size, 0, none⟩ = some (.string s) := (blk_cell BK3.out 0).trans rfl
  have hcx1 : w3.cell? ⟨w.heap.size, 1, none⟩ = some (.slice A1 ws.length c1) := (blk_cell BK3.out 1).trans rfl
  clear hb hCo
  go_wp2_with fail
  refine HP3.out.mono ?_
  rintro e w4 ⟨Am, cm, rfl, hcm, hCm, hb⟩
  have HB4 := Aside0.mk (below_then HB3.out HB3.out.size hb)
  have BK4 := Aside0.mk (blk_below BK3.out hb)
  have HO4 := Aside0.mk (Kd.C_below HO3.out hb)
  have HM4 := Aside0.mk hCm
  clear hb hCm hcx0 hcx1 HP3 HO3
  have hcx0 : w4.cell? ⟨w.heap.size, 0, none⟩ = some (.string s) := (blk_cell BK4.out 0).trans rfl
  have hcx1 : w4.cell? ⟨w.heap.size, 1, none⟩ = some (.slice A1 ws.length c1) := (blk_cell BK4.out 1).trans rfl
  go_wp2_with fail
  refine (HRP.out _ HB4.out).mono ?_
  rintro e w5 ⟨Ar, cr, rfl, hcr, hCr, hb⟩
  have HB5 := Aside0.mk (below_then HB4.out HB4.out.size hb)
  have HO5 := Aside0.mk (Kd.C_below HO4.out hb)
  have HM5 := Aside0.mk (Kd.C_below HM4.out hb)
  have HN5 := Aside0.mk hCr
  clear hb hCr hcx0 hcx1 HO4 HM4 BK4 BK3
  go_wp2_with fail
  refine (HARR.out _).mono ?_
  rintro e w6 ⟨Ay, cy, rfl, hcy, hCy, hb⟩
  have HB6 := Aside0.mk (below_then HB5.out HB5.out.size hb)
  have HO6 := Aside0.mk (Kd.C_below HO5.out hb)
  have HM6 := Aside0.mk (Kd.C_below HM5.out hb)
  have HN6 := Aside0.mk (Kd.C_below HN5.out hb)
  have HY6 := Aside0.mk hCy
  clear hb hCy HO5 HM5 HN5
  go_wp2_with fail
  refine (HRARR.out _).mono ?_
  rintro e w7 ⟨Az, cz, rfl, hcz, hCz, hb⟩
  have HB67 := Aside0.mk (below_then (below_alloc (Below.refl w6.heap.size w6) (.cells #[.string s', .slice Ay vs.length cy] 40)) (by simp) hb)
  have BK7 := Aside0.mk (blk_below (blk_new w6 (.cells #[.string s', .slice Ay vs.length cy] 40)) hb)
  have HB7 := Aside0.mk (below_then HB6.out HB6.out.size HB67.out)
  have HO7 := Aside0.mk (Kd.C_below HO6.out HB67.out)
  have HM7 := Aside0.mk (Kd.C_below HM6.out HB67.out)
  have HN7 := Aside0.mk (Kd.C_below HN6.out HB67.out)
  have HY7 := Aside0.mk (Kd.C_below HY6.out HB67.out)
  have HZ7 := Aside0.mk hCz
  have hy0 : w7.cell? ⟨w6.heap.size, 0, none⟩ = some (.string s') := (blk_cell BK7.out 0).trans rfl
  have hy1 : w7.cell? ⟨w6.heap.size, 1, none⟩ = some (.slice Ay vs.length cy) := (blk_cell BK7.out 1).trans rfl
  have hz7 : w6.heap.size < w7.heap.size := blk_lt BK7.out
  have HS7 := Lib.hid (larchbase_SameObjects.calls k Am cm m Ar cr m true (w7.alloc (.cells #[.string s', .slice Az vs.length cz] 40)) (Kd.C_alloc HM7.out _) hcm (Kd.C_alloc HN7.out _) hcr HSO.out)
  clear hb hCz HO6 HM6 HN6 HY6
  go_wp2_with fail
  refine HS7.out.mono ?_
  rintro e w8 ⟨rfl, ⟨m8, rfl⟩⟩
  go_wp2_with fail
  have hsz8 : ((w7.alloc (.cells #[.string s', .slice Az vs.length cz] 40)).drewN m8).heap.size = w7.heap.size + 1 := by simp
  obtain ⟨hL1, hL2, hLB⟩ := lits2 ((w7.alloc (.cells #[.string s', .slice Az vs.length cz] 40)).drewN m8) (.cells #[.string s', .slice Ay vs.length cy] 40) (.cells #[.string s', .slice Az vs.length cz] 40)
  rw [hsz8] at hL1 hL2
  have HB79 := Aside0.mk (below_then (pw_below_drewN (below_alloc (Below.refl w7.heap.size w7) (.cells #[.string s', .slice Az vs.length cz] 40)) m8) (by rw [hsz8]; omega) hLB)
  have HS9 := Lib.hid (two_same hL1 hL2 hcy hcz (Kd.C_below HY7.out HB79.out) (Kd.C_below HZ7.out HB79.out) HSO1.out)
  clear hL1 hL2 hLB hsz8
  refine HS9.out.mono ?_
  rintro e w9 ⟨rfl, ⟨m9, rfl⟩⟩
  have HB9 := Aside0.mk (below_then HB7.out HB7.out.size HB79.out)
  have HS10 := Lib.hid (larchbase_SameObjects.calls k Ao co l A0 c0 l true _ (Kd.C_below HO7.out (pw_below_drewN HB79.out m9)) hco (Kd.C_below HR.out (pw_below_drewN HB9.out m9)) hc0 HSO2.out)
  go_wp2_with fail
  refine HS10.out.mono ?_
  rintro e w10 ⟨rfl, ⟨m10, rfl⟩⟩
  go_wp2_with fail
  refine (HW.out _).mono ?_
  rintro e w11 ⟨rfl, hb⟩
  have HB11 := Aside0.mk (below_then (pw_below_drewN HB9.out (m9 + m10)) (pw_below_drewN HB9.out (m9 + m10)).size hb)
  clear hb
  go_wp2
  go_ret
  exact ⟨rfl, HB11.out⟩
end Go.Proofs.Yticpjpacoeecmaa.A.P
