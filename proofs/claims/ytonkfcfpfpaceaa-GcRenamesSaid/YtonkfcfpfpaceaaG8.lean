/- gc: 'anew': values with their new numbers. -/
import Derived.Test.YtonkfcfpfpaceaaG6
import Derived.Test.YtonkfcfpfpaceaaG7
namespace Go.Proofs.Ytonkfcfpfpaceaa.A.P
open Go.RowKit Go.Shelf Go.Proofs.YtonkfcfpfpaceaaW.PrintWords Go.Proofs.YtonkfcfpfpaceaaW.PrintLast Go.Proofs.YtonkfcfpfpaceaaW.PrintMore
set_option linter.unusedVariables false
set_option linter.unusedSimpArgs false
attribute [local go_sem] Oper.semAt_some
theorem put41 {W : World} {base g n cap : Nat} {ok : Nat → Prop} {xs : List S41} (h : Kd.R k41 41 W base ok (.slice (some ⟨g, 0, none⟩) n cap) xs) (j : Nat) (hj : j < n) (c : Int) :
    W.cell? ⟨g, j * 2, none⟩ = some (.int .i64 (rd_T41 xs j).f0) ∧ W.cell? ⟨g, j * 2 + 1, none⟩ = some (.int .i64 (rd_T41 xs j).f1) ∧ W.frozen? ⟨g, j * 2, none⟩ = false ∧ W.frozen? ⟨g, j * 2 + 1, none⟩ = false ∧
      Kd.R k41 41 (W.setCell ⟨g, j * 2 + 1, none⟩ (.int .i64 c)) base ok (.slice (some ⟨g, 0, none⟩) n cap) (xs.set j ⟨(rd_T41 xs j).f0, c⟩) := by
  obtain ⟨ce, hcl, hM, hcc, hfr⟩ := Kd.R_elem h z41 (j : Int) (by omega) (by omega)
  obtain rfl := k41_openM hM
  have HP := Kd.R_seg h (j : Int) (by omega) (by omega) (seg := [.int .i64 c]) (j := 1) hcl hcc (show 2 ≤ 2 from by decide) (x' := (⟨(rd_T41 xs j).f0, c⟩ : S41)) (k41_mkM _ _ _ (⟨(rd_T41 xs j).f0, c⟩ : S41)) (fun _ hk => hk)
  have h0 := hcc 0 _ rfl
  have h1 := hcc 1 _ rfl
  have f0 := hfr 0
  have f1 := hfr 1
  simp only [show (k41).sz = 2 from rfl, Nat.add_zero, Int.toNat_natCast] at h0 h1 f0 f1 HP
  exact ⟨h0, h1, f0, f1, HP.1⟩
/-- The numbers of what leads somewhere, none. -/
def z1 (v : S41) : S41 := if v.f0 = 4 then ⟨v.f0, 0⟩ else v
def zs (vs : List S41) (j : Nat) : List S41 := (vs.take j).map z1 ++ vs.drop j
theorem zs_len (vs : List S41) (j : Nat) : (zs vs j).length = vs.length := by simp [zs]; omega
theorem rd41_get {vs : List S41} {j : Nat} (h : j < vs.length) : rd_T41 vs (j : Int) = vs[j] := by
  simp [rd_T41, List.getD_eq_getElem?_getD, List.getElem?_eq_getElem h]
theorem zs_split {vs : List S41} {j : Nat} (h : j < vs.length) : zs vs j = (vs.take j).map z1 ++ vs[j] :: vs.drop (j + 1) := by
  rw [zs, List.drop_eq_getElem_cons h]
theorem zs_split' {vs : List S41} {j : Nat} (h : j < vs.length) : zs vs (j + 1) = (vs.take j).map z1 ++ z1 vs[j] :: vs.drop (j + 1) := by
  rw [zs, List.take_succ_eq_append_getElem h, List.map_append, List.append_assoc]
  rfl
theorem zs_rd {vs : List S41} {j : Nat} (h : j < vs.length) : rd_T41 (zs vs j) (j : Int) = rd_T41 vs (j : Int) := by
  have hl : ((vs.take j).map z1).length = j := by simp; omega
  unfold rd_T41
  rw [Int.toNat_natCast, zs_split h, List.getD_eq_getElem?_getD, List.getElem?_append_right (by omega), hl, Nat.sub_self]
  simp [List.getD_eq_getElem?_getD, List.getElem?_eq_getElem h]
theorem zs_set {vs : List S41} {j : Nat} (h : j < vs.length) (h4 : (rd_T41 vs (j : Int)).f0 = 4) : (zs vs j).set j ⟨(rd_T41 (zs vs j) (j : Int)).f0, 0⟩ = zs vs (j + 1) := by
  have hl : ((vs.take j).map z1).length = j := by simp; omega
  rw [zs_rd h, zs_split h, zs_split' h, List.set_append_right j _ (by omega), hl, Nat.sub_self, List.set_cons_zero]
  rw [rd41_get h] at h4 ⊢
  simp [z1, h4]
theorem zs_same {vs : List S41} {j : Nat} (h : j < vs.length) (h4 : (rd_T41 vs (j : Int)).f0 ≠ 4) : zs vs j = zs vs (j + 1) := by
  rw [zs_split h, zs_split' h]
  rw [rd41_get h] at h4
  simp [z1, h4]
def setP (o : List Int) {n : Nat} (xs : List S41) (y : Ld n) : List S41 := xs.set y.1.1 ⟨(rd_T41 xs (y.1.1 : Int)).f0, placeOf o y.1.2⟩
def setAll (o : List Int) {n : Nat} (xs : List S41) (ys : List (Ld n)) : List S41 := ys.foldl (setP o) xs
theorem setAll_snoc (o : List Int) {n : Nat} (xs : List S41) (ys : List (Ld n)) (y : Ld n) : setAll o xs (ys ++ [y]) = setP o (setAll o xs ys) y := by simp [setAll]
theorem setAll_len (o : List Int) {n : Nat} : ∀ (ys : List (Ld n)) (xs : List S41), (setAll o xs ys).length = xs.length
  | [], xs => rfl
  | y :: ys, xs => by
    have h := setAll_len o ys (setP o xs y)
    rw [show (setP o xs y).length = xs.length by simp [setP]] at h
    exact h
/-- Values with their new numbers. -/
def anewL (H : List S37) (o : List Int) (vs : List S41) : List S41 := setAll o (zs vs vs.length) (ldUp H vs vs.length)
theorem anew_box {W w3 : World} {base : Nat} {v : Value} {xs : List S41} {gb : Nat} (h : Kd.R k41 41 W base (fun _ => True) v xs) (hg : gb = W.heap.size) (hb : Below W.heap.size W w3) (a b : Value) :
    Kd.R k41 41 ((w3.setCell ⟨gb, 0, none⟩ a).setCell ⟨gb, 1, none⟩ b) base (fun _ => True) v xs :=
  Kd.R_mono (Kd.R_far (p := ⟨gb, 1, none⟩) (Kd.R_far (p := ⟨gb, 0, none⟩) (Kd.R_below (Kd.R_elderB h gb (Nat.le_of_eq hg.symm)) hb) (fun _ hk => hk.2) a) (fun _ hk => hk.2) b) (fun _ _ => trivial)
theorem anew_below {w W w3 : World} {gb : Nat} (h : Below w.heap.size w W) (hg : gb = W.heap.size) (hb : Below W.heap.size W w3) (a b : Value) : Below w.heap.size w ((w3.setCell ⟨gb, 0, none⟩ a).setCell ⟨gb, 1, none⟩ b) :=
  ((below_step h hb).setCell (p := ⟨gb, 0, none⟩) (by rw [hg]; exact h.size) a).setCell (p := ⟨gb, 1, none⟩) (by rw [hg]; exact h.size) b
theorem anew_boxed {W w3 : World} {gb B : Nat} {t : TypeId} {v : Value} (h : Boxed W B t v) (hg : gb = W.heap.size) (hb : Below W.heap.size W w3) (a b : Value) : Boxed ((w3.setCell ⟨gb, 0, none⟩ a).setCell ⟨gb, 1, none⟩ b) B t v :=
  blk_far (blk_far (blk_below h hb) (by have := h.lt; show B ≠ gb; omega) a) (by have := h.lt; show B ≠ gb; omega) b
set_option maxRecDepth 100000 in
set_option maxHeartbeats 8000000 in
theorem anew_any (nT T M : Nat) (AH A : Option Addr) (ch c : Nat) (H : List S37) (vs : List S41) (v0 : Value) (o : List Int) (w : World) (hC : Kd.C k41 w A vs.length vs) (hc : vs.length ≤ c) (hH : Kd.C k37 w AH H.length H) (hwf : ∀ v : S41, v ∈ vs → (Lit.int .i64 v.f1).wf = true)
    (htr : Tr nT T M w AH H.length ch v0 o) (hlen : vs.length ≤ 100000000) :
    Calls Try.prog 35 #[.pointer (some ⟨T, 0, none⟩), .slice A vs.length c] w fun e w' => ∃ v', e = .returned v' ∧ Kd.R k41 41 w' w.heap.size (fun _ => True) v' (anewL H o vs) ∧ Below w.heap.size w w' := by
  refine (callsIn_wide (n := 6)).1 ?_
  refine callsIn_of_wp_marks Try.func35 rfl trivial ?_ rfl
  simp only [Try.ntmps35, List.size_toArray, List.length_cons, List.length_nil, Nat.reduceAdd, Nat.reduceSub, Array.replicate_succ, Array.replicate_zero, List.push_toArray, List.append_toArray, List.nil_append, List.cons_append]
  refine wpIn_wide.2 ?_
  have hbB : Below w.heap.size w (w.alloc (.cells #[.pointer (some ⟨T, 0, none⟩)] 54)) := (Below.refl _ w).alloc (Nat.le_refl _) _
  have HCL := Lib.hid (api_Value_30.calls A c vs vs (w.alloc (.cells #[.pointer (some ⟨T, 0, none⟩)] 54)) (Kd.C_below hC hbB) hc (by unfold api_Value_30.f; rw [if_pos (by omega)]))
  have bX := Boxed.new w 54 (.pointer (some ⟨T, 0, none⟩))
  go_wp2_with fail
  refine HCL.out.mono ?_
  rintro e w2 ⟨v2, rfl, hr2, hb2⟩
  obtain ⟨A2, c2, rfl⟩ := Kd.R_slice hr2
  have hb2' := below_step hbB hb2
  have bX2 : Boxed w2 w.heap.size 54 (.pointer (some ⟨T, 0, none⟩)) := blk_below bX hb2
  have hr2' : Kd.R k41 41 w2 w.heap.size (fun _ => True) (.slice A2 vs.length c2) vs := Kd.R_lower hr2 hbB.size
  have hgl : w.heap.size ≤ w2.heap.size := hb2'.size
  have HBo := Aside0.mk (Boxed.new w2 23 (.slice A2 vs.length c2))
  have HBx := Aside0.mk (bX2.alloc (.cells #[.slice A2 vs.length c2] 23))
  have HR := Aside0.mk (show Kd.R k41 41 (w2.alloc (.cells #[.slice A2 vs.length c2] 23)) w.heap.size (fun _ => True) (.slice A2 vs.length c2) (zs vs 0) from Kd.R_alloc hr2' _)
  have HB := Aside0.mk (hb2'.alloc hgl (.cells #[.slice A2 vs.length c2] 23))
  have HCC := Aside0.mk hC
  have HHH := Aside0.mk hH
  have HTR := Aside0.mk htr
  have HWF := Lib.hid hwf
  clear HCL bX hb2 hb2' bX2 hr2 hr2' hC hH htr hwf hbB
  go_wp2
  generalize w2.heap.size = Bo at *
  go_loopg [14] (vs.length + 1) (fun kq v14 w' => ∃ j : Nat, v14 = .int .i64 (j : Int) ∧ j ≤ vs.length ∧ Aside0 (j + kq = vs.length + 1) ∧ Aside0 (Kd.R k41 41 w' w.heap.size (fun _ => True) (.slice A2 vs.length c2) (zs vs j)) ∧ Aside0 (Below w.heap.size w w') ∧ Aside0 (Boxed w' w.heap.size 54 (.pointer (some ⟨T, 0, none⟩))) ∧ Aside0 (Boxed w' Bo 23 (.slice A2 vs.length c2)))
  case atStart => exact ⟨0, rfl, by omega, ⟨by omega⟩, HR, HB, HBx, HBo⟩
  case round =>
    clear HR HB HBx HBo
    obtain ⟨j, rfl, hjl, hjk, HR, HB, HBx, HBo⟩ := hrel
    by_cases q1 : j < vs.length
    · have q1b : decide ((j : Int) < (vs.length : Int)) = true := decide_eq_true (by omega)
      obtain ⟨g, cap, eA, hg1, hg2, gcells, hgb⟩ := Kd.R_form HR.out (by rw [zs_len]; omega)
      rw [zs_len] at eA
      cases eA
      obtain ⟨h0, h1, f0, f1, -⟩ := put41 HR.out j q1 0
      rw [zs_rd q1] at h0 h1
      obtain ⟨k0, hk0⟩ : ∃ k0, Aside0 ((rd_T41 vs (j : Int)).f0 = k0) := ⟨_, ⟨rfl⟩⟩
      rw [hk0.out] at h0
      generalize (rd_T41 vs (j : Int)).f1 = k1 at *
      by_cases q2 : k0 = 4
      · subst q2
        go_wp2_with (first
          | ((with_reducible refine gate_dst (N := 7) rfl ?_); refine box_event ?hg (N := 7) ?hd (cs := #[.int .i64 0, .int .i64 0]) (t := 41) ?hr ?_; (case hd => rfl); (case hg => rfl); (case hr => first | (go_simp; done) | (go_simp; rfl)); intro gb hgb3 w3 hbox3 hb3; have hy0 : w3.cell? ⟨gb, 0, none⟩ = some (.int .i64 0) := (blk_cell hbox3 0).trans rfl; have hy1 : w3.cell? ⟨gb, 1, none⟩ = some (.int .i64 0) := (blk_cell hbox3 1).trans rfl; have hz0 := blk_frozen hbox3 0; have hz1 := blk_frozen hbox3 1; have HG3 := Aside0.mk hgb3; have HK3 := Aside0.mk hbox3; have HB3 := Aside0.mk hb3; clear hgb3 hbox3 hb3)
          | ((with_reducible refine gate_store (t := 41) (p := 7) rfl ?_); refine store_event (t := 41) (p := 7) (v := ?vo) (w1 := ((w3.setCell ⟨gb, 0, none⟩ (.int .i64 4)).setCell ⟨gb, 1, none⟩ (.int .i64 k1))) ?hg ?ho ?hn ?hr ?_; (case ho => rfl); (case hg => rfl); (case hn => rfl); (case hr => first | (go_simp; done) | (go_simp; rfl)); intro w4 hw4; have hR4 := anew_box HR.out HG3.out HB3.out (.int .i64 4) (.int .i64 k1); rw [← hw4] at hR4; have hb4 := blk_put (blk_put HK3.out 0 (.int .i64 4) rfl) 1 (.int .i64 k1) rfl; rw [← hw4] at hb4; have hB4 := anew_below HB.out HG3.out HB3.out (.int .i64 4) (.int .i64 k1); rw [← hw4] at hB4; have hX4 := anew_boxed HBx.out HG3.out HB3.out (.int .i64 4) (.int .i64 k1); rw [← hw4] at hX4; have hO4 := anew_boxed HBo.out HG3.out HB3.out (.int .i64 4) (.int .i64 k1); rw [← hw4] at hO4; have hv4 : w4.cell? ⟨gb, 0, none⟩ = some (.int .i64 4) := (blk_cell hb4 0).trans rfl; clear hw4 hb4; have hO4c := hO4.cell; obtain ⟨-, i1, -, j1, -⟩ := put41 hR4 j q1 0; have hP5 := (put41 hR4 j q1 0).2.2.2.2)
          | ((with_reducible refine gate_store (t := 3) (p := 25) rfl ?_); refine store_event (t := 3) (p := 25) (v := ?vo2) (w1 := (w4.setCell ⟨g, j * 2 + 1, none⟩ (.int .i64 0))) ?hg ?ho ?hn ?hr ?_; (case ho => rfl); (case hg => rfl); (case hn => rfl); (case hr => first | (go_simp; done) | (go_simp; rfl)); intro w5 hw5; rw [← hw5] at hP5; have HW5 := Aside0.mk hw5; clear hw5))
        go_roundg (gk - 1)
        case measure => have := hjk.out; omega
        case rel =>
          obtain ⟨g', cap', eA', hg1', hg2', gc', hgb'⟩ := Kd.R_form hR4 (by rw [zs_len]; omega)
          rw [zs_len] at eA'
          cases eA'
          refine ⟨j + 1, by first | rfl | simp, by omega, ⟨by have := hjk.out; omega⟩, ⟨by rw [← zs_set q1 hk0.out]; exact hP5⟩, ⟨by rw [HW5.out]; exact hB4.setCell hg1 _⟩, ⟨by rw [HW5.out]; exact blk_far hX4 (blk_ne hX4 hgb' (by decide)) _⟩, ⟨by rw [HW5.out]; exact blk_far hO4 (blk_ne hO4 hgb' (by decide)) _⟩⟩
      · have q2b : (k0 == 4) = false := by simpa using q2
        have HQ2 := Aside0.mk q2
        clear q2
        go_wp2_with (first
          | ((with_reducible refine gate_dst (N := 7) rfl ?_); refine box_event ?hg (N := 7) ?hd (cs := #[.int .i64 0, .int .i64 0]) (t := 41) ?hr ?_; (case hd => rfl); (case hg => rfl); (case hr => first | (go_simp; done) | (go_simp; rfl)); intro gb hgb3 w3 hbox3 hb3; have hy0 : w3.cell? ⟨gb, 0, none⟩ = some (.int .i64 0) := (blk_cell hbox3 0).trans rfl; have hy1 : w3.cell? ⟨gb, 1, none⟩ = some (.int .i64 0) := (blk_cell hbox3 1).trans rfl; have hz0 := blk_frozen hbox3 0; have hz1 := blk_frozen hbox3 1; have HG3 := Aside0.mk hgb3; have HK3 := Aside0.mk hbox3; have HB3 := Aside0.mk hb3; clear hgb3 hbox3 hb3)
          | ((with_reducible refine gate_store (t := 41) (p := 7) rfl ?_); refine store_event (t := 41) (p := 7) (v := ?vo) (w1 := ((w3.setCell ⟨gb, 0, none⟩ (.int .i64 k0)).setCell ⟨gb, 1, none⟩ (.int .i64 k1))) ?hg ?ho ?hn ?hr ?_; (case ho => rfl); (case hg => rfl); (case hn => rfl); (case hr => first | (go_simp; done) | (go_simp; rfl)); intro w4 hw4; have hR4 := anew_box HR.out HG3.out HB3.out (.int .i64 k0) (.int .i64 k1); rw [← hw4] at hR4; have hb4 := blk_put (blk_put HK3.out 0 (.int .i64 k0) rfl) 1 (.int .i64 k1) rfl; rw [← hw4] at hb4; have hB4 := anew_below HB.out HG3.out HB3.out (.int .i64 k0) (.int .i64 k1); rw [← hw4] at hB4; have hX4 := anew_boxed HBx.out HG3.out HB3.out (.int .i64 k0) (.int .i64 k1); rw [← hw4] at hX4; have hO4 := anew_boxed HBo.out HG3.out HB3.out (.int .i64 k0) (.int .i64 k1); rw [← hw4] at hO4; have hv4 : w4.cell? ⟨gb, 0, none⟩ = some (.int .i64 k0) := (blk_cell hb4 0).trans rfl; clear hw4 hb4))
        go_roundg (gk - 1)
        case measure => have := hjk.out; omega
        case rel => exact ⟨j + 1, by first | rfl | simp, by omega, ⟨by have := hjk.out; omega⟩, ⟨by rw [← zs_same q1 (by rw [hk0.out]; exact HQ2.out)]; exact hR4⟩, ⟨hB4⟩, ⟨hX4⟩, ⟨hO4⟩⟩
    · have q1b : decide ((j : Int) < (vs.length : Int)) = false := decide_eq_false (by omega)
      obtain rfl : j = vs.length := by omega
      have hX := HBx.out.cell
      clear q1
      have hw1 := (callsIn_wide (n := 3)).1 (leads_in 3 trivial rfl (some ⟨T, 0, none⟩) A vs.length c wr)
      go_wp2_with fail
      refine hw1.mono ?_
      rintro e w' ⟨rfl, rfl⟩
      clear hw1
      have bX := ((HBx.out).alloc (.cells #[.pointer (some ⟨T, 0, none⟩)] 54)).alloc (.cells #[.slice A vs.length c] 23)
      have bO := ((HBo.out).alloc (.cells #[.pointer (some ⟨T, 0, none⟩)] 54)).alloc (.cells #[.slice A vs.length c] 23)
      have bT := (Boxed.new wr 54 (.pointer (some ⟨T, 0, none⟩))).alloc (.cells #[.slice A vs.length c] 23)
      have bL := Boxed.new (wr.alloc (.cells #[.pointer (some ⟨T, 0, none⟩)] 54)) 23 (.slice A vs.length c)
      rw [World.size_alloc] at bL
      have hR1 := Kd.R_alloc (Kd.R_alloc HR.out (.cells #[.pointer (some ⟨T, 0, none⟩)] 54)) (.cells #[.slice A vs.length c] 23)
      have hB1 : Below w.heap.size w ((wr.alloc (.cells #[.pointer (some ⟨T, 0, none⟩)] 54)).alloc (.cells #[.slice A vs.length c] 23)) := (HB.out.alloc HB.out.size _).alloc (by have := HB.out.size; simp; omega) _
      have hsz : ((wr.alloc (.cells #[.pointer (some ⟨T, 0, none⟩)] 54)).alloc (.cells #[.slice A vs.length c] 23)).heap.size = wr.heap.size + 2 := by simp
      have hbw := HB.out.size
      have hbo := HBo.out.lt
      have hTl : T < w.heap.size := blk_lt HTR.out.b
      have hMl := HTR.out.mlt
      obtain ⟨Wb, hWb⟩ : ∃ Wb, ((wr.alloc (.cells #[.pointer (some ⟨T, 0, none⟩)] 54)).alloc (.cells #[.slice A vs.length c] 23)) = Wb := ⟨_, rfl⟩
      rw [hWb] at bX bO bT bL hR1 hB1 hsz ⊢
      clear hWb HR HB HBx HBo hX q1b
      generalize wr.heap.size = Bt at *
      go_wp2
      refine (wpIn_wide (n := 6)).1 ?_
      refine wpIn_rangeFunc_ownG rfl (by decide) (gf := 48) (lb := #[.pointer (some ⟨Bt + 1, 0, none⟩), .pointer (some ⟨Bt, 0, none⟩)]) rfl trivial (enters_of Try.func48 (by kernel_rfl) rfl)
        (leads_stops 5 trivial rfl (by omega) (Bt + 1) Bt T w Wb A AH c ch vs H HCC.out HHH.out HWF.out hB1 (by omega) (by omega) (by omega) bL.cell bT.cell ((blk_cell (HTR.out.below hB1).b 0).trans rfl)) Keeps.trans (fun W l ob ob' hl ho hc hw => ?kb) (Below.refl _ _) (fun _ => rfl)
        (fun pre W => (Boxed W w.heap.size 54 (.pointer (some ⟨T, 0, none⟩)) ∧ Boxed W Bo 23 (.slice A2 vs.length c2) ∧ Boxed W Bt 54 (.pointer (some ⟨T, 0, none⟩)) ∧ Boxed W (Bt + 1) 23 (.slice A vs.length c) ∧ Kd.R k41 41 W w.heap.size (fun _ => True) (.slice A2 vs.length c2) (setAll o (zs vs vs.length) pre)) ∧ Below w.heap.size w W)
        (fun _ _ _ => False)
        (OwnFrom.and (fun s X Y row hs hg hr => ?oi) (ownFrom_below (Nat.le_refl _) (by omega)))
        (fun _ _ _ _ _ hs _ _ => hs)
        ⟨⟨bX, bO, bT, bL, hR1⟩, hB1⟩ ?a1 ?assign ?body ?done ?stop
      case assign =>
        intro l x W K hK
        gi_wp2
        exact hK
      case kb =>
        refine ⟨belowK_b (by omega) W l ob ob' hl ho hc hw, fun a ha v hv => ?_⟩
        refine cell_kept hv (grownBy_putObj' W l ob') (fun r e => ?_)
        cases e
        exact ⟨ob, ho, hc⟩
      case oi =>
        obtain ⟨h1, h2, h3, h4, h5⟩ := hs
        have nb : ∀ {B : Nat} {t : TypeId} {u : Array Value}, X.heap[B]? = some (.cells u t (0, 0)) → some B ≠ row := fun {B t u} hb e => by
          obtain ⟨_, ob, ho, hc⟩ := hr B e.symm
          rw [hb] at ho
          cases ho
          cases hc
        exact ⟨h1.kept hg (nb h1), h2.kept hg (nb h2), h3.kept hg (nb h3), h4.kept hg (nb h4), Kd.R_mono (Kd.R_grown (Kd.R_bound h5) hg (fun k hk => by
          obtain ⟨_, _, _, q, _, cells, hk⟩ := hk
          exact nb hk)) (fun _ _ => trivial)⟩
      case body =>
        rintro l pre x W ⟨⟨hbX, hbO, hbT, hbL, hR⟩, hBW⟩ hlt
        have hlx : x.1.1 < vs.length := x.2.2
        have htr := HTR.out.below hBW
        obtain ⟨D, hown, hpl⟩ := htr.p
        obtain ⟨c', hrun, hat, -⟩ := hown.lookup_int (Maps.int_keyed Try.underlying3) Try.underlying57 Try.underlying3 (Try.zeroValue3 _) (Maps.keyOf_int_mk Try.underlying3 x.2.1)
        have hcp : c' = placeOf o x.1.2 := by
          have := hat.symm.trans (hpl.a _ x.2.1)
          simpa using this
        subst hcp
        have hsl : (setAll o (zs vs vs.length) pre).length = vs.length := by rw [setAll_len, zs_len]
        obtain ⟨g, cap, eA, hg1, hg2, gcells, hgb⟩ := Kd.R_form hR (by omega)
        rw [hsl] at eA
        cases eA
        obtain ⟨-, i1, -, j1, hP⟩ := put41 hR x.1.1 hlx (placeOf o x.1.2)
        have mixed : Try.prog.follows Departure.mixedOrders = true := by kernel_rfl
        have hOc : W.drew.cell? ⟨Bo, 0, none⟩ = some (.slice (some ⟨g, 0, none⟩) vs.length c2) := hbO.cell
        have hXc : W.drew.cell? ⟨w.heap.size, 0, none⟩ = some (.pointer (some ⟨T, 0, none⟩)) := hbX.cell
        have hMc : W.drew.cell? ⟨T, 2, none⟩ = some (.map (some M)) := (blk_cell htr.b 2).trans rfl
        obtain ⟨_, hrun, hat2, -⟩ := hown.drew.lookup_int (Maps.int_keyed Try.underlying3) Try.underlying57 Try.underlying3 (Try.zeroValue3 _) (Maps.keyOf_int_mk Try.underlying3 x.2.1)
        obtain rfl : _ = placeOf o x.1.2 := by
          have := hat2.symm.trans (hpl.a _ x.2.1)
          simpa using this
        have i1d : W.drew.cell? ⟨g, x.1.1 * 2 + 1, none⟩ = some (.int .i64 (rd_T41 (setAll o (zs vs vs.length) pre) (x.1.1 : Int)).f1) := i1
        have j1d : W.drew.frozen? ⟨g, x.1.1 * 2 + 1, none⟩ = false := j1
        have q1b : decide ((x.1.1 : Int) < (vs.length : Int)) = true := decide_eq_true (by omega)
        generalize (rd_T41 (setAll o (zs vs vs.length) pre) (x.1.1 : Int)).f1 = zz at *
        gi_wp2
        refine startIn_ (by kernel_rfl) (n := 11) (S := fun w' => w'.cell? ⟨Bo, 0, none⟩ = some (.slice (some ⟨g, 0, none⟩) vs.length c2) ∧ w'.cell? ⟨w.heap.size, 0, none⟩ = some (.pointer (some ⟨T, 0, none⟩)) ∧ w'.cell? ⟨T, 2, none⟩ = some (.map (some M)) ∧ (Instr.lookup 57 (.map (some M)) (.int .i64 x.1.2) false).run Try.prog w' = .ok (.int .i64 (placeOf o x.1.2)) w') (ds := [10]) #[false, false, false, false, false, false, false, false, false, false, false] (by kernel_rfl) rfl rfl ⟨hOc, hXc, hMc, hrun⟩ (fun hHeld => ?_)
        refine pure_ (i := 1) (N := some 33) (v := ?_) (a' := ?_) #[false, true, false, false, false, false, false, false, false, false, false] rfl rfl (by kernel_rfl) (fun _ _ _ h => h) (Or.inl ⟨by rfl, ?_⟩) ?_ ?_
        rotate_left
        · intro w'
          go_simp
          with_reducible rfl
        rotate_left
        · simp only [Act.put, List.setIfInBounds_toArray, List.set_cons_zero, List.set_cons_succ, i64_w, i32_w]
          rfl
        refine pure_ (i := 6) (N := some 38) (v := ?_) (a' := ?_) #[false, true, false, false, false, false, true, false, false, false, false] rfl rfl (by kernel_rfl) (fun _ _ _ h => h) (Or.inl ⟨by rfl, ?_⟩) ?_ ?_
        rotate_left
        · intro w'
          go_simp
          with_reducible rfl
        rotate_left
        · simp only [Act.put, List.setIfInBounds_toArray, List.set_cons_zero, List.set_cons_succ, i64_w, i32_w]
          rfl
        refine take_ (i := 0) (N := some 32) (v := ?_) (a' := ?_) #[true, true, false, false, false, false, true, false, false, false, false] rfl rfl (by kernel_rfl) (fun _ _ _ h => h) (Or.inl ⟨by rfl, ?_⟩) hHeld ?_ ?_
        rotate_left
        · rintro w' ⟨s0, s1, s2, s3⟩
          go_simp
          with_reducible rfl
        rotate_left
        · simp only [Act.put, List.setIfInBounds_toArray, List.set_cons_zero, List.set_cons_succ, i64_w, i32_w]
          rfl
        refine take_ (i := 2) (N := some 34) (v := ?_) (a' := ?_) #[true, true, true, false, false, false, true, false, false, false, false] rfl rfl (by kernel_rfl) (fun _ _ _ h => h) (Or.inl ⟨by rfl, ?_⟩) hHeld ?_ ?_
        rotate_left
        · rintro w' ⟨s0, s1, s2, s3⟩
          go_simp
          with_reducible rfl
        rotate_left
        · simp only [Act.put, List.setIfInBounds_toArray, List.set_cons_zero, List.set_cons_succ, i64_w, i32_w]
          rfl
        refine pure_ (i := 3) (N := some 35) (v := ?_) (a' := ?_) #[true, true, true, true, false, false, true, false, false, false, false] rfl rfl (by kernel_rfl) (fun _ _ _ h => h) (Or.inl ⟨by rfl, ?_⟩) ?_ ?_
        rotate_left
        · intro w'
          go_simp
          with_reducible rfl
        rotate_left
        · simp only [Act.put, List.setIfInBounds_toArray, List.set_cons_zero, List.set_cons_succ, i64_w, i32_w]
          rfl
        refine pure_ (i := 4) (N := some 36) (v := ?_) (a' := ?_) #[true, true, true, true, true, false, true, false, false, false, false] rfl rfl (by kernel_rfl) (fun _ _ _ h => h) (Or.inl ⟨by rfl, ?_⟩) ?_ ?_
        rotate_left
        · intro w'
          go_simp
          with_reducible rfl
        rotate_left
        · simp only [Act.put, List.setIfInBounds_toArray, List.set_cons_zero, List.set_cons_succ, i64_w, i32_w]
          rfl
        refine take_ (i := 5) (N := some 37) (v := ?_) (a' := ?_) #[true, true, true, true, true, true, true, false, false, false, false] rfl rfl (by kernel_rfl) (fun _ _ _ h => h) (Or.inl ⟨by rfl, ?_⟩) hHeld ?_ ?_
        rotate_left
        · rintro w' ⟨s0, s1, s2, s3⟩
          go_simp
          with_reducible rfl
        rotate_left
        · simp only [Act.put, List.setIfInBounds_toArray, List.set_cons_zero, List.set_cons_succ, i64_w, i32_w]
          rfl
        refine take_ (i := 7) (N := some 39) (v := ?_) (a' := ?_) #[true, true, true, true, true, true, true, true, false, false, false] rfl rfl (by kernel_rfl) (fun _ _ _ h => h) (Or.inl ⟨by rfl, ?_⟩) hHeld ?_ ?_
        rotate_left
        · rintro w' ⟨s0, s1, s2, s3⟩
          go_simp
          with_reducible rfl
        rotate_left
        · simp only [Act.put, List.setIfInBounds_toArray, List.set_cons_zero, List.set_cons_succ, i64_w, i32_w]
          rfl
        refine pure_ (i := 8) (N := some 40) (v := ?_) (a' := ?_) #[true, true, true, true, true, true, true, true, true, false, false] rfl rfl (by kernel_rfl) (fun _ _ _ h => h) (Or.inl ⟨by rfl, ?_⟩) ?_ ?_
        rotate_left
        · intro w'
          go_simp
          with_reducible rfl
        rotate_left
        · simp only [Act.put, List.setIfInBounds_toArray, List.set_cons_zero, List.set_cons_succ, i64_w, i32_w]
          rfl
        refine pure_ (i := 9) (N := some 41) (v := ?_) (a' := ?_) #[true, true, true, true, true, true, true, true, true, true, false] rfl rfl (by kernel_rfl) (fun _ _ _ h => h) (Or.inl ⟨by rfl, ?_⟩) ?_ ?_
        rotate_left
        · intro w'
          go_simp
          with_reducible rfl
        rotate_left
        · simp only [Act.put, List.setIfInBounds_toArray, List.set_cons_zero, List.set_cons_succ, i64_w, i32_w]
          rfl
        refine last_ (i := 10) (N := none) #[true, true, true, true, true, true, true, true, true, true, true] rfl rfl (by kernel_rfl) (by decide) (fun K hK => ?_)
        refine skip_ (w1 := ?_) (by rfl) rfl ?_ ?_
        rotate_left
        · go_simp
          rfl
        refine hK.out _ _ ?_
        clear hK K
        refine done_ (by kernel_rfl) ?_
        refine only_ ?_
        gi_wp2
        have hne : ∀ {B : Nat} {t : TypeId} {u : Value}, t ≠ 41 → Boxed W B t u → Boxed (W.setCell ⟨g, x.1.1 * 2 + 1, none⟩ (.int .i64 (placeOf o x.1.2))).drew B t u := fun {B t u} ht hb => blk_far (w := W) hb (blk_ne (g' := g) hb hgb ht) _
        have hK : Below w.heap.size W (W.setCell ⟨g, x.1.1 * 2 + 1, none⟩ (.int .i64 (placeOf o x.1.2))).drew := below_drew ((Below.refl _ _).setCell (p := ⟨g, x.1.1 * 2 + 1, none⟩) hg1 _)
        refine ⟨((KeepsOthers.setCell W _ _).trans (KeepsOthers.drew _)).from _, ⟨hK, fun a ha v hv => ?_⟩, ⟨hne (by decide) hbX, hne (by decide) hbO, hne (by decide) hbT, hne (by decide) hbL, ?_⟩, hBW.trans hK⟩
        · simp only [List.mem_cons, List.not_mem_nil, or_false] at ha
          rcases ha with rfl | rfl | rfl
          · rw [(blk_cell (HTR.out.below (hBW.trans hK)).b 0).trans rfl]; rw [(blk_cell htr.b 0).trans rfl] at hv; exact hv
          · rw [(hne (by decide) hbT).cell]; rw [hbT.cell] at hv; exact hv
          · rw [(hne (by decide) hbL).cell]; rw [hbL.cell] at hv; exact hv
        · rw [setAll_snoc, setP]
          exact Kd.R_drew hP
      case done =>
        rintro DD ys W hD rfl ⟨⟨hbX, hbO, hbT, hbL, hR⟩, hBW⟩ hK
        have hOc := hbO.cell
        go_wp2
        refine ⟨by simp, .inl ⟨_, _, rfl, run_takeDeferred hK, ?_⟩⟩
        have hg := grownBy_putObj' W DD (.deferred none)
        refine ⟨_, results_tmp rfl _ _ _, _, rfl, Kd.R_mono (Kd.R_grown (Kd.R_bound hR) hg (fun k hk e => ?_)) (fun _ _ => trivial), hBW.trans (belowK_b (w := w) (Nat.le_refl _) W DD _ _ (by omega) hK rfl rfl)⟩
        obtain ⟨_, _, _, q, _, cells, hk⟩ := hk
        cases e
        rw [hk] at hK
        cases hK
      case stop =>
        rintro DD c pre W _ _ h _
        exact h.elim
end Go.Proofs.Ytonkfcfpfpaceaa.A.P
