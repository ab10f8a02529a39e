/- The law GateOnce's walk. -/
import Derived.Test.YthijcbihdkheoaaG6
namespace Go.Proofs.Ythijcbihdkheoaa.G
open Go.RowKit Go.Proofs.YthijcbihdkheoaaW.PrintWords Go.Proofs.YthijcbihdkheoaaW.PrintLast Go.Proofs.YthijcbihdkheoaaW.PrintMore
set_option linter.unusedSimpArgs false
set_option linter.unusedVariables false

theorem putP_once (l : List Int) (d fr n : Int) (h0 : 0 ≤ fr) (h1 : fr ≤ d) (h2 : d ≤ l.length) (h3 : 0 ≤ n) (h4 : n ≤ l.length - fr) :
    putP (l.take d.toNat) fr ((l.drop fr.toNat).take n.toNat) = (l.take (if d < fr + n then fr + n else d).toNat, (if d < fr + n then fr + n - d else 0), 0) := by
  have l1 : (l.take d.toNat).length = d.toNat := by rw [List.length_take]; omega
  have l2 : ((l.drop fr.toNat).take n.toNat).length = n.toNat := by rw [List.length_take, List.length_drop]; omega
  unfold putP
  rw [if_neg (by omega), l1, l2]
  have e1 : ((l.take d.toNat).drop fr.toNat).take (min n.toNat (d.toNat - fr.toNat)) = (l.drop fr.toNat).take (min n.toNat (d.toNat - fr.toNat)) := by
    rw [List.drop_take, List.take_take]; congr 1; omega
  have e2 : ((l.drop fr.toNat).take n.toNat).take (min n.toNat (d.toNat - fr.toNat)) = (l.drop fr.toNat).take (min n.toNat (d.toNat - fr.toNat)) := by
    rw [List.take_take]; congr 1; omega
  rw [e1, e2, if_pos rfl]
  by_cases h : d < fr + n
  · simp only [if_pos h]
    have e3 : min n.toNat (d.toNat - fr.toNat) = d.toNat - fr.toNat := by omega
    rw [e3, List.drop_take, List.drop_drop, show fr.toNat + (d.toNat - fr.toNat) = d.toNat by omega, show (fr + n).toNat = d.toNat + (n.toNat - (d.toNat - fr.toNat)) by omega, List.take_add]
    simp only [Prod.mk.injEq, and_true, true_and]
    omega
  · simp only [if_neg h]
    have e3 : min n.toNat (d.toNat - fr.toNat) = n.toNat := by omega
    rw [e3, List.drop_eq_nil_of_le (by omega), List.append_nil]
    simp only [Prod.mk.injEq, and_true, true_and]
    omega
theorem rd_of_own {w : World} {B : Nat} {A : Option Addr} {c : Nat} {xs : List Int} (h : w.ownsRow B 3 1 (.slice A xs.length c) xs.length (nums .i64 xs)) : Rd w A xs := by
  obtain ⟨A', c', he, _, hr⟩ := own_rd h
  injection he with he _ _
  subst he
  exact hr
theorem _root_.Go.RowKit.Below.then' {B : Nat} {w w1 w2 : World} (h : Below B w w1) (hb : Below w1.heap.size w1 w2) (hB : B ≤ w1.heap.size := by assumption) : Below B w w2 := below_then h hB hb
set_option maxRecDepth 100000 in
set_option maxHeartbeats 8000000 in
theorem GateOnce_walk (A0 : Option Addr) (c0 : Nat) (l0 : List Int) (A1 : Option Addr) (c1 : Nat) (cuts : List Int) (A2 : Option Addr) (c2 : Nat) (backs : List Int) (w : World) (hr0 : Rd w A0 l0) (hc0 : l0.length ≤ c0) (hrc : Rd w A1 cuts) (hcc : cuts.length ≤ c1) (hrb : Rd w A2 backs) (hcb : backs.length ≤ c2) :
    Calls Try.prog 6 #[.slice A0 l0.length c0, .slice A1 cuts.length c1, .slice A2 backs.length c2] w fun e w' => e = .returned (.bool true) ∧ Below w.heap.size w w' := by
  obtain ⟨i, hi, his⟩ := info3'
  have hlm := hr0.2.1
  have HRC := Aside0.mk hrc
  have HRB := Aside0.mk hrb
  have hcm := hrc.2.1
  have hbm := hrb.2.1
  have hcases : ∃ l : List Int, l.length ≤ 100 ∧ Rd w A0 l ∧ l.length ≤ c0 ∧ ((100 < l0.length ∧ ∀ W : World, (Instr.slice 27 (.slice A0 l0.length c0) none (some (.int .i64 100)) none).run Try.prog W = .ok (.slice A0 l.length c0) W) ∨
      (l0.length ≤ 100 ∧ ∀ W : World, (Instr.slice 27 (.slice A0 l0.length c0) none (some (.int .i64 (l0.length : Int))) none).run Try.prog W = .ok (.slice A0 l.length c0) W)) := by
    by_cases h : 100 < l0.length
    · obtain ⟨cut, rd, le⟩ := print_take_of (P := Try.prog) (Value.int .i64) (0 : Int) 27 3 .i64 Try.underlying27 hi his A0 c0 l0 100 (by omega) (by omega) hc0
      exact ⟨_, by rw [List.length_take]; omega, Rd.of (rd w hr0.ints), le, .inl ⟨h, cut⟩⟩
    · obtain ⟨cut, rd, le⟩ := print_take_of (P := Try.prog) (Value.int .i64) (0 : Int) 27 3 .i64 Try.underlying27 hi his A0 c0 l0 l0.length (by omega) (by omega) hc0
      exact ⟨_, by rw [List.length_take]; omega, Rd.of (rd w hr0.ints), le, .inr ⟨by omega, cut⟩⟩
  obtain ⟨l, h100, hr1, hcl, hcase⟩ := hcases
  replace hr1 := Aside0.mk hr1
  clear hrc hrb hr0 hcc hcb
  rcases hcase with ⟨hlt, hcut⟩ | ⟨hlt, hcut⟩
  all_goals
    go_enter Try.func6, Try.ntmps6
    go_wp2_with fail
    refine (works_any w).mono ?_
    rintro e w1 ⟨rfl, hb1⟩
    go_wp2_with fail
    refine (make_at w.heap.size w1 hb1.size).mono ?_
    rintro e w2 ⟨rfl, hs2, hb2⟩
    have HB2 := Aside0.mk (below_then hb1 hb1.size hb2)
    have HS2 := Aside0.mk hs2
    clear hcut hlt hs2 hb2 hb1
    generalize w1.heap.size = s at *
    clear hlm hc0
    go_wp2
    go_loopg [8, 9] 20 (fun kq v8 v9 w' => ∃ (d j : Int) (v : Value), v8 = .int .i64 d ∧ v9 = .int .i64 j ∧ 0 ≤ d ∧ d ≤ l.length ∧ 0 ≤ j ∧ Aside0 (j = 20 - kq) ∧ Aside0 (SinkAt w' w.heap.size s v (l.take d.toNat)) ∧ Aside0 (Below w.heap.size w w'))
    case atStart => exact ⟨0, 0, _, rfl, rfl, by omega, by omega, by omega, ⟨by simp⟩, ⟨HS2.out⟩, HB2⟩
    case round =>
      clear HB2 HS2
      obtain ⟨d, j, v, rfl, rfl, hd0, hd1, hj0, hjk, HS, HB⟩ := hrel
      by_cases q1 : j < (cuts.length : Int)
      · have q1b : decide (j < (cuts.length : Int)) = true := decide_eq_true q1
        by_cases q2 : j < 20
        · have q2b : decide (j < 20) = true := decide_eq_true q2
          have hBs := HB.out.size
          have HRCr := Aside0.mk (Kd.C_below HRC.out HB.out)
          have HRBr := Aside0.mk (Kd.C_below HRB.out HB.out)
          by_cases q3 : j < (backs.length : Int)
          · have q3b : decide (j < (backs.length : Int)) = true := decide_eq_true q3
            obtain ⟨ad4, e4, hx4⟩ := Kd.at_int HRBr.out j hj0 q3
            cases e4
            go_wp2_with fail
            refine (among_some (rd backs j) (d + 1) wr (by omega) (by omega)).mono ?_
            rintro e w4' ⟨fr, rfl, hf0, hf1', ⟨m4, rfl⟩⟩
            have hf1 : fr ≤ d := by omega
            have hBW := Aside0.mk (pw_below_drewN HB.out m4)
            have hSW := Aside0.mk (HS.out.below (pw_below_drewN (Below.refl _ _) m4))
            clear HB HS HRCr HRBr hx4 hf1' hBs
            generalize wr.drewN m4 = w4 at *
            obtain ⟨A5, cut5, rd5, le5⟩ := print_drop_of (P := Try.prog) (Value.int .i64) (0 : Int) 27 3 .i64 Try.underlying27 hi his A0 c0 l fr hf0 (by omega) hcl
            have HDD := Aside0.mk (fun W h => Rd.of (rd5 W (Rd.ints h)))
            have hdl1 : (l.length : Int) - fr ≤ (l.drop fr.toNat).length := by rw [List.length_drop]; omega
            have hdl2 : (l.drop fr.toNat).length ≤ 100 := by rw [List.length_drop]; omega
            clear rd5
            generalize hdl0 : l.drop fr.toNat = ld at *
            have hdl := Aside0.mk hdl0
            clear hdl0
            go_wp2_with fail
            refine (new_ok w.heap.size fr 200 w4 hBW.out.size hf0 (by decide)).mono ?_
            rintro e w5 ⟨rfl, hg5, hb5⟩
            have hB5 := Aside0.mk (hBW.out.then' hb5 hBW.out.size)
            have HBO5 := Aside0.mk (show Both w5 w.heap.size s w4.heap.size v (.slice none 0 0) (l.take d.toNat) fr 200 [] from ⟨hSW.out.below hb5, hg5, fun k hk => by simp [Value.ownBlock]⟩)
            clear hg5 hb5
            generalize w4.heap.size = g at *
            have HO := Lib.hid (offer_ok w.heap.size g (.slice none 0 0) fr 200 [] A5 (c0 - fr.toNat) ld w5 HBO5.out.gate (by decide) (by decide) (HDD.out w5 (Kd.C_below hr1.out hB5.out)) (by first | (simp; done) | (simp; omega)) (by first | (simp; done) | (simp; omega)))
            go_wp2_with fail
            refine HO.out.mono ?_
            rintro e w6 ⟨rfl, hp6⟩
            obtain ⟨⟨u6, HB6'⟩, hb6⟩ := hp6.both HBO5.out
            have hB6 := Aside0.mk (hB5.out.trans hb6)
            have HBO6 := Aside0.mk HB6'
            clear hp6 HB6' hb6 HO hB5 HBO5
            have HRC6 := Aside0.mk (Kd.C_below HRC.out hB6.out)
            obtain ⟨ad8, e8, hx8⟩ := Kd.at_int HRC6.out j hj0 q1
            cases e8
            go_wp2_with fail
            refine (among_some (rd cuts j) (l.length - fr + 1) w6 (by omega) (by omega)).mono ?_
            rintro e w7' ⟨n, rfl, hn0, hn1, ⟨m7, rfl⟩⟩
            have hB7 := Aside0.mk (pw_below_drewN hB6.out m7)
            have HBO7 := Aside0.mk (HBO6.out.below (pw_below_drewN (Below.refl _ _) m7))
            clear HBO6 hB6 hx8 HRC6
            generalize w6.drewN m7 = w7 at *
            have HP := Aside0.mk (putP_once l d fr n hf0 hf1 hd1 hn0 (by omega))
            have hlt1 : (l.take d.toNat).length ≤ 100 := by rw [List.length_take]; omega
            have HREL := Lib.hid (release_at w.heap.size s g v u6 (l.take d.toNat) fr 200 ([] ++ ld) n (l.take (if d < fr + n then fr + n else d).toNat) (if d < fr + n then fr + n - d else 0) 0 w7 HBO7.out (by decide) hn0 (by rw [List.nil_append]; omega) (by rw [List.nil_append]; omega) (by rw [List.nil_append, ← hdl.out]; exact HP.out))
            go_wp2_with fail
            refine HREL.out.mono ?_
            rintro e w8 ⟨rfl, hb8, hpp⟩
            have hb8' := Aside0.mk (hB7.out.trans hb8)
            have hs8 : ∃ v8, SinkAt w8 w.heap.size s v8 (l.take (if d < fr + n then fr + n else d).toNat) := by
              rcases hpp with ⟨_, v8, u8, hb⟩ | ⟨h, _⟩
              · exact ⟨v8, hb.sink⟩
              · exact absurd rfl h
            obtain ⟨v8, hs8⟩ := hs8
            replace hs8 := Aside0.mk hs8
            clear hpp HREL HBO7 hB7 hb8 HP
            by_cases q5 : d < fr + n
            · have hx : (if d < fr + n then fr + n else d) = fr + n := if_pos q5
              have hy : (if d < fr + n then fr + n - d else 0) = fr + n - d := if_pos q5
              rw [hx] at hs8
              rw [hy]
              clear hx hy
              have q5b : 0 < fr + n - d := by omega
              obtain ⟨cutt, rdt, lett⟩ := print_take_of (P := Try.prog) (Value.int .i64) (0 : Int) 27 3 .i64 Try.underlying27 hi his A0 c0 l (fr + n) (by omega) (by omega) hcl
              have HTD := Aside0.mk (fun W h => Rd.of (rdt W (Rd.ints h)))
              have hctd := lett
              clear lett rdt
              have hlt9 : (l.take (fr + n).toNat).length ≤ 100 := by rw [List.length_take]; omega
              have HALL := Lib.hid (all_at w.heap.size s v8 (l.take (fr + n).toNat) w8.drew (hs8.out.below (pw_below_drewN (Below.refl _ _) 1)) (by omega))
              have hs8d := Aside0.mk (hs8.out.below (pw_below_drewN (Below.refl _ _) 1))
              have hb8d := Aside0.mk (pw_below_drewN hb8'.out 1)
              have hb8t : w.heap.size ≤ w8.drew.heap.size := hb8'.out.size
              generalize hlt : l.take (fr + n).toNat = lt at *
              have HTE := Aside0.mk hlt.symm
              clear hlt
              have hb8s := hb8'.out.size
              go_wp2_with fail
              refine start_ (n := 7) (S := fun w' => True) (ds := []) #[false, false, false, false, false, false, false] (by kernel_rfl) rfl rfl trivial (fun hHeld => ?_)
              refine pure_ (i := 0) (N := some 99) (v := ?_) (a' := ?_) #[true, false, false, false, false, false, false] rfl rfl (by kernel_rfl) (fun _ _ _ h => h) (Or.inl ⟨by rfl, ?_⟩) ?_ ?_
              rotate_left
              · intro w'
                go_simp
                with_reducible rfl
              rotate_left
              · simp only [Act.put, List.setIfInBounds_toArray, List.set_cons_zero, List.set_cons_succ, i64_w, i32_w]
                rfl
              refine pure_ (i := 2) (N := some 101) (v := ?_) (a' := ?_) #[true, false, true, false, false, false, false] rfl rfl (by kernel_rfl) (fun _ _ _ h => h) (Or.inl ⟨by rfl, ?_⟩) ?_ ?_
              rotate_left
              · intro w'
                go_simp
                with_reducible rfl
              rotate_left
              · simp only [Act.put, List.setIfInBounds_toArray, List.set_cons_zero, List.set_cons_succ, i64_w, i32_w]
                rfl
              refine pure_ (i := 3) (N := some 102) (v := ?_) (a' := ?_) #[true, false, true, true, false, false, false] rfl rfl (by kernel_rfl) (fun _ _ _ h => h) (Or.inl ⟨by rfl, ?_⟩) ?_ ?_
              rotate_left
              · intro w'
                go_simp
                with_reducible rfl
              rotate_left
              · simp only [Act.put, List.setIfInBounds_toArray, List.set_cons_zero, List.set_cons_succ, i64_w, i32_w]
                rfl
              refine pure_ (i := 4) (N := some 103) (v := ?_) (a' := ?_) #[true, false, true, true, true, false, false] rfl rfl (by kernel_rfl) (fun _ _ _ h => h) (Or.inl ⟨by rfl, ?_⟩) ?_ ?_
              rotate_left
              · intro w'
                go_simp
                with_reducible rfl
              rotate_left
              · simp only [Act.put, List.setIfInBounds_toArray, List.set_cons_zero, List.set_cons_succ, i64_w, i32_w]
                rfl
              refine one_ (i := 1) (N := some 100) #[true, true, true, true, true, false, false] rfl rfl (by kernel_rfl) (by decide) (fun K hK => ?_)
              refine goes_ Try.func12 (by kernel_rfl) rfl #[.pointer (some ⟨s, 0, none⟩)] (by rfl) rfl rfl (by simp only [List.map_toArray, List.map_cons, List.map_nil]; rfl) ?_
              with_reducible refine (HALL.out).mono ?_
              rintro e wa ⟨u9, A9, c9, rfl, rfl, hl9, ho9, hb9⟩
              refine ⟨_, rfl, ?_⟩
              have HR9 := Aside0.mk (rd_of_own ho9)
              have HR1a := Aside0.mk (Kd.C_below hr1.out (hb8d.out.then' hb9 hb8t))
              refine hK.out _ _ trivial (fun hHeld => ?_)
              clear hK K
              refine norm_ (a' := ?_) ?_ ?_
              rotate_left
              · show Act.put _ (some 100) _ = _
                simp only [Act.put, List.setIfInBounds_toArray, List.set_cons_zero, List.set_cons_succ, i64_w, i32_w]
                rfl
              refine one_ (i := 5) (N := some 104) #[true, true, true, true, true, true, false] rfl rfl (by kernel_rfl) (by decide) (fun K hK => ?_)
              refine goes_ Try.func16 (by kernel_rfl) rfl #[.slice A9 lt.length c9, .slice A0 lt.length c0] (by rfl) rfl rfl (by simp only [List.map_toArray, List.map_cons, List.map_nil]; rfl) ?_
              with_reducible refine (same_any A9 c9 lt A0 c0 lt wa HR9.out hl9 (HTD.out wa HR1a.out) hctd).mono ?_
              rintro e wb ⟨rfl, HD9⟩
              refine ⟨_, rfl, ?_⟩
              refine hK.out _ _ trivial (fun hHeld => ?_)
              clear hK K
              refine norm_ (a' := ?_) ?_ ?_
              rotate_left
              · show Act.put _ (some 104) _ = _
                simp only [Act.put, List.setIfInBounds_toArray, List.set_cons_zero, List.set_cons_succ, i64_w, i32_w]
                rfl
              refine pure_ (i := 6) (N := some 105) (v := ?_) (a' := ?_) #[true, true, true, true, true, true, true] rfl rfl (by kernel_rfl) (fun _ _ _ h => h) (Or.inl ⟨by rfl, ?_⟩) ?_ ?_
              rotate_left
              · intro w'
                go_simp
                with_reducible rfl
              rotate_left
              · simp only [Act.put, List.setIfInBounds_toArray, List.set_cons_zero, List.set_cons_succ, i64_w, i32_w]
                rfl
              refine done_ (by kernel_rfl) ?_

              have HBf := Aside0.mk (hb8d.out.then' hb9 hb8t)
              have HSf := Aside0.mk (hs8d.out.below hb9)
              obtain ⟨m9, rfl⟩ := HD9
              have HBf' := Aside0.mk (pw_below_drewN HBf.out m9)
              have HSf' := Aside0.mk (HSf.out.below (pw_below_drewN (Below.refl _ _) m9))
              go_wp2
              go_roundg (gk - 1)
              case measure => have := hjk.out; omega
              case rel => exact ⟨fr + n, j + 1, v8, by first | rfl | simp, by first | rfl | simp, by omega, by omega, by omega, ⟨by have := hjk.out; omega⟩, ⟨HTE.out ▸ HSf'.out⟩, HBf'⟩
            · have hx : (if d < fr + n then fr + n else d) = d := if_neg q5
              have hy : (if d < fr + n then fr + n - d else 0) = 0 := if_neg q5
              rw [hx] at hs8
              rw [hy]
              clear hx hy
              have q5b : ¬ 0 < fr + n - d := by omega
              obtain ⟨cutt, rdt, lett⟩ := print_take_of (P := Try.prog) (Value.int .i64) (0 : Int) 27 3 .i64 Try.underlying27 hi his A0 c0 l (d) (by omega) (by omega) hcl
              have HTD := Aside0.mk (fun W h => Rd.of (rdt W (Rd.ints h)))
              have hctd := lett
              clear lett rdt
              have hlt9 : (l.take (d).toNat).length ≤ 100 := by rw [List.length_take]; omega
              have HALL := Lib.hid (all_at w.heap.size s v8 (l.take (d).toNat) w8.drew (hs8.out.below (pw_below_drewN (Below.refl _ _) 1)) (by omega))
              have hs8d := Aside0.mk (hs8.out.below (pw_below_drewN (Below.refl _ _) 1))
              have hb8d := Aside0.mk (pw_below_drewN hb8'.out 1)
              have hb8t : w.heap.size ≤ w8.drew.heap.size := hb8'.out.size
              generalize hlt : l.take (d).toNat = lt at *
              have HTE := Aside0.mk hlt.symm
              clear hlt
              have hb8s := hb8'.out.size
              go_wp2_with fail
              refine start_ (n := 7) (S := fun w' => True) (ds := []) #[false, false, false, false, false, false, false] (by kernel_rfl) rfl rfl trivial (fun hHeld => ?_)
              refine pure_ (i := 0) (N := some 99) (v := ?_) (a' := ?_) #[true, false, false, false, false, false, false] rfl rfl (by kernel_rfl) (fun _ _ _ h => h) (Or.inl ⟨by rfl, ?_⟩) ?_ ?_
              rotate_left
              · intro w'
                go_simp
                with_reducible rfl
              rotate_left
              · simp only [Act.put, List.setIfInBounds_toArray, List.set_cons_zero, List.set_cons_succ, i64_w, i32_w]
                rfl
              refine pure_ (i := 2) (N := some 101) (v := ?_) (a' := ?_) #[true, false, true, false, false, false, false] rfl rfl (by kernel_rfl) (fun _ _ _ h => h) (Or.inl ⟨by rfl, ?_⟩) ?_ ?_
              rotate_left
              · intro w'
                go_simp
                with_reducible rfl
              rotate_left
              · simp only [Act.put, List.setIfInBounds_toArray, List.set_cons_zero, List.set_cons_succ, i64_w, i32_w]
                rfl
              refine pure_ (i := 3) (N := some 102) (v := ?_) (a' := ?_) #[true, false, true, true, false, false, false] rfl rfl (by kernel_rfl) (fun _ _ _ h => h) (Or.inl ⟨by rfl, ?_⟩) ?_ ?_
              rotate_left
              · intro w'
                go_simp
                with_reducible rfl
              rotate_left
              · simp only [Act.put, List.setIfInBounds_toArray, List.set_cons_zero, List.set_cons_succ, i64_w, i32_w]
                rfl
              refine pure_ (i := 4) (N := some 103) (v := ?_) (a' := ?_) #[true, false, true, true, true, false, false] rfl rfl (by kernel_rfl) (fun _ _ _ h => h) (Or.inl ⟨by rfl, ?_⟩) ?_ ?_
              rotate_left
              · intro w'
                go_simp
                with_reducible rfl
              rotate_left
              · simp only [Act.put, List.setIfInBounds_toArray, List.set_cons_zero, List.set_cons_succ, i64_w, i32_w]
                rfl
              refine one_ (i := 1) (N := some 100) #[true, true, true, true, true, false, false] rfl rfl (by kernel_rfl) (by decide) (fun K hK => ?_)
              refine goes_ Try.func12 (by kernel_rfl) rfl #[.pointer (some ⟨s, 0, none⟩)] (by rfl) rfl rfl (by simp only [List.map_toArray, List.map_cons, List.map_nil]; rfl) ?_
              with_reducible refine (HALL.out).mono ?_
              rintro e wa ⟨u9, A9, c9, rfl, rfl, hl9, ho9, hb9⟩
              refine ⟨_, rfl, ?_⟩
              have HR9 := Aside0.mk (rd_of_own ho9)
              have HR1a := Aside0.mk (Kd.C_below hr1.out (hb8d.out.then' hb9 hb8t))
              refine hK.out _ _ trivial (fun hHeld => ?_)
              clear hK K
              refine norm_ (a' := ?_) ?_ ?_
              rotate_left
              · show Act.put _ (some 100) _ = _
                simp only [Act.put, List.setIfInBounds_toArray, List.set_cons_zero, List.set_cons_succ, i64_w, i32_w]
                rfl
              refine one_ (i := 5) (N := some 104) #[true, true, true, true, true, true, false] rfl rfl (by kernel_rfl) (by decide) (fun K hK => ?_)
              refine goes_ Try.func16 (by kernel_rfl) rfl #[.slice A9 lt.length c9, .slice A0 lt.length c0] (by rfl) rfl rfl (by simp only [List.map_toArray, List.map_cons, List.map_nil]; rfl) ?_
              with_reducible refine (same_any A9 c9 lt A0 c0 lt wa HR9.out hl9 (HTD.out wa HR1a.out) hctd).mono ?_
              rintro e wb ⟨rfl, HD9⟩
              refine ⟨_, rfl, ?_⟩
              refine hK.out _ _ trivial (fun hHeld => ?_)
              clear hK K
              refine norm_ (a' := ?_) ?_ ?_
              rotate_left
              · show Act.put _ (some 104) _ = _
                simp only [Act.put, List.setIfInBounds_toArray, List.set_cons_zero, List.set_cons_succ, i64_w, i32_w]
                rfl
              refine pure_ (i := 6) (N := some 105) (v := ?_) (a' := ?_) #[true, true, true, true, true, true, true] rfl rfl (by kernel_rfl) (fun _ _ _ h => h) (Or.inl ⟨by rfl, ?_⟩) ?_ ?_
              rotate_left
              · intro w'
                go_simp
                with_reducible rfl
              rotate_left
              · simp only [Act.put, List.setIfInBounds_toArray, List.set_cons_zero, List.set_cons_succ, i64_w, i32_w]
                rfl
              refine done_ (by kernel_rfl) ?_

              have HBf := Aside0.mk (hb8d.out.then' hb9 hb8t)
              have HSf := Aside0.mk (hs8d.out.below hb9)
              obtain ⟨m9, rfl⟩ := HD9
              have HBf' := Aside0.mk (pw_below_drewN HBf.out m9)
              have HSf' := Aside0.mk (HSf.out.below (pw_below_drewN (Below.refl _ _) m9))
              go_wp2
              go_roundg (gk - 1)
              case measure => have := hjk.out; omega
              case rel => exact ⟨d, j + 1, v8, by first | rfl | simp, by first | rfl | simp, by omega, by omega, by omega, ⟨by have := hjk.out; omega⟩, ⟨HTE.out ▸ HSf'.out⟩, HBf'⟩
          · have q3b : decide (j < (backs.length : Int)) = false := decide_eq_false q3
            have hf0 : 0 ≤ d := by omega
            have hf1 : d ≤ d := by omega
            have hBW := Aside0.mk HB.out
            have hSW := Aside0.mk HS.out
            clear HB HS HRCr HRBr
            obtain ⟨A5, cut5, rd5, le5⟩ := print_drop_of (P := Try.prog) (Value.int .i64) (0 : Int) 27 3 .i64 Try.underlying27 hi his A0 c0 l d hf0 (by omega) hcl
            have HDD := Aside0.mk (fun W h => Rd.of (rd5 W (Rd.ints h)))
            have hdl1 : (l.length : Int) - d ≤ (l.drop d.toNat).length := by rw [List.length_drop]; omega
            have hdl2 : (l.drop d.toNat).length ≤ 100 := by rw [List.length_drop]; omega
            clear rd5
            generalize hdl0 : l.drop d.toNat = ld at *
            have hdl := Aside0.mk hdl0
            clear hdl0
            go_wp2_with fail
            refine (new_ok w.heap.size d 200 wr hBW.out.size hf0 (by decide)).mono ?_
            rintro e w5 ⟨rfl, hg5, hb5⟩
            have hB5 := Aside0.mk (hBW.out.then' hb5 hBW.out.size)
            have HBO5 := Aside0.mk (show Both w5 w.heap.size s wr.heap.size v (.slice none 0 0) (l.take d.toNat) d 200 [] from ⟨hSW.out.below hb5, hg5, fun k hk => by simp [Value.ownBlock]⟩)
            clear hg5 hb5
            generalize wr.heap.size = g at *
            have HO := Lib.hid (offer_ok w.heap.size g (.slice none 0 0) d 200 [] A5 (c0 - d.toNat) ld w5 HBO5.out.gate (by decide) (by decide) (HDD.out w5 (Kd.C_below hr1.out hB5.out)) (by first | (simp; done) | (simp; omega)) (by first | (simp; done) | (simp; omega)))
            go_wp2_with fail
            refine HO.out.mono ?_
            rintro e w6 ⟨rfl, hp6⟩
            obtain ⟨⟨u6, HB6'⟩, hb6⟩ := hp6.both HBO5.out
            have hB6 := Aside0.mk (hB5.out.trans hb6)
            have HBO6 := Aside0.mk HB6'
            clear hp6 HB6' hb6 HO hB5 HBO5
            have HRC6 := Aside0.mk (Kd.C_below HRC.out hB6.out)
            obtain ⟨ad8, e8, hx8⟩ := Kd.at_int HRC6.out j hj0 q1
            cases e8
            go_wp2_with fail
            refine (among_some (rd cuts j) (l.length - d + 1) w6 (by omega) (by omega)).mono ?_
            rintro e w7' ⟨n, rfl, hn0, hn1, ⟨m7, rfl⟩⟩
            have hB7 := Aside0.mk (pw_below_drewN hB6.out m7)
            have HBO7 := Aside0.mk (HBO6.out.below (pw_below_drewN (Below.refl _ _) m7))
            clear HBO6 hB6 hx8 HRC6
            generalize w6.drewN m7 = w7 at *
            have HP := Aside0.mk (putP_once l d d n hf0 hf1 hd1 hn0 (by omega))
            have hlt1 : (l.take d.toNat).length ≤ 100 := by rw [List.length_take]; omega
            have HREL := Lib.hid (release_at w.heap.size s g v u6 (l.take d.toNat) d 200 ([] ++ ld) n (l.take (if d < d + n then d + n else d).toNat) (if d < d + n then d + n - d else 0) 0 w7 HBO7.out (by decide) hn0 (by rw [List.nil_append]; omega) (by rw [List.nil_append]; omega) (by rw [List.nil_append, ← hdl.out]; exact HP.out))
            go_wp2_with fail
            refine HREL.out.mono ?_
            rintro e w8 ⟨rfl, hb8, hpp⟩
            have hb8' := Aside0.mk (hB7.out.trans hb8)
            have hs8 : ∃ v8, SinkAt w8 w.heap.size s v8 (l.take (if d < d + n then d + n else d).toNat) := by
              rcases hpp with ⟨_, v8, u8, hb⟩ | ⟨h, _⟩
              · exact ⟨v8, hb.sink⟩
              · exact absurd rfl h
            obtain ⟨v8, hs8⟩ := hs8
            replace hs8 := Aside0.mk hs8
            clear hpp HREL HBO7 hB7 hb8 HP
            by_cases q5 : d < d + n
            · have hx : (if d < d + n then d + n else d) = d + n := if_pos q5
              have hy : (if d < d + n then d + n - d else 0) = d + n - d := if_pos q5
              rw [hx] at hs8
              rw [hy]
              clear hx hy
              have q5b : 0 < d + n - d := by omega
              obtain ⟨cutt, rdt, lett⟩ := print_take_of (P := Try.prog) (Value.int .i64) (0 : Int) 27 3 .i64 Try.underlying27 hi his A0 c0 l (d + n) (by omega) (by omega) hcl
              have HTD := Aside0.mk (fun W h => Rd.of (rdt W (Rd.ints h)))
              have hctd := lett
              clear lett rdt
              have hlt9 : (l.take (d + n).toNat).length ≤ 100 := by rw [List.length_take]; omega
              have HALL := Lib.hid (all_at w.heap.size s v8 (l.take (d + n).toNat) w8.drew (hs8.out.below (pw_below_drewN (Below.refl _ _) 1)) (by omega))
              have hs8d := Aside0.mk (hs8.out.below (pw_below_drewN (Below.refl _ _) 1))
              have hb8d := Aside0.mk (pw_below_drewN hb8'.out 1)
              have hb8t : w.heap.size ≤ w8.drew.heap.size := hb8'.out.size
              generalize hlt : l.take (d + n).toNat = lt at *
              have HTE := Aside0.mk hlt.symm
              clear hlt
              have hb8s := hb8'.out.size
              go_wp2_with fail
              refine start_ (n := 7) (S := fun w' => True) (ds := []) #[false, false, false, false, false, false, false] (by kernel_rfl) rfl rfl trivial (fun hHeld => ?_)
              refine pure_ (i := 0) (N := some 99) (v := ?_) (a' := ?_) #[true, false, false, false, false, false, false] rfl rfl (by kernel_rfl) (fun _ _ _ h => h) (Or.inl ⟨by rfl, ?_⟩) ?_ ?_
              rotate_left
              · intro w'
                go_simp
                with_reducible rfl
              rotate_left
              · simp only [Act.put, List.setIfInBounds_toArray, List.set_cons_zero, List.set_cons_succ, i64_w, i32_w]
                rfl
              refine pure_ (i := 2) (N := some 101) (v := ?_) (a' := ?_) #[true, false, true, false, false, false, false] rfl rfl (by kernel_rfl) (fun _ _ _ h => h) (Or.inl ⟨by rfl, ?_⟩) ?_ ?_
              rotate_left
              · intro w'
                go_simp
                with_reducible rfl
              rotate_left
              · simp only [Act.put, List.setIfInBounds_toArray, List.set_cons_zero, List.set_cons_succ, i64_w, i32_w]
                rfl
              refine pure_ (i := 3) (N := some 102) (v := ?_) (a' := ?_) #[true, false, true, true, false, false, false] rfl rfl (by kernel_rfl) (fun _ _ _ h => h) (Or.inl ⟨by rfl, ?_⟩) ?_ ?_
              rotate_left
              · intro w'
                go_simp
                with_reducible rfl
              rotate_left
              · simp only [Act.put, List.setIfInBounds_toArray, List.set_cons_zero, List.set_cons_succ, i64_w, i32_w]
                rfl
              refine pure_ (i := 4) (N := some 103) (v := ?_) (a' := ?_) #[true, false, true, true, true, false, false] rfl rfl (by kernel_rfl) (fun _ _ _ h => h) (Or.inl ⟨by rfl, ?_⟩) ?_ ?_
              rotate_left
              · intro w'
                go_simp
                with_reducible rfl
              rotate_left
              · simp only [Act.put, List.setIfInBounds_toArray, List.set_cons_zero, List.set_cons_succ, i64_w, i32_w]
                rfl
              refine one_ (i := 1) (N := some 100) #[true, true, true, true, true, false, false] rfl rfl (by kernel_rfl) (by decide) (fun K hK => ?_)
              refine goes_ Try.func12 (by kernel_rfl) rfl #[.pointer (some ⟨s, 0, none⟩)] (by rfl) rfl rfl (by simp only [List.map_toArray, List.map_cons, List.map_nil]; rfl) ?_
              with_reducible refine (HALL.out).mono ?_
              rintro e wa ⟨u9, A9, c9, rfl, rfl, hl9, ho9, hb9⟩
              refine ⟨_, rfl, ?_⟩
              have HR9 := Aside0.mk (rd_of_own ho9)
              have HR1a := Aside0.mk (Kd.C_below hr1.out (hb8d.out.then' hb9 hb8t))
              refine hK.out _ _ trivial (fun hHeld => ?_)
              clear hK K
              refine norm_ (a' := ?_) ?_ ?_
              rotate_left
              · show Act.put _ (some 100) _ = _
                simp only [Act.put, List.setIfInBounds_toArray, List.set_cons_zero, List.set_cons_succ, i64_w, i32_w]
                rfl
              refine one_ (i := 5) (N := some 104) #[true, true, true, true, true, true, false] rfl rfl (by kernel_rfl) (by decide) (fun K hK => ?_)
              refine goes_ Try.func16 (by kernel_rfl) rfl #[.slice A9 lt.length c9, .slice A0 lt.length c0] (by rfl) rfl rfl (by simp only [List.map_toArray, List.map_cons, List.map_nil]; rfl) ?_
              with_reducible refine (same_any A9 c9 lt A0 c0 lt wa HR9.out hl9 (HTD.out wa HR1a.out) hctd).mono ?_
              rintro e wb ⟨rfl, HD9⟩
              refine ⟨_, rfl, ?_⟩
              refine hK.out _ _ trivial (fun hHeld => ?_)
              clear hK K
              refine norm_ (a' := ?_) ?_ ?_
              rotate_left
              · show Act.put _ (some 104) _ = _
                simp only [Act.put, List.setIfInBounds_toArray, List.set_cons_zero, List.set_cons_succ, i64_w, i32_w]
                rfl
              refine pure_ (i := 6) (N := some 105) (v := ?_) (a' := ?_) #[true, true, true, true, true, true, true] rfl rfl (by kernel_rfl) (fun _ _ _ h => h) (Or.inl ⟨by rfl, ?_⟩) ?_ ?_
              rotate_left
              · intro w'
                go_simp
                with_reducible rfl
              rotate_left
              · simp only [Act.put, List.setIfInBounds_toArray, List.set_cons_zero, List.set_cons_succ, i64_w, i32_w]
                rfl
              refine done_ (by kernel_rfl) ?_

              have HBf := Aside0.mk (hb8d.out.then' hb9 hb8t)
              have HSf := Aside0.mk (hs8d.out.below hb9)
              obtain ⟨m9, rfl⟩ := HD9
              have HBf' := Aside0.mk (pw_below_drewN HBf.out m9)
              have HSf' := Aside0.mk (HSf.out.below (pw_below_drewN (Below.refl _ _) m9))
              go_wp2
              go_roundg (gk - 1)
              case measure => have := hjk.out; omega
              case rel => exact ⟨d + n, j + 1, v8, by first | rfl | simp, by first | rfl | simp, by omega, by omega, by omega, ⟨by have := hjk.out; omega⟩, ⟨HTE.out ▸ HSf'.out⟩, HBf'⟩
            · have hx : (if d < d + n then d + n else d) = d := if_neg q5
              have hy : (if d < d + n then d + n - d else 0) = 0 := if_neg q5
              rw [hx] at hs8
              rw [hy]
              clear hx hy
              have q5b : ¬ 0 < d + n - d := by omega
              obtain ⟨cutt, rdt, lett⟩ := print_take_of (P := Try.prog) (Value.int .i64) (0 : Int) 27 3 .i64 Try.underlying27 hi his A0 c0 l (d) (by omega) (by omega) hcl
              have HTD := Aside0.mk (fun W h => Rd.of (rdt W (Rd.ints h)))
              have hctd := lett
              clear lett rdt
              have hlt9 : (l.take (d).toNat).length ≤ 100 := by rw [List.length_take]; omega
              have HALL := Lib.hid (all_at w.heap.size s v8 (l.take (d).toNat) w8.drew (hs8.out.below (pw_below_drewN (Below.refl _ _) 1)) (by omega))
              have hs8d := Aside0.mk (hs8.out.below (pw_below_drewN (Below.refl _ _) 1))
              have hb8d := Aside0.mk (pw_below_drewN hb8'.out 1)
              have hb8t : w.heap.size ≤ w8.drew.heap.size := hb8'.out.size
              generalize hlt : l.take (d).toNat = lt at *
              have HTE := Aside0.mk hlt.symm
              clear hlt
              have hb8s := hb8'.out.size
              go_wp2_with fail
              refine start_ (n := 7) (S := fun w' => True) (ds := []) #[false, false, false, false, false, false, false] (by kernel_rfl) rfl rfl trivial (fun hHeld => ?_)
              refine pure_ (i := 0) (N := some 99) (v := ?_) (a' := ?_) #[true, false, false, false, false, false, false] rfl rfl (by kernel_rfl) (fun _ _ _ h => h) (Or.inl ⟨by rfl, ?_⟩) ?_ ?_
              rotate_left
              · intro w'
                go_simp
                with_reducible rfl
              rotate_left
              · simp only [Act.put, List.setIfInBounds_toArray, List.set_cons_zero, List.set_cons_succ, i64_w, i32_w]
                rfl
              refine pure_ (i := 2) (N := some 101) (v := ?_) (a' := ?_) #[true, false, true, false, false, false, false] rfl rfl (by kernel_rfl) (fun _ _ _ h => h) (Or.inl ⟨by rfl, ?_⟩) ?_ ?_
              rotate_left
              · intro w'
                go_simp
                with_reducible rfl
              rotate_left
              · simp only [Act.put, List.setIfInBounds_toArray, List.set_cons_zero, List.set_cons_succ, i64_w, i32_w]
                rfl
              refine pure_ (i := 3) (N := some 102) (v := ?_) (a' := ?_) #[true, false, true, true, false, false, false] rfl rfl (by kernel_rfl) (fun _ _ _ h => h) (Or.inl ⟨by rfl, ?_⟩) ?_ ?_
              rotate_left
              · intro w'
                go_simp
                with_reducible rfl
              rotate_left
              · simp only [Act.put, List.setIfInBounds_toArray, List.set_cons_zero, List.set_cons_succ, i64_w, i32_w]
                rfl
              refine pure_ (i := 4) (N := some 103) (v := ?_) (a' := ?_) #[true, false, true, true, true, false, false] rfl rfl (by kernel_rfl) (fun _ _ _ h => h) (Or.inl ⟨by rfl, ?_⟩) ?_ ?_
              rotate_left
              · intro w'
                go_simp
                with_reducible rfl
              rotate_left
              · simp only [Act.put, List.setIfInBounds_toArray, List.set_cons_zero, List.set_cons_succ, i64_w, i32_w]
                rfl
              refine one_ (i := 1) (N := some 100) #[true, true, true, true, true, false, false] rfl rfl (by kernel_rfl) (by decide) (fun K hK => ?_)
              refine goes_ Try.func12 (by kernel_rfl) rfl #[.pointer (some ⟨s, 0, none⟩)] (by rfl) rfl rfl (by simp only [List.map_toArray, List.map_cons, List.map_nil]; rfl) ?_
              with_reducible refine (HALL.out).mono ?_
              rintro e wa ⟨u9, A9, c9, rfl, rfl, hl9, ho9, hb9⟩
              refine ⟨_, rfl, ?_⟩
              have HR9 := Aside0.mk (rd_of_own ho9)
              have HR1a := Aside0.mk (Kd.C_below hr1.out (hb8d.out.then' hb9 hb8t))
              refine hK.out _ _ trivial (fun hHeld => ?_)
              clear hK K
              refine norm_ (a' := ?_) ?_ ?_
              rotate_left
              · show Act.put _ (some 100) _ = _
                simp only [Act.put, List.setIfInBounds_toArray, List.set_cons_zero, List.set_cons_succ, i64_w, i32_w]
                rfl
              refine one_ (i := 5) (N := some 104) #[true, true, true, true, true, true, false] rfl rfl (by kernel_rfl) (by decide) (fun K hK => ?_)
              refine goes_ Try.func16 (by kernel_rfl) rfl #[.slice A9 lt.length c9, .slice A0 lt.length c0] (by rfl) rfl rfl (by simp only [List.map_toArray, List.map_cons, List.map_nil]; rfl) ?_
              with_reducible refine (same_any A9 c9 lt A0 c0 lt wa HR9.out hl9 (HTD.out wa HR1a.out) hctd).mono ?_
              rintro e wb ⟨rfl, HD9⟩
              refine ⟨_, rfl, ?_⟩
              refine hK.out _ _ trivial (fun hHeld => ?_)
              clear hK K
              refine norm_ (a' := ?_) ?_ ?_
              rotate_left
              · show Act.put _ (some 104) _ = _
                simp only [Act.put, List.setIfInBounds_toArray, List.set_cons_zero, List.set_cons_succ, i64_w, i32_w]
                rfl
              refine pure_ (i := 6) (N := some 105) (v := ?_) (a' := ?_) #[true, true, true, true, true, true, true] rfl rfl (by kernel_rfl) (fun _ _ _ h => h) (Or.inl ⟨by rfl, ?_⟩) ?_ ?_
              rotate_left
              · intro w'
                go_simp
                with_reducible rfl
              rotate_left
              · simp only [Act.put, List.setIfInBounds_toArray, List.set_cons_zero, List.set_cons_succ, i64_w, i32_w]
                rfl
              refine done_ (by kernel_rfl) ?_

              have HBf := Aside0.mk (hb8d.out.then' hb9 hb8t)
              have HSf := Aside0.mk (hs8d.out.below hb9)
              obtain ⟨m9, rfl⟩ := HD9
              have HBf' := Aside0.mk (pw_below_drewN HBf.out m9)
              have HSf' := Aside0.mk (HSf.out.below (pw_below_drewN (Below.refl _ _) m9))
              go_wp2
              go_roundg (gk - 1)
              case measure => have := hjk.out; omega
              case rel => exact ⟨d, j + 1, v8, by first | rfl | simp, by first | rfl | simp, by omega, by omega, by omega, ⟨by have := hjk.out; omega⟩, ⟨HTE.out ▸ HSf'.out⟩, HBf'⟩
        · have q2b : decide (j < 20) = false := decide_eq_false q2
          go_wp2
          go_ret
          exact ⟨rfl, HB.out⟩
      · have q1b : decide (j < (cuts.length : Int)) = false := decide_eq_false q1
        go_wp2
        go_ret
        exact ⟨rfl, HB.out⟩
end Go.Proofs.Ythijcbihdkheoaa.G
