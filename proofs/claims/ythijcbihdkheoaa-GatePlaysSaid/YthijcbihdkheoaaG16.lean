/- The law GatePlays's walk. -/
import Derived.Test.YthijcbihdkheoaaG15
import Derived.Deep.CutBlock
namespace Go.Proofs.Ythijcbihdkheoaa.G
open Go.RowKit Go.Proofs.YthijcbihdkheoaaW.PrintWords Go.Proofs.YthijcbihdkheoaaW.PrintLast Go.Proofs.YthijcbihdkheoaaW.PrintMore
set_option linter.unusedSimpArgs false
set_option linter.unusedVariables false
open PGatePlays in
set_option maxRecDepth 100000 in
set_option maxHeartbeats 8000000 in
theorem GatePlays_walk (next limit : Int) (A0 : Option Addr) (c0 : Nat) (l : List S34) (w : World) (hr0 : Kd.C k34 w A0 l.length l) (hc0 : l.length ≤ c0) (hlim : limit ≤ 9223372036854775807) :
    Calls Try.prog 8 #[.int .i64 next, .int .i64 limit, .slice A0 l.length c0] w fun e w' => e = .returned (.bool true) ∧ Below w.heap.size w w' := by
  have HR0 := Aside0.mk hr0
  clear hr0
  go_enter Try.func8, Try.ntmps8
  go_wp2_with fail
  refine (few_any A0 c0 l w HR0.out hc0).mono ?_
  rintro e w2 ⟨A1, c1, acts, rfl, hc1, h60, h200, hC, hb2⟩
  have HB2 := Aside0.mk hb2
  have HC := Aside0.mk hC
  have H200 := Aside0.mk h200
  clear hC hb2 h200 HR0 hc0
  go_wp2_with fail
  refine (make_at w2.heap.size w2 (Nat.le_refl _)).mono ?_
  rintro e w3 ⟨rfl, hs3, hb3⟩
  have HS3 := Aside0.mk hs3
  have HB3 := Aside0.mk hb3
  have hs3s := hb3.size
  clear hs3 hb3
  by_cases hbad0 : next < 0 ∨ 0 ≤ next ∧ limit < 1
  · have hbad := Aside0.mk hbad0
    clear hbad0
    go_wp2_with fail
    refine (new_no next limit w3 (hbad.out.imp id (fun h => ⟨by omega, h.2⟩))).mono ?_
    rintro e w4 ⟨rfl, rfl⟩
    rcases hbad.out with h | ⟨h, h'⟩
    · have d1 : decide (next < 0) = true := decide_eq_true h
      clear h hbad
      go_wp2_with fail
      refine (works_any w3).mono ?_
      rintro e w5 ⟨rfl, hb5⟩
      go_wp2
      go_ret
      exact ⟨by simp, (HB2.out.then' (HB3.out) HB2.out.size).then' hb5 (by have := HB2.out.size; omega)⟩
    · have d1 : decide (next < 0) = false := decide_eq_false (by omega)
      have d2 : decide (limit < 1) = true := decide_eq_true h'
      clear h h' hbad
      go_wp2_with fail
      refine (works_any w3).mono ?_
      rintro e w5 ⟨rfl, hb5⟩
      go_wp2
      go_ret
      exact ⟨by simp, (HB2.out.then' (HB3.out) HB2.out.size).then' hb5 (by have := HB2.out.size; omega)⟩
  · have hn0 : 0 ≤ next := by omega
    have hl1 : 1 ≤ limit := by omega
    have d1 : decide (next < 0) = false := decide_eq_false (by omega)
    have d2 : decide (limit < 1) = false := decide_eq_false (by omega)
    clear hbad0
    go_wp2_with fail
    refine (new_ok w2.heap.size next limit w3 hs3s hn0 hl1).mono ?_
    rintro e w4 ⟨rfl, hg4, hb4⟩
    have HBO := Aside0.mk (show Both w4 w2.heap.size w2.heap.size w3.heap.size (.slice none 0 0) (.slice none 0 0) [] next limit [] from ⟨HS3.out.below hb4, hg4, fun k hk => by simp [Value.ownBlock] at hk⟩)
    have HB4 := Aside0.mk (HB3.out.then' hb4 hs3s)
    clear hg4 hb4 HS3 HB3 d1 d2
    obtain ⟨s, hs⟩ : ∃ s, Aside0 (s = w2.heap.size) := ⟨_, ⟨rfl⟩⟩
    obtain ⟨g, hg⟩ : ∃ g, Aside0 (g = w3.heap.size) := ⟨_, ⟨rfl⟩⟩
    have HBO' : Aside0 (Both w4 w2.heap.size s g (.slice none 0 0) (.slice none 0 0) [] next limit []) := ⟨by rw [hs.out, hg.out]; exact HBO.out⟩
    clear HBO
    rw [← hs.out, ← hg.out]
    go_wp2
    go_loopg [0, 10, 11, 12] 60 (fun kq v0 v10 v11 v12 w' => ∃ (nx j : Int) (v u : Value) (xs ws : List Int) (Aa : Option Addr) (ca : Nat) (At : Option Addr) (ct : Nat), v0 = .int .i64 nx ∧ v10 = .slice Aa xs.length ca ∧ v11 = .slice At ws.length ct ∧ v12 = .int .i64 j ∧ 0 ≤ j ∧ Aside0 (j = 60 - kq) ∧ (xs.length : Int) + ws.length ≤ 200 * j ∧ Aside0 (St w2 w' s g v u (.slice Aa xs.length ca) (.slice At ws.length ct) xs nx limit ws xs ws))
    case atStart =>
      have ha : ((w4.alloc (.cells #[] 3)).alloc (.cells #[] 3)).ownsRow w2.heap.size 3 1 (.slice (some ⟨w4.heap.size, 0, none⟩) 0 0) 0 (nums .i64 []) := pw_own_below (own_lit w4 w2.heap.size 3 .i64 [] HB4.out.size (by simp)) (below_alloc (Below.refl _ _) _)
      have hz : (w4.alloc (.cells #[] 3)).heap.size = w4.heap.size + 1 := by simp
      have ht : ((w4.alloc (.cells #[] 3)).alloc (.cells #[] 3)).ownsRow w2.heap.size 3 1 (.slice (some ⟨w4.heap.size + 1, 0, none⟩) 0 0) 0 (nums .i64 []) := hz ▸ own_lit (w4.alloc (.cells #[] 3)) w2.heap.size 3 .i64 [] (by have := HB4.out.size; omega) (by simp)
      have hbb : Below w4.heap.size w4 ((w4.alloc (.cells #[] 3)).alloc (.cells #[] 3)) := below_alloc (below_alloc (Below.refl _ _) _) _
      refine ⟨next, 0, .slice none 0 0, .slice none 0 0, [], [], _, _, _, _, rfl, rfl, rfl, rfl, by omega, ⟨by simp⟩, by simp, ⟨⟨HBO'.out.below hbb, ha, ht, ?_, ?_, ?_, ?_, ?_, HB4.out.then' hbb HB4.out.size⟩⟩⟩
      all_goals (intro k hk; simp [Value.ownBlock] at hk)
      subst hk
      simp [Value.ownBlock]
    case round =>
      obtain ⟨nx, j, v, u, xs, ws, Aa, ca, At, ct, rfl, rfl, rfl, rfl, hj0, hjk, hxl, HST⟩ := hrel
      clear HBO' HB4
      by_cases q1 : j < (acts.length : Int)
      · have q1b : decide (j < (acts.length : Int)) = true := decide_eq_true q1
        have hj60 : j < 60 := by omega
        obtain ⟨ad, A5, c5, e5, hN0, hN1, hN2, hlc, hrl⟩ := at_T34 HC.out j hj0 q1
        cases e5
        replace hN0 := Kd.cell_heap (w1 := wr) (fun k hk => HST.out.below.block k hk) hN0
        replace hN1 := Kd.cell_heap (w1 := wr) (fun k hk => HST.out.below.block k hk) hN1
        replace hN2 := Kd.cell_heap (w1 := wr) (fun k hk => HST.out.below.block k hk) hN2
        have hl200 := H200.out j
        generalize (rd_T34 acts j).f2 = ls at *
        generalize (rd_T34 acts j).f1 = n at *
        generalize (rd_T34 acts j).f0 = dd at *
        have HRL := Aside0.mk hrl
        clear hrl
        obtain ⟨K0, hK0⟩ : ∃ K0, K0 = gk := ⟨_, rfl⟩
        subst hK0
        go_wp2_with fail
        have hbn := blk_new wr (.cells #[.int .i64 dd, .int .i64 n, .slice A5 ls.length c5] 34)
        have HST1 := Aside0.mk (HST.out.keep (below_alloc (Below.refl _ _) (.cells #[.int .i64 dd, .int .i64 n, .slice A5 ls.length c5] 34)))
        have hbw := HST.out.below.size
        clear HST hN0 hN1 hN2
        generalize wr.alloc (.cells #[.int .i64 dd, .int .i64 n, .slice A5 ls.length c5] 34) = w5 at *
        generalize wr.heap.size = b at *
        refine (ints_any A5 c5 ls w5 (Kd.Heap.C (Kd.heap_int _) (fun k hk => HST1.out.below.block k hk) HRL.out) hlc (by omega)).mono ?_
        rintro e w6 ⟨u6, A6, c6, rfl, rfl, hl6, ho6, hb6⟩
        have HST6 := Aside0.mk (HST1.out.keep hb6)
        have HOW6 := Aside0.mk (show Own w2 w6 (.slice A6 ls.length c6) v u (.slice Aa xs.length ca) (.slice At ws.length ct) ls from
          ⟨own_weaken ho6 HST1.out.below.size, Sep.fresh (own_base ho6) (own_lt HST1.out.both.sink.own), Sep.fresh (own_base ho6) (own_lt HST1.out.both.gate.own), Sep.fresh (own_base ho6) (own_lt HST1.out.all), Sep.fresh (own_base ho6) (own_lt HST1.out.wait)⟩)
        have HBK6 := Aside0.mk (blk_below hbn hb6)
        clear hbn HST1 ho6 hb6
        have hdd : w6.cell? ⟨b, 0, none⟩ = some (.int .i64 dd) := (blk_cell HBK6.out 0).trans rfl
        go_wp2_with fail
        refine (among_some dd 5 w6 (by omega) (by omega)).mono ?_
        rintro e w7' ⟨r, rfl, hr0, hr1, ⟨m7, rfl⟩⟩
        have HST7 := Aside0.mk (HST6.out.keep (pw_below_drewN (Below.refl _ _) m7))
        have HOW7 := Aside0.mk (HOW6.out.keep (pw_below_drewN (Below.refl _ _) m7))
        have HBK7 := Aside0.mk (blk_below HBK6.out (pw_below_drewN (Below.refl _ _) m7))
        clear HST6 HOW6 HBK6 hdd
        generalize w6.drewN m7 = w7 at *
        go_upto_block 2 with (fail)
        go_cut [0, 10, 11, 15] from 64 to 239 (fun v0 v10 v11 v15 wc => ∃ (nx' : Int) (v' u' : Value) (xs' ws' : List Int) (Aa' : Option Addr) (ca' : Nat) (At' : Option Addr) (ct' : Nat), v0 = .int .i64 nx' ∧ v10 = .slice Aa' xs'.length ca' ∧ v11 = .slice At' ws'.length ct' ∧ v15 = .bool true ∧ (xs'.length : Int) + ws'.length ≤ 200 * (j + 1) ∧ Aside0 (St w2 wc s g v' u' (.slice Aa' xs'.length ca') (.slice At' ws'.length ct') xs' nx' limit ws' xs' ws') ∧ Aside0 (Own w2 wc (.slice A6 ls.length c6) v' u' (.slice Aa' xs'.length ca') (.slice At' ws'.length ct') ls))
        case first =>
          have hc0 : w7.cell? ⟨b, 0, none⟩ = some (.int .i64 dd) := (blk_cell HBK7.out 0).trans rfl
          have hc1 : w7.cell? ⟨b, 1, none⟩ = some (.int .i64 n) := (blk_cell HBK7.out 1).trans rfl
          have hc2 : w7.cell? ⟨b, 2, none⟩ = some (.slice A5 ls.length c5) := (blk_cell HBK7.out 2).trans rfl
          have hr5 : r = 0 ∨ r = 1 ∨ r = 2 ∨ r = 3 ∨ r = 4 := by omega
          rcases hr5 with rfl | rfl | rfl | rfl | rfl
          · as_aux_lemma =>
            clear hr0 hr1
            obtain ⟨ys, k, er, hP⟩ : ∃ ys k er, Aside0 (putP xs n ls = (ys, k, er)) := ⟨_, _, _, ⟨rfl⟩⟩
            obtain ⟨tt, ht1, ht2, ht3⟩ := putP_pre xs n ls
            rw [hP.out] at ht1
            have hyl : (ys.length : Int) ≤ xs.length + ls.length := by
              have e : ys = xs ++ tt := ht1
              rw [e, List.length_append]; omega
            clear ht1 ht2 ht3
            go_wp2_with fail
            refine (put_to w2.heap.size s v xs n A6 c6 ls.length ls ys k er w7 HST7.out.both.sink rfl (rd_of_own HOW7.out.row) hl6 (by omega) hP.out).mono ?_
            rintro e w8 ⟨rfl, hp8⟩
            obtain ⟨v8, hst8, htn8, hnr8⟩ := HST7.out.put hp8
            have HST8 := Aside0.mk hst8
            have HOW8 := Aside0.mk (HOW7.out.turn htn8 (fun k hk e => by
              rcases e with e | e
              · subst e; exact own_ne HOW7.out.row HST7.out.both.sink.blk (by decide) hk.symm
              · exact HOW7.out.ov k hk e.symm) hnr8 Near.rfl' Near.rfl' Near.rfl')
            have HBK8 := Aside0.mk (blk_turn HBK7.out htn8 (by
              rintro (e | e)
              · exact blk_ne HBK7.out HST7.out.both.sink.blk (by decide) e
              · exact own_ne HST7.out.both.sink.own HBK7.out (by decide) e))
            clear hst8 htn8 hnr8 hp8 HST7 HOW7 HBK7 hc0 hc1 hc2
            have hc1 : w8.cell? ⟨b, 1, none⟩ = some (.int .i64 n) := (blk_cell HBK8.out 1).trans rfl
            have hc2 : w8.cell? ⟨b, 2, none⟩ = some (.slice A5 ls.length c5) := (blk_cell HBK8.out 2).trans rfl
            go_wp2_with fail
            refine (refput_any HST8.out n A5 c5 ls.length ls rfl (fun W' hk => Kd.Heap.C (Kd.heap_int _) (HST8.out.old (fun k e => own_base HST8.out.all k e.symm) hk) HRL.out) hlc (by omega) hP.out).mono ?_
            rintro e w9 ⟨a9, A9, c9, rfl, rfl, hst9, htn9, hnr9⟩
            have HST9 := Aside0.mk hst9
            have HOW9 := Aside0.mk (HOW8.out.turn htn9 (fun k hk e => HOW8.out.oa k hk e.symm) Near.rfl' Near.rfl' hnr9 Near.rfl')
            clear hst9 htn9 hnr9 HST8 HOW8 HBK8
            go_wp2
            go_meet
            case rel => exact ⟨nx, v8, u, ys, ws, A9, c9, At, ct, rfl, rfl, rfl, by simp, by omega, HST9, HOW9⟩
          · as_aux_lemma =>
            clear hr0 hr1
            by_cases hf : (ls.length : Int) ≤ limit - ws.length
            · have hfb : decide (limit - (ws.length : Int) < ls.length) = false := decide_eq_false (by omega)
              obtain ⟨-, -, -, hle, hrt⟩ := own_rd HST7.out.wait
              have HO := Aside0.mk (show (Kd.int .i64).R 3 w7 w2.heap.size (fun _ => True) (.slice At ws.length ct) ws from Kd.R_of_own (enc := Value.int .i64) (h1 := fun _ => rfl) HST7.out.wait (fun _ _ => trivial))
              have HR := Aside0.mk (show Rd w7 A5 ls from Kd.Heap.C (Kd.heap_int _) (fun k hk => HST7.out.below.block k hk) HRL.out)
              have HBs := HST7.out.below.size
              go_wp2_with (at_builtin; refine Kd.R_append_rows (Kd.int .i64) (Rr := fun x cs => cs = [Value.int .i64 x]) (w0 := w7) w2.heap.size rfl _ _ 27 3 (.int .i64 0) 8 rfl Try.underlying27 info3 rfl (by decide) (by decide) (.slice At ws.length ct) ws ls A5 ls.length c5 (fun _ => True) (fun _ => False) rfl rfl (by exact HO.out) (by exact HR.out) (fun x cs h => h) (fun _ h => h.elim) (fun _ _ => trivial) (by exact Below.refl w2.heap.size w7) (by exact HBs) (by omega) ?_; intro v8 w8 hr8 hb8 hg8 hat8; obtain ⟨A8, c8, rfl, hl8, hrd8⟩ := Kd.R_reads hr8; have HG8 := Aside0.mk hg8; have HA8 := Aside0.mk hat8; have HR8 := Aside0.mk hr8; clear hg8 hat8 hr8 hb8 hrd8)
              have htn8 : Turn w7 w8 (fun k => some k = (Value.slice At ws.length ct).ownBlock) := ⟨HG8.out.os, HG8.out.tape, HG8.out.output, HG8.out.size, fun k hk hn => HG8.out.block k hk (fun e => hn e)⟩
              have hnr8 : Near w7 (.slice At ws.length ct) (.slice A8 (ws ++ ls).length c8) := Near.of_or HA8.out
              have HST8 := Aside0.mk (HST7.out.newWait htn8 (Kd.own_of_R HR8.out) hnr8)
              have HOW8 := Aside0.mk (HOW7.out.turn htn8 (fun k hk e => HOW7.out.ot k hk e.symm) Near.rfl' Near.rfl' Near.rfl' hnr8)
              clear HST7 HOW7 HBK7 HG8 HA8 HR8 HO HR htn8 hnr8 hc0 hc1 hc2 hl8
              refine (offer_ok w2.heap.size g u nx limit ws A6 c6 ls w8 HST8.out.both.gate hl1 hlim (rd_of_own HOW8.out.row) hf (by omega)).mono ?_
              rintro e w9 ⟨rfl, hp9⟩
              obtain ⟨u9, hst9, htn9, hnr9⟩ := HST8.out.offer hp9
              have HST9 := Aside0.mk hst9
              have HOW9 := Aside0.mk (HOW8.out.turn htn9 (fun k hk e => by
                rcases e with e | e
                · subst e; exact own_ne HOW8.out.row HST8.out.both.gate.blk (by decide) hk.symm
                · exact HOW8.out.ou k hk e.symm) Near.rfl' hnr9 Near.rfl' Near.rfl')
              clear hst9 htn9 hnr9 hp9 HST8 HOW8
              have hwl9 : ((ws ++ ls).length : Int) = ws.length + ls.length := by rw [List.length_append]; omega
              have HWL := Aside0.mk hwl9
              clear hwl9
              generalize ws ++ ls = ws9 at *
              go_wp2
              go_meet
              case rel => exact ⟨nx, v, u9, xs, ws9, Aa, ca, A8, c8, rfl, rfl, by rw [show ws.length + ls.length = ws9.length by have := HWL.out; omega], by simp, by have := HWL.out; omega, HST9, HOW9⟩
            · have hfb : decide (limit - (ws.length : Int) < ls.length) = true := decide_eq_true (by omega)
              go_wp2_with fail
              refine (offer_full w2.heap.size g u nx limit ws A6 ls.length c6 w7 HST7.out.both.gate hl1 hlim (by omega)).mono ?_
              rintro e w8' ⟨rfl, ⟨m8, rfl⟩⟩
              have HST8 := Aside0.mk (HST7.out.keep (pw_below_drewN (Below.refl _ _) m8))
              have HOW8 := Aside0.mk (HOW7.out.keep (pw_below_drewN (Below.refl _ _) m8))
              clear HST7 HOW7 HBK7
              go_wp2
              go_meet
              case rel => exact ⟨nx, v, u, xs, ws, Aa, ca, At, ct, rfl, rfl, rfl, by simp, by omega, HST8, HOW8⟩
          · as_aux_lemma =>
            clear hr0 hr1
            by_cases hf : (ls.length : Int) ≤ limit - ws.length
            · have hfb : decide (limit - (ws.length : Int) < ls.length) = false := decide_eq_false (by omega)
              obtain ⟨-, -, -, hle, hrt⟩ := own_rd HST7.out.wait
              have HO := Aside0.mk (show (Kd.int .i64).R 3 w7 w2.heap.size (fun _ => True) (.slice At ws.length ct) ws from Kd.R_of_own (enc := Value.int .i64) (h1 := fun _ => rfl) HST7.out.wait (fun _ _ => trivial))
              have HR := Aside0.mk (show Rd w7 A5 ls from Kd.Heap.C (Kd.heap_int _) (fun k hk => HST7.out.below.block k hk) HRL.out)
              have HBs := HST7.out.below.size
              go_wp2_with (at_builtin; refine Kd.R_append_rows (Kd.int .i64) (Rr := fun x cs => cs = [Value.int .i64 x]) (w0 := w7) w2.heap.size rfl _ _ 27 3 (.int .i64 0) 8 rfl Try.underlying27 info3 rfl (by decide) (by decide) (.slice At ws.length ct) ws ls A5 ls.length c5 (fun _ => True) (fun _ => False) rfl rfl (by exact HO.out) (by exact HR.out) (fun x cs h => h) (fun _ h => h.elim) (fun _ _ => trivial) (by exact Below.refl w2.heap.size w7) (by exact HBs) (by omega) ?_; intro v8 w8 hr8 hb8 hg8 hat8; obtain ⟨A8, c8, rfl, hl8, hrd8⟩ := Kd.R_reads hr8; have HG8 := Aside0.mk hg8; have HA8 := Aside0.mk hat8; have HR8 := Aside0.mk hr8; clear hg8 hat8 hr8 hb8 hrd8)
              have htn8 : Turn w7 w8 (fun k => some k = (Value.slice At ws.length ct).ownBlock) := ⟨HG8.out.os, HG8.out.tape, HG8.out.output, HG8.out.size, fun k hk hn => HG8.out.block k hk (fun e => hn e)⟩
              have hnr8 : Near w7 (.slice At ws.length ct) (.slice A8 (ws ++ ls).length c8) := Near.of_or HA8.out
              have HST8 := Aside0.mk (HST7.out.newWait htn8 (Kd.own_of_R HR8.out) hnr8)
              have HOW8 := Aside0.mk (HOW7.out.turn htn8 (fun k hk e => HOW7.out.ot k hk e.symm) Near.rfl' Near.rfl' Near.rfl' hnr8)
              clear HST7 HOW7 HBK7 HG8 HA8 HR8 HO HR htn8 hnr8 hc0 hc1 hc2 hl8
              refine (offer_ok w2.heap.size g u nx limit ws A6 c6 ls w8 HST8.out.both.gate hl1 hlim (rd_of_own HOW8.out.row) hf (by omega)).mono ?_
              rintro e w9 ⟨rfl, hp9⟩
              obtain ⟨u9, hst9, htn9, hnr9⟩ := HST8.out.offer hp9
              have HST9 := Aside0.mk hst9
              have HOW9 := Aside0.mk (HOW8.out.turn htn9 (fun k hk e => by
                rcases e with e | e
                · subst e; exact own_ne HOW8.out.row HST8.out.both.gate.blk (by decide) hk.symm
                · exact HOW8.out.ou k hk e.symm) Near.rfl' hnr9 Near.rfl' Near.rfl')
              clear hst9 htn9 hnr9 hp9 HST8 HOW8
              have hwl9 : ((ws ++ ls).length : Int) = ws.length + ls.length := by rw [List.length_append]; omega
              have HWL := Aside0.mk hwl9
              clear hwl9
              generalize ws ++ ls = ws9 at *
              go_wp2
              go_meet
              case rel => exact ⟨nx, v, u9, xs, ws9, Aa, ca, A8, c8, rfl, rfl, by rw [show ws.length + ls.length = ws9.length by have := HWL.out; omega], by simp, by have := HWL.out; omega, HST9, HOW9⟩
            · have hfb : decide (limit - (ws.length : Int) < ls.length) = true := decide_eq_true (by omega)
              go_wp2_with fail
              refine (offer_full w2.heap.size g u nx limit ws A6 ls.length c6 w7 HST7.out.both.gate hl1 hlim (by omega)).mono ?_
              rintro e w8' ⟨rfl, ⟨m8, rfl⟩⟩
              have HST8 := Aside0.mk (HST7.out.keep (pw_below_drewN (Below.refl _ _) m8))
              have HOW8 := Aside0.mk (HOW7.out.keep (pw_below_drewN (Below.refl _ _) m8))
              clear HST7 HOW7 HBK7
              go_wp2
              go_meet
              case rel => exact ⟨nx, v, u, xs, ws, Aa, ca, At, ct, rfl, rfl, rfl, by simp, by omega, HST8, HOW8⟩
          · as_aux_lemma =>
            clear hr0 hr1
            by_cases hb0 : n < 0
            · have d1 : decide (n < 0) = true := decide_eq_true hb0
              go_wp2_with fail
              refine (release_bad w2.heap.size g u (.pointer (some ⟨s, 0, none⟩)) nx limit ws n w7 HST7.out.both.gate hl1 (.inl hb0)).mono ?_
              rintro e w8 ⟨rfl, rfl⟩
              go_wp2
              go_meet
              case rel => exact ⟨nx, v, u, xs, ws, Aa, ca, At, ct, rfl, rfl, rfl, by simp, by omega, HST7, HOW7⟩
            · have d1 : decide (n < 0) = false := decide_eq_false hb0
              by_cases hb1 : (ws.length : Int) < n
              · have d2 : decide ((ws.length : Int) < n) = true := decide_eq_true hb1
                go_wp2_with fail
                refine (release_bad w2.heap.size g u (.pointer (some ⟨s, 0, none⟩)) nx limit ws n w7 HST7.out.both.gate hl1 (.inr ⟨by omega, hb1⟩)).mono ?_
                rintro e w8 ⟨rfl, rfl⟩
                go_wp2
                go_meet
                case rel => exact ⟨nx, v, u, xs, ws, Aa, ca, At, ct, rfl, rfl, rfl, by simp, by omega, HST7, HOW7⟩
              · have d2 : decide ((ws.length : Int) < n) = false := decide_eq_false hb1
                obtain ⟨i, hi, his⟩ := info3'
                obtain ⟨-, At0, ct0, et, hwc, hrt⟩ := HST7.out.slices
                injection et with et1 _ et2
                subst et1 et2
                have hwl := hrt.2.1
                obtain ⟨cutT, rdT, leT⟩ := print_take_of (P := Try.prog) (Value.int .i64) (0 : Int) 27 3 .i64 Try.underlying27 hi his At ct ws n (by omega) (by omega) hwc
                obtain ⟨A3, cut3, rd3, le3⟩ := print_drop_of (P := Try.prog) (Value.int .i64) (0 : Int) 27 3 .i64 Try.underlying27 hi his At ct ws n (by omega) (by omega) hwc
                have RDT := Aside0.mk (fun W h => Rd.of (rdT W (Rd.ints h)))
                have RD3 := Aside0.mk (fun W h => Rd.of (rd3 W (Rd.ints h)))
                clear hrt rdT rd3
                have htl : ((ws.take n.toNat).length : Int) ≤ n := by rw [List.length_take]; omega
                have hdl : ((ws.drop n.toNat).length : Int) ≤ ws.length - n := by rw [List.length_drop]; omega
                obtain ⟨ys, k, er, hP⟩ : ∃ ys k er, Aside0 (putP xs nx (ws.take n.toNat) = (ys, k, er)) := ⟨_, _, _, ⟨rfl⟩⟩
                have HRELH := Lib.hid (release_turn w2.heap.size s g v u xs nx limit ws n ys k er w7 HST7.out.both hl1 (by omega) (by omega) (by omega) hP.out)
                obtain ⟨tt, ht1, ht2, ht3⟩ := putP_pre xs nx (ws.take n.toNat)
                rw [hP.out] at ht1 ht3
                have hyl : (ys.length : Int) ≤ xs.length + n := by
                  have e : ys = xs ++ tt := ht1
                  rw [e, List.length_append]; omega
                have hyl3 : er ≠ 0 → (ys.length : Int) ≤ xs.length := fun h => by
                  have e : ys = xs ++ tt := ht1
                  rw [e, ht3 h]; simp
                have HYL3 := Aside0.mk hyl3
                clear ht1 ht2 ht3 hyl3
                generalize hlt0 : ws.take n.toNat = lt at *
                generalize hld0 : ws.drop n.toNat = ld at *
                clear hlt0 hld0
                go_wp2_with fail
                refine HRELH.out.mono ?_
                rintro e w8 ⟨rfl, hb8, hpp⟩
                clear HRELH
                by_cases he : er = 0
                · have he1 : (er == 0) = true := beq_iff_eq.mpr he
                  have HE := Aside0.mk he
                  have hpp' : ∃ v' u', Both w8 w2.heap.size s g v' u' ys (wrap64 (nx + n)) limit ld ∧ Turn w7 w8 (fun k => k = s ∨ k = g ∨ some k = v.ownBlock ∨ some k = u.ownBlock) ∧ Near w7 v v' ∧ Near w7 u u' := by
                    rcases hpp with ⟨_, h⟩ | ⟨h, _⟩
                    · exact h
                    · exact absurd he h
                  clear hpp he
                  obtain ⟨v8, u8, hbo8, htn8, hv8, hu8⟩ := hpp'
                  have HST8 := Aside0.mk (HST7.out.release hbo8 htn8 hv8 hu8 hb8)
                  have HOW8 := Aside0.mk (HOW7.out.turn htn8 (fun k hk e => by
                    rcases e with e | e | e | e
                    · subst e; exact own_ne HOW7.out.row HST7.out.both.sink.blk (by decide) hk.symm
                    · subst e; exact own_ne HOW7.out.row HST7.out.both.gate.blk (by decide) hk.symm
                    · exact HOW7.out.ov k hk e.symm
                    · exact HOW7.out.ou k hk e.symm) hv8 hu8 Near.rfl' Near.rfl')
                  have HBK8 := Aside0.mk (blk_turn HBK7.out htn8 (by
                    rintro (e | e | e | e)
                    · exact blk_ne HBK7.out HST7.out.both.sink.blk (by decide) e
                    · exact blk_ne HBK7.out HST7.out.both.gate.blk (by decide) e
                    · exact own_ne HST7.out.both.sink.own HBK7.out (by decide) e
                    · exact own_ne HST7.out.both.gate.own HBK7.out (by decide) e))
                  clear hbo8 htn8 hv8 hu8 hb8 HST7 HOW7 HBK7 hc0 hc1 hc2
                  have hc1 : w8.cell? ⟨b, 1, none⟩ = some (.int .i64 n) := (blk_cell HBK8.out 1).trans rfl
                  go_wp2_with fail
                  refine (refput_any HST8.out nx At ct lt.length lt rfl (fun W' hk => RDT.out W' (rd_of_own (own_move HST8.out.wait (fun k hk' => hk.2 k (own_lt HST8.out.wait k hk') (fun e => HST8.out.at_ k e.symm hk'))))) leT (by omega) hP.out).mono ?_
                  rintro e w9 ⟨a9, A9, c9, rfl, rfl, hst9, htn9, hnr9⟩
                  have HST9 := Aside0.mk hst9
                  have HOW9 := Aside0.mk (HOW8.out.turn htn9 (fun k hk e => HOW8.out.oa k hk e.symm) Near.rfl' Near.rfl' hnr9 Near.rfl')
                  have HBK9 := Aside0.mk (blk_turn HBK8.out htn9 (fun e => own_ne HST8.out.all HBK8.out (by decide) e))
                  clear hst9 htn9 hnr9 HST8 HOW8 HBK8 hc1
                  have hc1 : w9.cell? ⟨b, 1, none⟩ = some (.int .i64 n) := (blk_cell HBK9.out 1).trans rfl
                  go_wp2_with fail
                  refine (ints_any A3 (ct - n.toNat) ld w9 (RD3.out w9 (rd_of_own HST9.out.wait)) le3 (by omega)).mono ?_
                  rintro e w10 ⟨u10, A10, c10, rfl, rfl, hl10, ho10, hb10⟩
                  have HST10' := HST9.out.keep hb10
                  have hn10 : Near w10 (.slice At ws.length ct) (.slice A10 ld.length c10) → True := fun _ => trivial
                  have HST10 := Aside0.mk (show St w2 w10 s g v8 u8 (.slice A9 ys.length c9) (.slice A10 ld.length c10) ys (wrap64 (nx + n)) limit ld ys ld from
                    ⟨HST10'.both, HST10'.all, own_weaken ho10 HST9.out.below.size, HST10'.va, (Sep.fresh (own_base ho10) (own_lt HST9.out.both.sink.own)).symm, HST10'.ua, (Sep.fresh (own_base ho10) (own_lt HST9.out.both.gate.own)).symm, (Sep.fresh (own_base ho10) (own_lt HST9.out.all)).symm, HST10'.below⟩)
                  have HOW10' := HOW9.out.keep hb10
                  have HOW10 := Aside0.mk (show Own w2 w10 (.slice A6 ls.length c6) v8 u8 (.slice A9 ys.length c9) (.slice A10 ld.length c10) ls from
                    ⟨HOW10'.row, HOW10'.ov, HOW10'.ou, HOW10'.oa, (Sep.fresh (own_base ho10) (own_lt HOW9.out.row)).symm⟩)
                  clear HST9 HOW9 HBK9 HST10' HOW10' ho10 hb10 hc1
                  go_wp2
                  go_meet
                  case rel => exact ⟨wrap64 (nx + n), v8, u8, ys, ld, A9, c9, A10, c10, rfl, rfl, rfl, by simp, by omega, HST10, HOW10⟩
                · have he1 : (er == 0) = false := beq_eq_false_iff_ne.mpr he
                  have hyx := HYL3.out he
                  have hpp' : ∃ v' u', Both w8 w2.heap.size s g v' u' ys nx limit ws ∧ Turn w7 w8 (fun k => k = s ∨ k = g ∨ some k = v.ownBlock ∨ some k = u.ownBlock) ∧ Near w7 v v' ∧ Near w7 u u' := by
                    rcases hpp with ⟨h, _⟩ | ⟨_, v', h1, h2, h3⟩
                    · exact absurd h he
                    · exact ⟨v', u, h1, h2, h3, Near.rfl'⟩
                  clear hpp he
                  obtain ⟨v8, u8, hbo8, htn8, hv8, hu8⟩ := hpp'
                  have HST8 := Aside0.mk (HST7.out.release hbo8 htn8 hv8 hu8 hb8)
                  have HOW8 := Aside0.mk (HOW7.out.turn htn8 (fun k hk e => by
                    rcases e with e | e | e | e
                    · subst e; exact own_ne HOW7.out.row HST7.out.both.sink.blk (by decide) hk.symm
                    · subst e; exact own_ne HOW7.out.row HST7.out.both.gate.blk (by decide) hk.symm
                    · exact HOW7.out.ov k hk e.symm
                    · exact HOW7.out.ou k hk e.symm) hv8 hu8 Near.rfl' Near.rfl')
                  have HBK8 := Aside0.mk (blk_turn HBK7.out htn8 (by
                    rintro (e | e | e | e)
                    · exact blk_ne HBK7.out HST7.out.both.sink.blk (by decide) e
                    · exact blk_ne HBK7.out HST7.out.both.gate.blk (by decide) e
                    · exact own_ne HST7.out.both.sink.own HBK7.out (by decide) e
                    · exact own_ne HST7.out.both.gate.own HBK7.out (by decide) e))
                  clear hbo8 htn8 hv8 hu8 hb8 HST7 HOW7 HBK7 hc0 hc1 hc2
                  have hc1 : w8.cell? ⟨b, 1, none⟩ = some (.int .i64 n) := (blk_cell HBK8.out 1).trans rfl
                  go_wp2_with fail
                  refine (refput_any HST8.out nx At ct lt.length lt rfl (fun W' hk => RDT.out W' (rd_of_own (own_move HST8.out.wait (fun k hk' => hk.2 k (own_lt HST8.out.wait k hk') (fun e => HST8.out.at_ k e.symm hk'))))) leT (by omega) hP.out).mono ?_
                  rintro e w9 ⟨a9, A9, c9, rfl, rfl, hst9, htn9, hnr9⟩
                  have HST9 := Aside0.mk hst9
                  have HOW9 := Aside0.mk (HOW8.out.turn htn9 (fun k hk e => HOW8.out.oa k hk e.symm) Near.rfl' Near.rfl' hnr9 Near.rfl')
                  clear hst9 htn9 hnr9 HST8 HOW8 HBK8 hc1
                  go_wp2
                  go_meet
                  case rel => exact ⟨nx, v8, u8, ys, ws, A9, c9, At, ct, rfl, rfl, rfl, by simp, by omega, HST9, HOW9⟩
          · as_aux_lemma =>
            clear hr0 hr1
            by_cases hb0 : n < 0
            · have d1 : decide (n < 0) = true := decide_eq_true hb0
              go_wp2_with fail
              refine (release_bad w2.heap.size g u (.pointer (some ⟨s, 0, none⟩)) nx limit ws n w7 HST7.out.both.gate hl1 (.inl hb0)).mono ?_
              rintro e w8 ⟨rfl, rfl⟩
              go_wp2
              go_meet
              case rel => exact ⟨nx, v, u, xs, ws, Aa, ca, At, ct, rfl, rfl, rfl, by simp, by omega, HST7, HOW7⟩
            · have d1 : decide (n < 0) = false := decide_eq_false hb0
              by_cases hb1 : (ws.length : Int) < n
              · have d2 : decide ((ws.length : Int) < n) = true := decide_eq_true hb1
                go_wp2_with fail
                refine (release_bad w2.heap.size g u (.pointer (some ⟨s, 0, none⟩)) nx limit ws n w7 HST7.out.both.gate hl1 (.inr ⟨by omega, hb1⟩)).mono ?_
                rintro e w8 ⟨rfl, rfl⟩
                go_wp2
                go_meet
                case rel => exact ⟨nx, v, u, xs, ws, Aa, ca, At, ct, rfl, rfl, rfl, by simp, by omega, HST7, HOW7⟩
              · have d2 : decide ((ws.length : Int) < n) = false := decide_eq_false hb1
                obtain ⟨i, hi, his⟩ := info3'
                obtain ⟨-, At0, ct0, et, hwc, hrt⟩ := HST7.out.slices
                injection et with et1 _ et2
                subst et1 et2
                have hwl := hrt.2.1
                obtain ⟨cutT, rdT, leT⟩ := print_take_of (P := Try.prog) (Value.int .i64) (0 : Int) 27 3 .i64 Try.underlying27 hi his At ct ws n (by omega) (by omega) hwc
                obtain ⟨A3, cut3, rd3, le3⟩ := print_drop_of (P := Try.prog) (Value.int .i64) (0 : Int) 27 3 .i64 Try.underlying27 hi his At ct ws n (by omega) (by omega) hwc
                have RDT := Aside0.mk (fun W h => Rd.of (rdT W (Rd.ints h)))
                have RD3 := Aside0.mk (fun W h => Rd.of (rd3 W (Rd.ints h)))
                clear hrt rdT rd3
                have htl : ((ws.take n.toNat).length : Int) ≤ n := by rw [List.length_take]; omega
                have hdl : ((ws.drop n.toNat).length : Int) ≤ ws.length - n := by rw [List.length_drop]; omega
                obtain ⟨ys, k, er, hP⟩ : ∃ ys k er, Aside0 (putP xs nx (ws.take n.toNat) = (ys, k, er)) := ⟨_, _, _, ⟨rfl⟩⟩
                have HRELH := Lib.hid (release_turn w2.heap.size s g v u xs nx limit ws n ys k er w7 HST7.out.both hl1 (by omega) (by omega) (by omega) hP.out)
                obtain ⟨tt, ht1, ht2, ht3⟩ := putP_pre xs nx (ws.take n.toNat)
                rw [hP.out] at ht1 ht3
                have hyl : (ys.length : Int) ≤ xs.length + n := by
                  have e : ys = xs ++ tt := ht1
                  rw [e, List.length_append]; omega
                have hyl3 : er ≠ 0 → (ys.length : Int) ≤ xs.length := fun h => by
                  have e : ys = xs ++ tt := ht1
                  rw [e, ht3 h]; simp
                have HYL3 := Aside0.mk hyl3
                clear ht1 ht2 ht3 hyl3
                generalize hlt0 : ws.take n.toNat = lt at *
                generalize hld0 : ws.drop n.toNat = ld at *
                clear hlt0 hld0
                go_wp2_with fail
                refine HRELH.out.mono ?_
                rintro e w8 ⟨rfl, hb8, hpp⟩
                clear HRELH
                by_cases he : er = 0
                · have he1 : (er == 0) = true := beq_iff_eq.mpr he
                  have HE := Aside0.mk he
                  have hpp' : ∃ v' u', Both w8 w2.heap.size s g v' u' ys (wrap64 (nx + n)) limit ld ∧ Turn w7 w8 (fun k => k = s ∨ k = g ∨ some k = v.ownBlock ∨ some k = u.ownBlock) ∧ Near w7 v v' ∧ Near w7 u u' := by
                    rcases hpp with ⟨_, h⟩ | ⟨h, _⟩
                    · exact h
                    · exact absurd he h
                  clear hpp he
                  obtain ⟨v8, u8, hbo8, htn8, hv8, hu8⟩ := hpp'
                  have HST8 := Aside0.mk (HST7.out.release hbo8 htn8 hv8 hu8 hb8)
                  have HOW8 := Aside0.mk (HOW7.out.turn htn8 (fun k hk e => by
                    rcases e with e | e | e | e
                    · subst e; exact own_ne HOW7.out.row HST7.out.both.sink.blk (by decide) hk.symm
                    · subst e; exact own_ne HOW7.out.row HST7.out.both.gate.blk (by decide) hk.symm
                    · exact HOW7.out.ov k hk e.symm
                    · exact HOW7.out.ou k hk e.symm) hv8 hu8 Near.rfl' Near.rfl')
                  have HBK8 := Aside0.mk (blk_turn HBK7.out htn8 (by
                    rintro (e | e | e | e)
                    · exact blk_ne HBK7.out HST7.out.both.sink.blk (by decide) e
                    · exact blk_ne HBK7.out HST7.out.both.gate.blk (by decide) e
                    · exact own_ne HST7.out.both.sink.own HBK7.out (by decide) e
                    · exact own_ne HST7.out.both.gate.own HBK7.out (by decide) e))
                  clear hbo8 htn8 hv8 hu8 hb8 HST7 HOW7 HBK7 hc0 hc1 hc2
                  have hc1 : w8.cell? ⟨b, 1, none⟩ = some (.int .i64 n) := (blk_cell HBK8.out 1).trans rfl
                  go_wp2_with fail
                  refine (refput_any HST8.out nx At ct lt.length lt rfl (fun W' hk => RDT.out W' (rd_of_own (own_move HST8.out.wait (fun k hk' => hk.2 k (own_lt HST8.out.wait k hk') (fun e => HST8.out.at_ k e.symm hk'))))) leT (by omega) hP.out).mono ?_
                  rintro e w9 ⟨a9, A9, c9, rfl, rfl, hst9, htn9, hnr9⟩
                  have HST9 := Aside0.mk hst9
                  have HOW9 := Aside0.mk (HOW8.out.turn htn9 (fun k hk e => HOW8.out.oa k hk e.symm) Near.rfl' Near.rfl' hnr9 Near.rfl')
                  have HBK9 := Aside0.mk (blk_turn HBK8.out htn9 (fun e => own_ne HST8.out.all HBK8.out (by decide) e))
                  clear hst9 htn9 hnr9 HST8 HOW8 HBK8 hc1
                  have hc1 : w9.cell? ⟨b, 1, none⟩ = some (.int .i64 n) := (blk_cell HBK9.out 1).trans rfl
                  go_wp2_with fail
                  refine (ints_any A3 (ct - n.toNat) ld w9 (RD3.out w9 (rd_of_own HST9.out.wait)) le3 (by omega)).mono ?_
                  rintro e w10 ⟨u10, A10, c10, rfl, rfl, hl10, ho10, hb10⟩
                  have HST10' := HST9.out.keep hb10
                  have hn10 : Near w10 (.slice At ws.length ct) (.slice A10 ld.length c10) → True := fun _ => trivial
                  have HST10 := Aside0.mk (show St w2 w10 s g v8 u8 (.slice A9 ys.length c9) (.slice A10 ld.length c10) ys (wrap64 (nx + n)) limit ld ys ld from
                    ⟨HST10'.both, HST10'.all, own_weaken ho10 HST9.out.below.size, HST10'.va, (Sep.fresh (own_base ho10) (own_lt HST9.out.both.sink.own)).symm, HST10'.ua, (Sep.fresh (own_base ho10) (own_lt HST9.out.both.gate.own)).symm, (Sep.fresh (own_base ho10) (own_lt HST9.out.all)).symm, HST10'.below⟩)
                  have HOW10' := HOW9.out.keep hb10
                  have HOW10 := Aside0.mk (show Own w2 w10 (.slice A6 ls.length c6) v8 u8 (.slice A9 ys.length c9) (.slice A10 ld.length c10) ls from
                    ⟨HOW10'.row, HOW10'.ov, HOW10'.ou, HOW10'.oa, (Sep.fresh (own_base ho10) (own_lt HOW9.out.row)).symm⟩)
                  clear HST9 HOW9 HBK9 HST10' HOW10' ho10 hb10 hc1
                  go_wp2
                  go_meet
                  case rel => exact ⟨wrap64 (nx + n), v8, u8, ys, ld, A9, c9, A10, c10, rfl, rfl, rfl, by simp, by omega, HST10, HOW10⟩
                · have he1 : (er == 0) = false := beq_eq_false_iff_ne.mpr he
                  have hyx := HYL3.out he
                  have hpp' : ∃ v' u', Both w8 w2.heap.size s g v' u' ys nx limit ws ∧ Turn w7 w8 (fun k => k = s ∨ k = g ∨ some k = v.ownBlock ∨ some k = u.ownBlock) ∧ Near w7 v v' ∧ Near w7 u u' := by
                    rcases hpp with ⟨h, _⟩ | ⟨_, v', h1, h2, h3⟩
                    · exact absurd h he
                    · exact ⟨v', u, h1, h2, h3, Near.rfl'⟩
                  clear hpp he
                  obtain ⟨v8, u8, hbo8, htn8, hv8, hu8⟩ := hpp'
                  have HST8 := Aside0.mk (HST7.out.release hbo8 htn8 hv8 hu8 hb8)
                  have HOW8 := Aside0.mk (HOW7.out.turn htn8 (fun k hk e => by
                    rcases e with e | e | e | e
                    · subst e; exact own_ne HOW7.out.row HST7.out.both.sink.blk (by decide) hk.symm
                    · subst e; exact own_ne HOW7.out.row HST7.out.both.gate.blk (by decide) hk.symm
                    · exact HOW7.out.ov k hk e.symm
                    · exact HOW7.out.ou k hk e.symm) hv8 hu8 Near.rfl' Near.rfl')
                  have HBK8 := Aside0.mk (blk_turn HBK7.out htn8 (by
                    rintro (e | e | e | e)
                    · exact blk_ne HBK7.out HST7.out.both.sink.blk (by decide) e
                    · exact blk_ne HBK7.out HST7.out.both.gate.blk (by decide) e
                    · exact own_ne HST7.out.both.sink.own HBK7.out (by decide) e
                    · exact own_ne HST7.out.both.gate.own HBK7.out (by decide) e))
                  clear hbo8 htn8 hv8 hu8 hb8 HST7 HOW7 HBK7 hc0 hc1 hc2
                  have hc1 : w8.cell? ⟨b, 1, none⟩ = some (.int .i64 n) := (blk_cell HBK8.out 1).trans rfl
                  go_wp2_with fail
                  refine (refput_any HST8.out nx At ct lt.length lt rfl (fun W' hk => RDT.out W' (rd_of_own (own_move HST8.out.wait (fun k hk' => hk.2 k (own_lt HST8.out.wait k hk') (fun e => HST8.out.at_ k e.symm hk'))))) leT (by omega) hP.out).mono ?_
                  rintro e w9 ⟨a9, A9, c9, rfl, rfl, hst9, htn9, hnr9⟩
                  have HST9 := Aside0.mk hst9
                  have HOW9 := Aside0.mk (HOW8.out.turn htn9 (fun k hk e => HOW8.out.oa k hk e.symm) Near.rfl' Near.rfl' hnr9 Near.rfl')
                  clear hst9 htn9 hnr9 HST8 HOW8 HBK8 hc1
                  go_wp2
                  go_meet
                  case rel => exact ⟨nx, v8, u8, ys, ws, A9, c9, At, ct, rfl, rfl, rfl, by simp, by omega, HST9, HOW9⟩
        case rest => as_aux_lemma =>
          obtain ⟨nx', v', u', xs', ws', Aa', ca', At', ct', rfl, rfl, rfl, rfl, hxl', HSTc, HOWc⟩ := hcut
          clear HST7 HOW7 HBK7
          go_wp2
          go_loopg [27] ls.length (fun kq v27 w' => ∃ (i : Int) (os : List Int), v27 = .int .i64 i ∧ 0 ≤ i ∧ Aside0 (i = ls.length - kq) ∧ Aside0 (os.length = ls.length) ∧ Aside0 (St w2 w' s g v' u' (.slice Aa' xs'.length ca') (.slice At' ws'.length ct') xs' nx' limit ws' xs' ws') ∧ Aside0 (Own w2 w' (.slice A6 ls.length c6) v' u' (.slice Aa' xs'.length ca') (.slice At' ws'.length ct') os))
          case atStart => exact ⟨0, ls, rfl, by omega, ⟨by omega⟩, ⟨rfl⟩, HSTc, HOWc⟩
          case round =>
            obtain ⟨i, os, rfl, hi0, hik, hol, HSTi, HOWi⟩ := hrel
            clear HSTc HOWc
            by_cases q2 : i < (ls.length : Int)
            · have q2b : decide (i < (ls.length : Int)) = true := decide_eq_true q2
              have hrow := HOWi.out.row
              rw [hol.out] at hrow
              obtain ⟨gg, cap, e9, hg1, hg2⟩ := hrow.form (by omega)
              injection e9 with e9 _ e10
              subst e9 e10
              obtain ⟨hcell, hfrz⟩ := own_at hrow i hi0 q2
              obtain ⟨hrow2, _⟩ := own_store hrow i 201
              have HNG := Aside0.mk (show gg ≠ s ∧ gg ≠ g from ⟨fun e => own_ne hrow HSTi.out.both.sink.blk (by decide) (by subst e; rfl), fun e => own_ne hrow HSTi.out.both.gate.blk (by decide) (by subst e; rfl)⟩)
              have HST2 := Aside0.mk (HSTi.out.other (Turn.set wr ⟨gg, i.toNat, none⟩ (.int .i64 201)) (fun k e => by
                subst e
                exact ⟨HNG.out.1, HNG.out.2, fun e => HOWi.out.ov _ rfl e, fun e => HOWi.out.ou _ rfl e, fun e => HOWi.out.oa _ rfl e, fun e => HOWi.out.ot _ rfl e⟩) (fun k e => by subst e; exact hg1))
              have hol2 : (os.set i.toNat 201).length = ls.length := by rw [List.length_set]; exact hol.out
              have HOW2 := Aside0.mk (show Own w2 (wr.setCell ⟨gg, i.toNat, none⟩ (.int .i64 201)) (.slice (some ⟨gg, 0, none⟩) ls.length c6) v' u' (.slice Aa' xs'.length ca') (.slice At' ws'.length ct') (os.set i.toNat 201) from
                ⟨by rw [hol2]; exact hrow2, HOWi.out.ov, HOWi.out.ou, HOWi.out.oa, HOWi.out.ot⟩)
              have HOL2 := Aside0.mk hol2
              clear hol2 hrow2 HSTi HOWi hrow HNG
              go_wp2
              go_roundg (gk - 1)
              case measure => have := hik.out; omega
              case rel => exact ⟨i + 1, os.set i.toNat 201, by first | rfl | simp, by omega, ⟨by have := hik.out; omega⟩, HOL2, HST2, HOW2⟩
            · have q2b : decide (i < (ls.length : Int)) = false := decide_eq_false q2
              clear HOWi
              go_wp2_with fail
              refine (all_at w2.heap.size s v' xs' wr HSTi.out.both.sink (by omega)).mono ?_
              rintro e wa ⟨ua, Ab, cb, rfl, rfl, hlb, hob, hbb⟩
              have HSTa := Aside0.mk (HSTi.out.keep hbb)
              obtain ⟨⟨A0', c0', ea, hla, hra⟩, At0', ct0', et, hlt, hrt⟩ := HSTa.out.slices
              injection ea with ea1 _ ea2
              subst ea1 ea2
              injection et with et1 _ et2
              subst et1 et2
              have HRB := Aside0.mk (rd_of_own hob)
              have HRA := Aside0.mk hra
              have HRT := Aside0.mk hrt
              clear HSTi hbb hob hra hrt
              go_wp2_with fail
              refine (same_any Ab cb xs' Aa' ca' xs' wa HRB.out hlb HRA.out hla).mono ?_
              rintro e wb' ⟨rfl, ⟨mb, rfl⟩⟩
              have HSTb := Aside0.mk (HSTa.out.keep (pw_below_drewN (Below.refl _ _) mb))
              have HRT2 := Aside0.mk (Kd.C_below HRT.out (pw_below_drewN (Below.refl wa.heap.size wa) mb))
              clear HSTa HRB HRA HRT
              generalize wa.drewN mb = wb at *
              go_wp2_with fail
              refine (size_at w2.heap.size s v' xs' wb HSTb.out.both.sink).mono ?_
              rintro e wb2 ⟨rfl, rfl⟩
              go_wp2_with fail
              refine (wait_at w2.heap.size g u' nx' limit ws' wb HSTb.out.both.gate hl1 (by omega)).mono ?_
              rintro e wc ⟨uc, Ac, cc, rfl, rfl, hlc9, hoc, hbc⟩
              have HSTc := Aside0.mk (HSTb.out.keep hbc)
              have HRC := Aside0.mk (rd_of_own hoc)
              have HRT3 := Aside0.mk (Kd.C_below HRT2.out hbc)
              clear HSTb HRT2 hoc hbc
              go_wp2_with fail
              refine (same_any Ac cc ws' At' ct' ws' wc HRC.out hlc9 HRT3.out hlt).mono ?_
              rintro e wd' ⟨rfl, ⟨md, rfl⟩⟩
              have HSTd := Aside0.mk (HSTc.out.keep (pw_below_drewN (Below.refl _ _) md))
              clear HSTc HRC HRT3
              generalize wc.drewN md = wd at *
              go_wp2_with fail
              refine (next_at w2.heap.size g u' nx' limit ws' wd HSTd.out.both.gate hl1).mono ?_
              rintro e wd2 ⟨rfl, rfl⟩
              go_wp2_with fail
              refine (limit_at w2.heap.size g u' nx' limit ws' wd HSTd.out.both.gate hl1).mono ?_
              rintro e wd2 ⟨rfl, rfl⟩
              go_wp2_with fail
              refine (free_at w2.heap.size g u' nx' limit ws' wd HSTd.out.both.gate hl1 hlim).mono ?_
              rintro e we' ⟨rfl, ⟨me, rfl⟩⟩
              have HSTe := Aside0.mk (HSTd.out.keep (pw_below_drewN (Below.refl _ _) me))
              go_wp2
              go_roundg (K0 - 1)
              case measure => have := hjk.out; omega
              case rel => exact ⟨nx', j + 1, v', u', xs', ws', Aa', ca', At', ct', rfl, rfl, rfl, by first | rfl | simp, by omega, ⟨by have := hjk.out; omega⟩, hxl', HSTe⟩
      · have q1b : decide (j < (acts.length : Int)) = false := decide_eq_false q1
        go_wp2_with fail
        refine (works_any wr).mono ?_
        rintro e w5 ⟨rfl, hb5⟩
        go_wp2
        go_ret
        exact ⟨by simp, (HB2.out.then' HST.out.below HB2.out.size).then' hb5 (by have := HB2.out.size; have := HST.out.below.size; omega)⟩
end Go.Proofs.Ythijcbihdkheoaa.G
