/- The law GateStays's walk. -/
import Derived.Test.YthijcbihdkheoaaG9
namespace Go.Proofs.Ythijcbihdkheoaa.G
open Go.RowKit Go.Proofs.YthijcbihdkheoaaW.PrintWords Go.Proofs.YthijcbihdkheoaaW.PrintLast Go.Proofs.YthijcbihdkheoaaW.PrintMore
set_option linter.unusedSimpArgs false
set_option linter.unusedVariables false

theorem putP_pre (xs : List Int) (p : Int) (ls : List Int) : ∃ t, (putP xs p ls).1 = xs ++ t ∧ t.length ≤ ls.length ∧ ((putP xs p ls).2.2 ≠ 0 → t = []) := by
  unfold putP
  split
  · exact ⟨[], by simp, by simp, fun _ => rfl⟩
  · split
    · exact ⟨_, rfl, by rw [List.length_drop]; omega, fun h => absurd rfl h⟩
    · exact ⟨[], by simp, by simp, fun _ => rfl⟩
/-- What was made behind a sink stays through its puts. -/
theorem own_put {w w' : World} {B g b : Nat} {v u : Value} {xs ys zs : List Int} (hp : PutPost w B g v ys w') (ho : w.ownsRow b 3 1 u zs.length (nums .i64 zs)) (hg : g < b) (hv : ∀ k, v.ownBlock = some k → k < b) : w'.ownsRow b 3 1 u zs.length (nums .i64 zs) := by
  obtain ⟨v', _, ht, _⟩ := hp
  refine own_move ho (fun k hk => ht.block k (own_lt ho k hk) ?_)
  have h1 := own_base ho k hk
  rintro (h | h)
  · omega
  · have := hv k h.symm
    omega
open PGatePlays in
set_option maxRecDepth 100000 in
set_option maxHeartbeats 8000000 in
theorem GateStays_walk (A0 : Option Addr) (c0 : Nat) (l : List S34) (w : World) (hr0 : Kd.C k34 w A0 l.length l) (hc0 : l.length ≤ c0) :
    Calls Try.prog 3 #[.slice A0 l.length c0] w fun e w' => e = .returned (.bool true) ∧ Below w.heap.size w w' := by
  obtain ⟨i, hi, his⟩ := info3'
  have HR0 := Aside0.mk hr0
  clear hr0
  go_enter Try.func3, Try.ntmps3
  go_wp2_with fail
  refine (works_any w).mono ?_
  rintro e w1 ⟨rfl, hb1⟩
  go_wp2_with fail
  refine (few_any A0 c0 l w1 (Kd.C_below HR0.out hb1) hc0).mono ?_
  rintro e w2 ⟨A1, c1, acts, rfl, hc1, h60, h200, hC, hb2⟩
  have HB2 := Aside0.mk (hb1.then' hb2 hb1.size)
  have HC := Aside0.mk hC
  have H200 := Aside0.mk h200
  clear hC hb1 hb2 h200 HR0 hc0
  go_wp2_with fail
  refine (make_at w2.heap.size w2 (Nat.le_refl _)).mono ?_
  rintro e w3 ⟨rfl, hs3, hb3⟩
  have HS3 := Aside0.mk hs3
  have HB3 := Aside0.mk hb3
  clear hs3 hb3
  obtain ⟨s, hs⟩ : ∃ s, Aside0 (s = w2.heap.size) := ⟨_, ⟨rfl⟩⟩
  have HS3' : Aside0 (SinkAt w3 w2.heap.size s (.slice none 0 0) []) := ⟨by rw [hs.out]; exact HS3.out⟩
  clear HS3
  rw [← hs.out]
  go_wp2
  go_loopg [4] 60 (fun kq v4 w' => ∃ (j : Int) (v : Value) (xs : List Int), v4 = .int .i64 j ∧ 0 ≤ j ∧ Aside0 (j = 60 - kq) ∧ (xs.length : Int) ≤ 200 * j ∧ Aside0 (SinkAt w' w2.heap.size s v xs) ∧ Aside0 (Below w2.heap.size w2 w'))
  case atStart => exact ⟨0, _, [], rfl, by omega, ⟨by simp⟩, by simp, HS3', HB3⟩
  case round =>
    clear HB3 HS3'
    obtain ⟨j, v, xs, rfl, hj0, hjk, hxl, HS, HB⟩ := hrel
    have hBs := HB.out.size
    by_cases q1 : j < (acts.length : Int)
    · have q1b : decide (j < (acts.length : Int)) = true := decide_eq_true q1
      have hj60 : j < 60 := by omega
      go_wp2_with fail
      refine (all_at w2.heap.size s v xs wr HS.out (by omega)).mono ?_
      rintro e w4 ⟨u4, A4, c4, rfl, rfl, hl4, ho4, hb4⟩
      have HO4 := Aside0.mk ho4
      have HB4 := Aside0.mk (HB.out.then' hb4 hBs)
      have HS4 := Aside0.mk (HS.out.below hb4)
      have HSL := Aside0.mk (And.intro HS.out.lt (own_lt HS.out.own))
      clear ho4 hb4 HS HB hBs
      obtain ⟨ad, A5, c5, e5, hcN0, hN, hL, hlc, hrl⟩ := at_T34 (Kd.C_below HC.out HB4.out) j hj0 q1
      cases e5
      have hl200 := H200.out j
      generalize (rd_T34 acts j).f2 = ls at *
      generalize (rd_T34 acts j).f1 = n at *
      clear hcN0
      have HRL := Aside0.mk hrl
      have HS4d : Aside0 (SinkAt w4.drew w2.heap.size s v xs) := ⟨HS4.out.below (pw_below_drewN (Below.refl _ _) 1)⟩
      clear hrl
      go_wp2_with fail
      refine start_ (n := 21) (S := fun w' => w'.cell? ⟨(ad.add (j.toNat * 3)).block, (ad.add (j.toNat * 3)).off + 1, none⟩ = some (.int .i64 n) ∧ w'.cell? ⟨(ad.add (j.toNat * 3)).block, (ad.add (j.toNat * 3)).off + 2, none⟩ = some (.slice A5 ls.length c5)) (ds := [15]) #[false, false, false, false, false, false, false, false, false, false, false, false, false, false, false, false, false, false, false, false, false] (by kernel_rfl) rfl rfl ⟨hN, hL⟩ (fun hHeld => ?_)
      refine pure_ (i := 0) (N := some 23) (v := ?_) (a' := ?_) #[true, false, false, false, false, false, false, false, false, false, false, false, false, false, false, false, false, false, false, false, false] rfl rfl (by kernel_rfl) (fun _ _ _ h => h) (Or.inl ⟨by rfl, ?_⟩) ?_ ?_
      rotate_left
      · intro w'
        go_simp
        with_reducible rfl
      rotate_left
      · simp only [Act.put, List.setIfInBounds_toArray, List.set_cons_zero, List.set_cons_succ, i64_w, i32_w]
        rfl
      refine pure_ (i := 1) (N := some 24) (v := ?_) (a' := ?_) #[true, true, false, false, false, false, false, false, false, false, false, false, false, false, false, false, false, false, false, false, false] rfl rfl (by kernel_rfl) (fun _ _ _ h => h) (Or.inl ⟨by rfl, ?_⟩) ?_ ?_
      rotate_left
      · intro w'
        go_simp
        with_reducible rfl
      rotate_left
      · simp only [Act.put, List.setIfInBounds_toArray, List.set_cons_zero, List.set_cons_succ, i64_w, i32_w]
        rfl
      refine pure_ (i := 2) (N := some 25) (v := ?_) (a' := ?_) #[true, true, true, false, false, false, false, false, false, false, false, false, false, false, false, false, false, false, false, false, false] rfl rfl (by kernel_rfl) (fun _ _ _ h => h) (Or.inl ⟨by rfl, ?_⟩) ?_ ?_
      rotate_left
      · intro w'
        go_simp
        with_reducible rfl
      rotate_left
      · simp only [Act.put, List.setIfInBounds_toArray, List.set_cons_zero, List.set_cons_succ, i64_w, i32_w]
        rfl
      refine pure_ (i := 3) (N := some 26) (v := ?_) (a' := ?_) #[true, true, true, true, false, false, false, false, false, false, false, false, false, false, false, false, false, false, false, false, false] rfl rfl (by kernel_rfl) (fun _ _ _ h => h) (Or.inl ⟨by rfl, ?_⟩) ?_ ?_
      rotate_left
      · intro w'
        go_simp
        with_reducible rfl
      rotate_left
      · simp only [Act.put, List.setIfInBounds_toArray, List.set_cons_zero, List.set_cons_succ, i64_w, i32_w]
        rfl
      refine pure_ (i := 4) (N := some 27) (v := ?_) (a' := ?_) #[true, true, true, true, true, false, false, false, false, false, false, false, false, false, false, false, false, false, false, false, false] rfl rfl (by kernel_rfl) (fun _ _ _ h => h) (Or.inl ⟨by rfl, ?_⟩) ?_ ?_
      rotate_left
      · intro w'
        go_simp
        with_reducible rfl
      rotate_left
      · simp only [Act.put, List.setIfInBounds_toArray, List.set_cons_zero, List.set_cons_succ, i64_w, i32_w]
        rfl
      refine pure_ (i := 6) (N := some 29) (v := ?_) (a' := ?_) #[true, true, true, true, true, false, true, false, false, false, false, false, false, false, false, false, false, false, false, false, false] rfl rfl (by kernel_rfl) (fun _ _ _ h => h) (Or.inl ⟨by rfl, ?_⟩) ?_ ?_
      rotate_left
      · intro w'
        go_simp
        with_reducible rfl
      rotate_left
      · simp only [Act.put, List.setIfInBounds_toArray, List.set_cons_zero, List.set_cons_succ, i64_w, i32_w]
        rfl
      refine pure_ (i := 10) (N := some 33) (v := ?_) (a' := ?_) #[true, true, true, true, true, false, true, false, false, false, true, false, false, false, false, false, false, false, false, false, false] rfl rfl (by kernel_rfl) (fun _ _ _ h => h) (Or.inl ⟨by rfl, ?_⟩) ?_ ?_
      rotate_left
      · intro w'
        go_simp
        with_reducible rfl
      rotate_left
      · simp only [Act.put, List.setIfInBounds_toArray, List.set_cons_zero, List.set_cons_succ, i64_w, i32_w]
        rfl
      refine pure_ (i := 11) (N := some 34) (v := ?_) (a' := ?_) #[true, true, true, true, true, false, true, false, false, false, true, true, false, false, false, false, false, false, false, false, false] rfl rfl (by kernel_rfl) (fun _ _ _ h => h) (Or.inl ⟨by rfl, ?_⟩) ?_ ?_
      rotate_left
      · intro w'
        go_simp
        with_reducible rfl
      rotate_left
      · simp only [Act.put, List.setIfInBounds_toArray, List.set_cons_zero, List.set_cons_succ, i64_w, i32_w]
        rfl
      refine pure_ (i := 12) (N := some 35) (v := ?_) (a' := ?_) #[true, true, true, true, true, false, true, false, false, false, true, true, true, false, false, false, false, false, false, false, false] rfl rfl (by kernel_rfl) (fun _ _ _ h => h) (Or.inl ⟨by rfl, ?_⟩) ?_ ?_
      rotate_left
      · intro w'
        go_simp
        with_reducible rfl
      rotate_left
      · simp only [Act.put, List.setIfInBounds_toArray, List.set_cons_zero, List.set_cons_succ, i64_w, i32_w]
        rfl
      refine pure_ (i := 13) (N := some 36) (v := ?_) (a' := ?_) #[true, true, true, true, true, false, true, false, false, false, true, true, true, true, false, false, false, false, false, false, false] rfl rfl (by kernel_rfl) (fun _ _ _ h => h) (Or.inl ⟨by rfl, ?_⟩) ?_ ?_
      rotate_left
      · intro w'
        go_simp
        with_reducible rfl
      rotate_left
      · simp only [Act.put, List.setIfInBounds_toArray, List.set_cons_zero, List.set_cons_succ, i64_w, i32_w]
        rfl
      refine take_ (i := 5) (N := some 28) (v := ?_) (a' := ?_) #[true, true, true, true, true, true, true, false, false, false, true, true, true, true, false, false, false, false, false, false, false] rfl rfl (by kernel_rfl) (fun _ _ _ h => h) (Or.inl ⟨by rfl, ?_⟩) hHeld ?_ ?_
      rotate_left
      · rintro w' ⟨s0, s1⟩
        go_simp
        with_reducible rfl
      rotate_left
      · simp only [Act.put, List.setIfInBounds_toArray, List.set_cons_zero, List.set_cons_succ, i64_w, i32_w]
        rfl
      refine take_ (i := 14) (N := some 37) (v := ?_) (a' := ?_) #[true, true, true, true, true, true, true, false, false, false, true, true, true, true, true, false, false, false, false, false, false] rfl rfl (by kernel_rfl) (fun _ _ _ h => h) (Or.inl ⟨by rfl, ?_⟩) hHeld ?_ ?_
      rotate_left
      · rintro w' ⟨s0, s1⟩
        go_simp
        with_reducible rfl
      rotate_left
      · simp only [Act.put, List.setIfInBounds_toArray, List.set_cons_zero, List.set_cons_succ, i64_w, i32_w]
        rfl
      refine one_ (i := 7) (N := some 30) #[true, true, true, true, true, true, true, true, false, false, true, true, true, true, true, false, false, false, false, false, false] rfl rfl (by kernel_rfl) (by decide) (fun K hK => ?_)
      refine goes_ Try.func15 (by kernel_rfl) rfl #[.pointer (some ⟨s, 0, none⟩)] (by rfl) rfl rfl (by simp only [List.map_toArray, List.map_cons, List.map_nil]; rfl) ?_
      with_reducible refine (size_at w2.heap.size s v xs w4.drew HS4d.out).mono ?_
      rintro e w5 ⟨rfl, rfl⟩
      refine ⟨_, rfl, ?_⟩
      refine hK.out _ _ ⟨hHeld.1, hHeld.2⟩ (fun hHeld => ?_)
      clear hK K
      refine norm_ (a' := ?_) ?_ ?_
      rotate_left
      · show Act.put _ (some 30) _ = _
        simp only [Act.put, List.setIfInBounds_toArray, List.set_cons_zero, List.set_cons_succ, i64_w, i32_w]
        rfl
      refine pure_ (i := 8) (N := some 31) (v := ?_) (a' := ?_) #[true, true, true, true, true, true, true, true, true, false, true, true, true, true, true, false, false, false, false, false, false] rfl rfl (by kernel_rfl) (fun _ _ _ h => h) (Or.inl ⟨by rfl, ?_⟩) ?_ ?_
      rotate_left
      · intro w'
        go_simp
        with_reducible rfl
      rotate_left
      · simp only [Act.put, List.setIfInBounds_toArray, List.set_cons_zero, List.set_cons_succ, i64_w, i32_w]
        rfl
      refine one_ (i := 9) (N := some 32) #[true, true, true, true, true, true, true, true, true, true, true, true, true, true, true, false, false, false, false, false, false] rfl rfl (by kernel_rfl) (by decide) (fun K hK => ?_)
      refine goes_ Try.func14 (by kernel_rfl) rfl #[.int .i64 n, .int .i64 (wrap64 ((xs.length : Int) + 2))] (by rfl) rfl rfl (by simp only [List.map_toArray, List.map_cons, List.map_nil]; rfl) ?_
      with_reducible refine (among_some n (wrap64 ((xs.length : Int) + 2)) _ (by unfold wrap64; omega) (by unfold wrap64; omega)).mono ?_
      rintro e w6 ⟨p, rfl, hp0, hp1, ⟨m6, rfl⟩⟩
      refine ⟨_, rfl, ?_⟩
      refine hK.out _ _ ⟨hHeld.1, hHeld.2⟩ (fun hHeld => ?_)
      clear hK K
      refine norm_ (a' := ?_) ?_ ?_
      rotate_left
      · show Act.put _ (some 32) _ = _
        simp only [Act.put, List.setIfInBounds_toArray, List.set_cons_zero, List.set_cons_succ, i64_w, i32_w]
        rfl
      refine last_ (i := 15) (N := some 38) #[true, true, true, true, true, true, true, true, true, true, true, true, true, true, true, true, false, false, false, false, false] rfl rfl (by kernel_rfl) (by decide) (fun K hK => ?_)
      refine goes_ Try.func13 (by kernel_rfl) rfl #[.pointer (some ⟨s, 0, none⟩), .int .i64 p, .slice A5 ls.length c5] (by rfl) rfl rfl (by simp only [List.map_toArray, List.map_cons, List.map_nil]; rfl) ?_
      with_reducible refine (put_any w2.heap.size s v xs p A5 c5 ls (w4.drew.drewN m6) (HS4d.out.below (pw_below_drewN (Below.refl _ _) m6)) (Kd.C_below HRL.out (pw_below_drewN (pw_below_drewN (Below.refl _ _) 1) m6)) hlc (by omega)).mono ?_
      rintro e w7 ⟨rfl, HPP⟩
      refine ⟨_, rfl, ?_⟩
      refine hK.out _ _ ?_
      clear hK K
      refine norm_ (a' := ?_) ?_ ?_
      rotate_left
      · show Act.put _ (some 38) _ = _
        simp only [Act.put, List.setIfInBounds_toArray, List.set_cons_zero, List.set_cons_succ, i64_w, i32_w]
        rfl
      refine pure_ (i := 16) (N := some 22) (v := ?_) (a' := ?_) #[true, true, true, true, true, true, true, true, true, true, true, true, true, true, true, true, true, false, false, false, false] rfl rfl (by kernel_rfl) (fun _ _ _ h => h) (Or.inl ⟨by rfl, ?_⟩) ?_ ?_
      rotate_left
      · intro w'
        go_simp
        with_reducible rfl
      rotate_left
      · simp only [Act.put, List.setIfInBounds_toArray, List.set_cons_zero, List.set_cons_succ, i64_w, i32_w]
        rfl
      refine pure_ (i := 17) (N := some 39) (v := ?_) (a' := ?_) #[true, true, true, true, true, true, true, true, true, true, true, true, true, true, true, true, true, true, false, false, false] rfl rfl (by kernel_rfl) (fun _ _ _ h => h) (Or.inl ⟨by rfl, ?_⟩) ?_ ?_
      rotate_left
      · intro w'
        go_simp
        with_reducible rfl
      rotate_left
      · simp only [Act.put, List.setIfInBounds_toArray, List.set_cons_zero, List.set_cons_succ, i64_w, i32_w]
        rfl
      refine pure_ (i := 18) (N := some 40) (v := ?_) (a' := ?_) #[true, true, true, true, true, true, true, true, true, true, true, true, true, true, true, true, true, true, true, false, false] rfl rfl (by kernel_rfl) (fun _ _ _ h => h) (Or.inl ⟨by rfl, ?_⟩) ?_ ?_
      rotate_left
      · intro w'
        go_simp
        with_reducible rfl
      rotate_left
      · simp only [Act.put, List.setIfInBounds_toArray, List.set_cons_zero, List.set_cons_succ, i64_w, i32_w]
        rfl
      refine pure_ (i := 19) (N := some 6) (v := ?_) (a' := ?_) #[true, true, true, true, true, true, true, true, true, true, true, true, true, true, true, true, true, true, true, true, false] rfl rfl (by kernel_rfl) (fun _ _ _ h => h) (Or.inl ⟨by rfl, ?_⟩) ?_ ?_
      rotate_left
      · intro w'
        go_simp
        with_reducible rfl
      rotate_left
      · simp only [Act.put, List.setIfInBounds_toArray, List.set_cons_zero, List.set_cons_succ, i64_w, i32_w]
        rfl
      refine pure_ (i := 20) (N := some 7) (v := ?_) (a' := ?_) #[true, true, true, true, true, true, true, true, true, true, true, true, true, true, true, true, true, true, true, true, true] rfl rfl (by kernel_rfl) (fun _ _ _ h => h) (Or.inl ⟨by rfl, ?_⟩) ?_ ?_
      rotate_left
      · intro w'
        go_simp
        with_reducible rfl
      rotate_left
      · simp only [Act.put, List.setIfInBounds_toArray, List.set_cons_zero, List.set_cons_succ, i64_w, i32_w]
        rfl
      refine done_ (by kernel_rfl) ?_

      obtain ⟨t, ht1, ht2, ht3⟩ := putP_pre xs p ls
      generalize (putP xs p ls).2.1 = k at *
      generalize (putP xs p ls).2.2 = er at *
      have HPP' := HPP
      rw [ht1] at HPP'
      clear HPP ht1
      have hB7 := HPP'.below (HS4d.out.below (pw_below_drewN (Below.refl _ _) m6))
      have HB7 := Aside0.mk ((pw_below_drewN (pw_below_drewN HB4.out 1) m6).trans hB7)
      have HO7 := Aside0.mk (own_put (xs := xs) HPP' (pw_own_below HO4.out (pw_below_drewN (pw_below_drewN (Below.refl _ _) 1) m6)) HSL.out.1 HSL.out.2)
      obtain ⟨v7, hs7, -, -⟩ := HPP'
      have HS7 := Aside0.mk hs7
      have HT3 := Aside0.mk ht3
      clear hB7 hs7 HS4d HS4 HB4 HO4 HSL HRL ht3 hN hL hHeld
      have hxt : ((xs ++ t).length : Int) ≤ 200 * (j + 1) := by rw [List.length_append]; omega
      have hxt2 : xs.length ≤ (xs ++ t).length := by rw [List.length_append]; omega
      have hxt3 : er ≠ 0 → (xs ++ t).length = xs.length := fun h => by rw [HT3.out h, List.append_nil]
      have HTK := Aside0.mk (show (xs ++ t).take xs.length = xs by simp)
      have HX3 := Aside0.mk hxt3
      clear hxt3 HT3
      generalize xs ++ t = zs at *
      have hB7s := HB7.out.size
      go_wp2_with fail
      refine (all_at w2.heap.size s v7 zs w7 HS7.out (by omega)).mono ?_
      rintro e w8 ⟨u8, A8, c8, rfl, rfl, hl8, ho8, hb8⟩
      have HB8 := Aside0.mk (HB7.out.then' hb8 hB7s)
      have HS8 := Aside0.mk (HS7.out.below hb8)
      have HR8 := rd_of_own ho8
      have HR4 := Aside0.mk (Kd.C_below (rd_of_own HO7.out) hb8)
      obtain ⟨cut8, rd8, le8⟩ := print_take_of (P := Try.prog) (Value.int .i64) (0 : Int) 27 3 .i64 Try.underlying27 hi his A8 c8 zs xs.length (by omega) (by omega) hl8
      have HR8c := Aside0.mk (Rd.of (rd8 w8 HR8.ints))
      clear rd8 HR8 ho8 hb8 HB7 HS7 HO7
      rw [Int.toNat_natCast, HTK.out] at cut8 HR8c le8
      have z1 : decide ((zs.length : Int) < xs.length) = false := decide_eq_false (by omega)
      by_cases he : er = 0
      · have he1 : (er != 0) = false := bne_eq_false_iff_eq.mpr he
        have he2 : (er == 0) = true := beq_iff_eq.mpr he
        clear he
        go_wp2_with fail
        refine (same_any A8 c8 xs A4 c4 xs w8 HR8c.out le8 HR4.out hl4).mono ?_
        rintro e w9' ⟨rfl, ⟨m9, rfl⟩⟩
        have HB9 := Aside0.mk (pw_below_drewN HB8.out m9)
        have HS9 := Aside0.mk (HS8.out.below (pw_below_drewN (Below.refl _ _) m9))
        go_wp2
        go_roundg (gk - 1)
        case measure => have := hjk.out; omega
        case rel => exact ⟨j + 1, v7, zs, by first | rfl | simp, by omega, ⟨by have := hjk.out; omega⟩, hxt, HS9, HB9⟩
      · have he1 : (er != 0) = true := bne_iff_ne.mpr he
        have he2 : (er == 0) = false := beq_eq_false_iff_ne.mpr he
        have z2 : (zs.length == xs.length) = true := beq_iff_eq.mpr (HX3.out he)
        have z3 : ((zs.length : Int) != (xs.length : Int)) = false := bne_eq_false_iff_eq.mpr (by have := HX3.out he; omega)
        have z4 : (zs.length != xs.length) = false := bne_eq_false_iff_eq.mpr (HX3.out he)
        clear he
        go_wp2_with fail
        refine (same_any A8 c8 xs A4 c4 xs w8 HR8c.out le8 HR4.out hl4).mono ?_
        rintro e w9' ⟨rfl, ⟨m9, rfl⟩⟩
        have HB9 := Aside0.mk (pw_below_drewN HB8.out m9)
        have HS9 := Aside0.mk (HS8.out.below (pw_below_drewN (Below.refl _ _) m9))
        go_wp2
        go_roundg (gk - 1)
        case measure => have := hjk.out; omega
        case rel => exact ⟨j + 1, v7, zs, by first | rfl | simp, by omega, ⟨by have := hjk.out; omega⟩, hxt, HS9, HB9⟩
    · have q1b : decide (j < (acts.length : Int)) = false := decide_eq_false q1
      go_wp2
      go_ret
      exact ⟨rfl, HB2.out.then' HB.out HB2.out.size⟩
end Go.Proofs.Ythijcbihdkheoaa.G
