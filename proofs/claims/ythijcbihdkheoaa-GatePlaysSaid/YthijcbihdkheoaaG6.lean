/- The gate's release, and the sink and the gate side by side. -/
import Derived.Test.YthijcbihdkheoaaG5
namespace Go.Proofs.Ythijcbihdkheoaa.G
open Go.RowKit Go.Proofs.YthijcbihdkheoaaW.PrintWords Go.Proofs.YthijcbihdkheoaaW.PrintLast Go.Proofs.YthijcbihdkheoaaW.PrintMore
set_option linter.unusedSimpArgs false
set_option linter.unusedVariables false

/-- A sink and a gate that share no row. -/
structure Both (w : World) (B s g : Nat) (v u : Value) (xs : List Int) (next limit : Int) (ws : List Int) : Prop where
  sink : SinkAt w B s v xs
  gate : GateAt w B g u next limit ws
  sep : ∀ k, v.ownBlock = some k → u.ownBlock ≠ some k

theorem Both.ne {w : World} {B s g : Nat} {v u : Value} {xs : List Int} {next limit : Int} {ws : List Int} (h : Both w B s g v u xs next limit ws) : s ≠ g := blk_ne h.sink.blk h.gate.blk (by decide)
theorem Both.below {w w' : World} {B s g : Nat} {v u : Value} {xs : List Int} {next limit : Int} {ws : List Int} (h : Both w B s g v u xs next limit ws) (hb : Below w.heap.size w w') : Both w' B s g v u xs next limit ws :=
  ⟨h.sink.below hb, h.gate.below hb, h.sep⟩
theorem Both.base {w : World} {B s g : Nat} {v u : Value} {xs : List Int} {next limit : Int} {ws : List Int} (h : Both w B s g v u xs next limit ws) : B ≤ w.heap.size := by have := h.sink.ge; have := h.sink.lt; omega
theorem PutPost.both {w w' : World} {B s g : Nat} {v u : Value} {xs ys : List Int} {next limit : Int} {ws : List Int} (h : PutPost w B s v ys w') (hb : Both w B s g v u xs next limit ws) : ∃ v', Both w' B s g v' u ys next limit ws := by
  obtain ⟨v', hs, ht, hv⟩ := h
  refine ⟨v', hs, hb.gate.turn ht ?_ ?_, fun k hk hk' => ?_⟩
  · rintro (h | h)
    · exact hb.ne h.symm
    · exact own_ne hb.sink.own hb.gate.blk (by decide) h
  · rintro k hk (h | h)
    · subst h
      exact own_ne hb.gate.own hb.sink.blk (by decide) hk.symm
    · exact hb.sep k h.symm hk
  · rcases hv with hv | ⟨b, hv, hlt⟩
    · exact hb.sep k (hv ▸ hk) hk'
    · have := own_lt hb.gate.own k hk'
      rw [hv] at hk
      injection hk with hk
      omega
theorem OfferPost.both {w w' : World} {B s g : Nat} {v u : Value} {xs : List Int} {next limit : Int} {ws ws' : List Int} (h : OfferPost w B g u next limit ws' w') (hb : Both w B s g v u xs next limit ws) : (∃ u', Both w' B s g v u' xs next limit ws') ∧ Below B w w' := by
  obtain ⟨u', hs, ht, hv⟩ := h
  refine ⟨⟨u', hb.sink.turn ht ?_ ?_, hs, fun k hk hk' => ?_⟩, below_of_turn ht (fun k hk => ?_) hb.base⟩
  · rintro (h | h)
    · exact hb.ne h
    · exact own_ne hb.gate.own hb.sink.blk (by decide) h
  · rintro k hk (h | h)
    · subst h
      exact own_ne hb.sink.own hb.gate.blk (by decide) hk.symm
    · exact hb.sep k hk h.symm
  · rcases hv with hv | ⟨b, hv, hlt⟩
    · exact hb.sep k hk (hv ▸ hk')
    · have := own_lt hb.sink.own k hk
      rw [hv] at hk'
      injection hk' with hk'
      omega
  · rcases hk with rfl | hk
    · exact hb.gate.ge
    · exact own_base hb.gate.own k hk.symm

theorem next_at (B g : Nat) (v : Value) (next limit : Int) (ws : List Int) (w : World) (hg : GateAt w B g v next limit ws) (hl : 1 ≤ limit) :
    Calls Try.prog 22 #[.pointer (some ⟨g, 0, none⟩)] w fun e w' => e = .returned (.int .i64 next) ∧ w = w' := by
  have h0 : w.cell? ⟨g, 0, none⟩ = some (.int .i64 next) := (blk_cell hg.blk 0).trans rfl
  have HG := Lib.hid (gis_any g _ next limit w hl hg.blk)
  clear hg
  go_enter Try.func22, Try.ntmps22
  go_wp2_with fail
  refine HG.out.mono ?_
  rintro e w' ⟨rfl, rfl⟩
  go_wp2
  go_ret
  exact ⟨rfl, rfl⟩
theorem limit_at (B g : Nat) (v : Value) (next limit : Int) (ws : List Int) (w : World) (hg : GateAt w B g v next limit ws) (hl : 1 ≤ limit) :
    Calls Try.prog 23 #[.pointer (some ⟨g, 0, none⟩)] w fun e w' => e = .returned (.int .i64 limit) ∧ w = w' := by
  have h0 : w.cell? ⟨g, 1, none⟩ = some (.int .i64 limit) := (blk_cell hg.blk 1).trans rfl
  have HG := Lib.hid (gis_any g _ next limit w hl hg.blk)
  clear hg
  go_enter Try.func23, Try.ntmps23
  go_wp2_with fail
  refine HG.out.mono ?_
  rintro e w' ⟨rfl, rfl⟩
  go_wp2
  go_ret
  exact ⟨rfl, rfl⟩
theorem goes_at (g : Nat) (v : Value) (next limit n : Int) (w : World) (hb : w.heap[g]? = some (.cells #[.int .i64 next, .int .i64 limit, v] 52 (0, 0))) :
    Calls Try.prog 30 #[.pointer (some ⟨g, 0, none⟩), .int .i64 n] w fun e w' => e = .returned (.tuple #[]) ∧ w' = w.setCell ⟨g, 0, none⟩ (.int .i64 (wrap64 (next + n))) := by
  have h0 : w.cell? ⟨g, 0, none⟩ = some (.int .i64 next) := (blk_cell hb 0).trans rfl
  have hfz := blk_frozen hb 0
  clear hb
  go_enter Try.func30, Try.ntmps30
  go_wp2
  exact bodyPost_end (v := .tuple #[]) (by simp [results, Try.f30]) rfl ⟨rfl, rfl⟩
theorem release_bad (B g : Nat) (v sv : Value) (next limit : Int) (ws : List Int) (n : Int) (w : World) (hg : GateAt w B g v next limit ws) (hl : 1 ≤ limit) (hn : n < 0 ∨ ¬ n < 0 ∧ (ws.length : Int) < n) :
    Calls Try.prog 21 #[.pointer (some ⟨g, 0, none⟩), .int .i64 n, sv] w fun e w' => e = .returned (.tuple #[.int .i64 0, .int .i64 2]) ∧ w = w' := by
  obtain ⟨A, c, rfl, _, hr⟩ := own_rd hg.own
  have h2 : w.cell? ⟨g, 2, none⟩ = some (.slice A ws.length c) := (blk_cell hg.blk 2).trans rfl
  have HG := Lib.hid (gis_any g _ next limit w hl hg.blk)
  clear hg hr
  rcases hn with h | ⟨h, h3⟩
  · have hb : decide (n < 0) = true := decide_eq_true h
    go_enter Try.func21, Try.ntmps21
    go_wp2_with fail
    refine HG.out.mono ?_
    rintro e w' ⟨rfl, rfl⟩
    go_wp2
    go_ret2
    exact ⟨rfl, rfl⟩
  · have hb : decide (n < 0) = false := decide_eq_false h
    have hb2 : decide ((ws.length : Int) < n) = true := decide_eq_true h3
    go_enter Try.func21, Try.ntmps21
    go_wp2_with fail
    refine HG.out.mono ?_
    rintro e w' ⟨rfl, rfl⟩
    go_wp2
    go_ret2
    exact ⟨rfl, rfl⟩
set_option maxRecDepth 100000 in
theorem release_at (B s g : Nat) (v u : Value) (xs : List Int) (next limit : Int) (ws : List Int) (n : Int) (ys : List Int) (k er : Int) (w : World) (hb : Both w B s g v u xs next limit ws) (hl : 1 ≤ limit) (hn0 : 0 ≤ n) (hn1 : n ≤ ws.length)
    (hsz : (xs.length + ws.length) * 8 ≤ 140737488355328) (hp : putP xs next (ws.take n.toNat) = (ys, k, er)) :
    Calls Try.prog 21 #[.pointer (some ⟨g, 0, none⟩), .int .i64 n, .pointer (some ⟨s, 0, none⟩)] w fun e w' => e = .returned (.tuple #[.int .i64 k, .int .i64 er]) ∧ Below B w w' ∧
      ((er = 0 ∧ ∃ v' u', Both w' B s g v' u' ys (wrap64 (next + n)) limit (ws.drop n.toNat)) ∨ (er ≠ 0 ∧ ∃ v', Both w' B s g v' u ys next limit ws)) := by
  obtain ⟨A, c, rfl, hwc, hr⟩ := own_rd hb.gate.own
  have h0 : w.cell? ⟨g, 0, none⟩ = some (.int .i64 next) := (blk_cell hb.gate.blk 0).trans rfl
  have h2 : w.cell? ⟨g, 2, none⟩ = some (.slice A ws.length c) := (blk_cell hb.gate.blk 2).trans rfl
  obtain ⟨i, hi, his⟩ := info3'
  have hwl := hr.2.1
  obtain ⟨cutA, rdA, leA⟩ := print_take_of (P := Try.prog) (Value.int .i64) (0 : Int) 27 3 .i64 Try.underlying27 hi his A c ws n hn0 hn1 hwc
  obtain ⟨A3, cut3, rd3, le3⟩ := print_drop_of (P := Try.prog) (Value.int .i64) (0 : Int) 27 3 .i64 Try.underlying27 hi his A c ws n hn0 hn1 hwc
  have HT := Aside0.mk (Rd.of (rdA w hr.ints))
  skip
  have HG := Lib.hid (gis_any g _ next limit w hl hb.gate.blk)
  have HS := Aside0.mk hb.sink
  have HP := Aside0.mk hp
  have HB := Aside0.mk hb
  have hlt0 : (ws.take n.toNat).length ≤ ws.length := by rw [List.length_take]; omega
  have hct := leA
  have hlt : (xs.length + (ws.take n.toNat).length) * 8 ≤ 140737488355328 := by omega
  have hld : (ws.drop n.toNat).length * 8 ≤ 140737488355328 := by rw [List.length_drop]; omega
  clear rdA hp hr hb leA hlt0
  generalize ws.take n.toNat = lt at *
  generalize hdl : ws.drop n.toNat = ld at *
  have d1 : decide (n < 0) = false := decide_eq_false (by omega)
  have d2 : decide ((ws.length : Int) < n) = false := decide_eq_false (by omega)
  go_enter Try.func21, Try.ntmps21
  go_wp2_with fail
  refine HG.out.mono ?_
  rintro e w' ⟨rfl, rfl⟩
  go_wp2_with fail
  refine start_ (n := 18) (S := fun w' => w'.cell? ⟨g, 0, none⟩ = some (.int .i64 next) ∧ w'.cell? ⟨g, 2, none⟩ = some (.slice A ws.length c)) (ds := [12]) #[false, false, false, false, false, false, false, false, false, false, false, false, false, false, false, false, false, false] (by kernel_rfl) rfl rfl ⟨h0, h2⟩ (fun hHeld => ?_)
  refine pure_ (i := 0) (N := some 27) (v := ?_) (a' := ?_) #[true, false, false, false, false, false, false, false, false, false, false, false, false, false, false, false, false, false] rfl rfl (by kernel_rfl) (fun _ _ _ h => h) (Or.inl ⟨by rfl, ?_⟩) ?_ ?_
  rotate_left
  · intro w'
    go_simp
    with_reducible rfl
  rotate_left
  · simp only [Act.put, List.setIfInBounds_toArray, List.set_cons_zero, List.set_cons_succ, i64_w, i32_w]
    rfl
  refine pure_ (i := 1) (N := some 28) (v := ?_) (a' := ?_) #[true, true, false, false, false, false, false, false, false, false, false, false, false, false, false, false, false, false] rfl rfl (by kernel_rfl) (fun _ _ _ h => h) (Or.inl ⟨by rfl, ?_⟩) ?_ ?_
  rotate_left
  · intro w'
    go_simp
    with_reducible rfl
  rotate_left
  · simp only [Act.put, List.setIfInBounds_toArray, List.set_cons_zero, List.set_cons_succ, i64_w, i32_w]
    rfl
  refine pure_ (i := 2) (N := some 29) (v := ?_) (a' := ?_) #[true, true, true, false, false, false, false, false, false, false, false, false, false, false, false, false, false, false] rfl rfl (by kernel_rfl) (fun _ _ _ h => h) (Or.inl ⟨by rfl, ?_⟩) ?_ ?_
  rotate_left
  · intro w'
    go_simp
    with_reducible rfl
  rotate_left
  · simp only [Act.put, List.setIfInBounds_toArray, List.set_cons_zero, List.set_cons_succ, i64_w, i32_w]
    rfl
  refine pure_ (i := 3) (N := some 30) (v := ?_) (a' := ?_) #[true, true, true, true, false, false, false, false, false, false, false, false, false, false, false, false, false, false] rfl rfl (by kernel_rfl) (fun _ _ _ h => h) (Or.inl ⟨by rfl, ?_⟩) ?_ ?_
  rotate_left
  · intro w'
    go_simp
    with_reducible rfl
  rotate_left
  · simp only [Act.put, List.setIfInBounds_toArray, List.set_cons_zero, List.set_cons_succ, i64_w, i32_w]
    rfl
  refine pure_ (i := 4) (N := some 31) (v := ?_) (a' := ?_) #[true, true, true, true, true, false, false, false, false, false, false, false, false, false, false, false, false, false] rfl rfl (by kernel_rfl) (fun _ _ _ h => h) (Or.inl ⟨by rfl, ?_⟩) ?_ ?_
  rotate_left
  · intro w'
    go_simp
    with_reducible rfl
  rotate_left
  · simp only [Act.put, List.setIfInBounds_toArray, List.set_cons_zero, List.set_cons_succ, i64_w, i32_w]
    rfl
  refine pure_ (i := 6) (N := some 33) (v := ?_) (a' := ?_) #[true, true, true, true, true, false, true, false, false, false, false, false, false, false, false, false, false, false] rfl rfl (by kernel_rfl) (fun _ _ _ h => h) (Or.inl ⟨by rfl, ?_⟩) ?_ ?_
  rotate_left
  · intro w'
    go_simp
    with_reducible rfl
  rotate_left
  · simp only [Act.put, List.setIfInBounds_toArray, List.set_cons_zero, List.set_cons_succ, i64_w, i32_w]
    rfl
  refine pure_ (i := 7) (N := some 34) (v := ?_) (a' := ?_) #[true, true, true, true, true, false, true, true, false, false, false, false, false, false, false, false, false, false] rfl rfl (by kernel_rfl) (fun _ _ _ h => h) (Or.inl ⟨by rfl, ?_⟩) ?_ ?_
  rotate_left
  · intro w'
    go_simp
    with_reducible rfl
  rotate_left
  · simp only [Act.put, List.setIfInBounds_toArray, List.set_cons_zero, List.set_cons_succ, i64_w, i32_w]
    rfl
  refine pure_ (i := 8) (N := some 35) (v := ?_) (a' := ?_) #[true, true, true, true, true, false, true, true, true, false, false, false, false, false, false, false, false, false] rfl rfl (by kernel_rfl) (fun _ _ _ h => h) (Or.inl ⟨by rfl, ?_⟩) ?_ ?_
  rotate_left
  · intro w'
    go_simp
    with_reducible rfl
  rotate_left
  · simp only [Act.put, List.setIfInBounds_toArray, List.set_cons_zero, List.set_cons_succ, i64_w, i32_w]
    rfl
  refine pure_ (i := 10) (N := some 37) (v := ?_) (a' := ?_) #[true, true, true, true, true, false, true, true, true, false, true, false, false, false, false, false, false, false] rfl rfl (by kernel_rfl) (fun _ _ _ h => h) (Or.inl ⟨by rfl, ?_⟩) ?_ ?_
  rotate_left
  · intro w'
    go_simp
    with_reducible rfl
  rotate_left
  · simp only [Act.put, List.setIfInBounds_toArray, List.set_cons_zero, List.set_cons_succ, i64_w, i32_w]
    rfl
  refine take_ (i := 5) (N := some 32) (v := ?_) (a' := ?_) #[true, true, true, true, true, true, true, true, true, false, true, false, false, false, false, false, false, false] rfl rfl (by kernel_rfl) (fun _ _ _ h => h) (Or.inl ⟨by rfl, ?_⟩) hHeld ?_ ?_
  rotate_left
  · rintro w' ⟨s0, s1⟩
    go_simp
    with_reducible rfl
  rotate_left
  · simp only [Act.put, List.setIfInBounds_toArray, List.set_cons_zero, List.set_cons_succ, i64_w, i32_w]
    rfl
  refine take_ (i := 9) (N := some 36) (v := ?_) (a' := ?_) #[true, true, true, true, true, true, true, true, true, true, true, false, false, false, false, false, false, false] rfl rfl (by kernel_rfl) (fun _ _ _ h => h) (Or.inl ⟨by rfl, ?_⟩) hHeld ?_ ?_
  rotate_left
  · rintro w' ⟨s0, s1⟩
    go_simp
    with_reducible rfl
  rotate_left
  · simp only [Act.put, List.setIfInBounds_toArray, List.set_cons_zero, List.set_cons_succ, i64_w, i32_w]
    rfl
  refine pure_ (i := 11) (N := some 38) (v := ?_) (a' := ?_) #[true, true, true, true, true, true, true, true, true, true, true, true, false, false, false, false, false, false] rfl rfl (by kernel_rfl) (fun _ _ _ h => h) (Or.inl ⟨by rfl, ?_⟩) ?_ ?_
  rotate_left
  · intro w'
    go_simp
    with_reducible rfl
  rotate_left
  · simp only [Act.put, List.setIfInBounds_toArray, List.set_cons_zero, List.set_cons_succ, i64_w, i32_w]
    rfl
  refine last_ (i := 12) (N := some 39) #[true, true, true, true, true, true, true, true, true, true, true, true, true, false, false, false, false, false] rfl rfl (by kernel_rfl) (by decide) (fun K hK => ?_)
  refine goes_ Try.func13 (by kernel_rfl) rfl #[.pointer (some ⟨s, 0, none⟩), .int .i64 next, .slice A lt.length c] (by rfl) rfl rfl (by simp only [List.map_toArray, List.map_cons, List.map_nil]; rfl) ?_
  with_reducible refine (put_to B s v xs next A c lt.length lt ys k er w.drew (HS.out.below (pw_below_drewN (Below.refl _ _) 1)) rfl (Kd.C_below HT.out (pw_below_drewN (Below.refl _ _) 1)) hct hlt HP.out).mono ?_
  rintro e w3 ⟨rfl, HPP⟩
  refine ⟨_, rfl, ?_⟩
  refine hK.out _ _ ?_
  clear hK K
  refine norm_ (a' := ?_) ?_ ?_
  rotate_left
  · show Act.put _ (some 39) _ = _
    simp only [Act.put, List.setIfInBounds_toArray, List.set_cons_zero, List.set_cons_succ, i64_w, i32_w]
    rfl
  refine pure_ (i := 13) (N := some 26) (v := ?_) (a' := ?_) #[true, true, true, true, true, true, true, true, true, true, true, true, true, true, false, false, false, false] rfl rfl (by kernel_rfl) (fun _ _ _ h => h) (Or.inl ⟨by rfl, ?_⟩) ?_ ?_
  rotate_left
  · intro w'
    go_simp
    with_reducible rfl
  rotate_left
  · simp only [Act.put, List.setIfInBounds_toArray, List.set_cons_zero, List.set_cons_succ, i64_w, i32_w]
    rfl
  refine pure_ (i := 14) (N := some 40) (v := ?_) (a' := ?_) #[true, true, true, true, true, true, true, true, true, true, true, true, true, true, true, false, false, false] rfl rfl (by kernel_rfl) (fun _ _ _ h => h) (Or.inl ⟨by rfl, ?_⟩) ?_ ?_
  rotate_left
  · intro w'
    go_simp
    with_reducible rfl
  rotate_left
  · simp only [Act.put, List.setIfInBounds_toArray, List.set_cons_zero, List.set_cons_succ, i64_w, i32_w]
    rfl
  refine pure_ (i := 15) (N := some 41) (v := ?_) (a' := ?_) #[true, true, true, true, true, true, true, true, true, true, true, true, true, true, true, true, false, false] rfl rfl (by kernel_rfl) (fun _ _ _ h => h) (Or.inl ⟨by rfl, ?_⟩) ?_ ?_
  rotate_left
  · intro w'
    go_simp
    with_reducible rfl
  rotate_left
  · simp only [Act.put, List.setIfInBounds_toArray, List.set_cons_zero, List.set_cons_succ, i64_w, i32_w]
    rfl
  refine pure_ (i := 16) (N := some 8) (v := ?_) (a' := ?_) #[true, true, true, true, true, true, true, true, true, true, true, true, true, true, true, true, true, false] rfl rfl (by kernel_rfl) (fun _ _ _ h => h) (Or.inl ⟨by rfl, ?_⟩) ?_ ?_
  rotate_left
  · intro w'
    go_simp
    with_reducible rfl
  rotate_left
  · simp only [Act.put, List.setIfInBounds_toArray, List.set_cons_zero, List.set_cons_succ, i64_w, i32_w]
    rfl
  refine pure_ (i := 17) (N := some 9) (v := ?_) (a' := ?_) #[true, true, true, true, true, true, true, true, true, true, true, true, true, true, true, true, true, true] rfl rfl (by kernel_rfl) (fun _ _ _ h => h) (Or.inl ⟨by rfl, ?_⟩) ?_ ?_
  rotate_left
  · intro w'
    go_simp
    with_reducible rfl
  rotate_left
  · simp only [Act.put, List.setIfInBounds_toArray, List.set_cons_zero, List.set_cons_succ, i64_w, i32_w]
    rfl
  refine done_ (by kernel_rfl) ?_

  have HB3 := Aside0.mk (HPP.both (w := w.drew) (HB.out.below (pw_below_drewN (Below.refl _ _) 1)))
  have HBL := Aside0.mk (show Below B w w3 from (pw_below_drewN (Below.refl _ _) 1 : Below B w w.drew).trans (HPP.below (HS.out.below (pw_below_drewN (Below.refl _ _) 1))))
  by_cases he : er = 0
  · have he1 : (er == 0) = true := beq_iff_eq.mpr he
    obtain ⟨v3, hb3⟩ := HB3.out
    have HGO := Lib.hid (goes_at g _ next limit n w3 hb3.gate.blk)
    go_wp2_with fail
    refine HGO.out.mono ?_
    rintro e w4 ⟨rfl, rfl⟩
    have hbk4 := blk_set hb3.gate.blk 0 (.int .i64 (wrap64 (next + n)))
    have hb4' := hbk4
    simp only [List.setIfInBounds_toArray, List.set_cons_zero, List.set_cons_succ] at hb4'
    have h24 : (w3.setCell ⟨g, 0, none⟩ (.int .i64 (wrap64 (next + n)))).cell? ⟨g, 2, none⟩ = some (.slice A ws.length c) := (blk_cell hb4' 2).trans rfl
    have hneg : some g ≠ (Value.slice A ws.length c).ownBlock := own_ne hb3.gate.own hb3.gate.blk (by decide)
    have hnes : some g ≠ v3.ownBlock := own_ne hb3.sink.own hb3.gate.blk (by decide)
    have HB4 : Both (w3.setCell ⟨g, 0, none⟩ (.int .i64 (wrap64 (next + n)))) B s g v3 (.slice A ws.length c) ys (wrap64 (next + n)) limit ws :=
      ⟨⟨blk_far hb3.sink.blk hb3.ne _, hb3.sink.ge, own_setCell hb3.sink.own hnes _⟩, ⟨hb4', hb3.gate.ge, own_setCell hb3.gate.own hneg _⟩, hb3.sep⟩
    have HR4 : Rd (w3.setCell ⟨g, 0, none⟩ (.int .i64 (wrap64 (next + n)))) A ws := by
      obtain ⟨A', c', he', _, h⟩ := own_rd HB4.gate.own
      injection he' with he' _ _
      subst he'
      exact h
    have HBL4 : Below B w (w3.setCell ⟨g, 0, none⟩ (.int .i64 (wrap64 (next + n)))) := HBL.out.trans ⟨rfl, rfl, rfl, by simp [World.setCell], fun k hk => Below.heap_setCell _ _ _ _ (by have := hb3.gate.ge; simp; omega)⟩
    have HB4' := Aside0.mk HB4
    have HR4' := Aside0.mk HR4
    have HBL4' := Aside0.mk HBL4
    clear HB4 HR4 HBL4 hbk4 hb4' hb3 HGO HB3 HBL
    generalize w3.setCell ⟨g, 0, none⟩ (.int .i64 (wrap64 (next + n))) = w4 at *
    have HD4 := Aside0.mk (Rd.of (rd3 w4 HR4'.out.ints))
    have HC := Lib.hid (clone_any A3 (c - n.toNat) ld w4 HD4.out hld)
    go_wp2_with fail
    refine HC.out.mono ?_
    rintro e w5 ⟨u5, rfl, ho5, hb5⟩
    have hb5' := HB4'.out.below hb5
    have hbk5 := hb5'.gate.blk
    have hfz5 := blk_frozen hbk5 2
    have h25 : w5.cell? ⟨g, 2, none⟩ = some (.slice A ws.length c) := (blk_cell hbk5 2).trans rfl
    have hn5 : some g ≠ u5.ownBlock := own_ne ho5 hbk5 (by decide)
    have hns5 : some g ≠ v3.ownBlock := own_ne hb5'.sink.own hbk5 (by decide)
    have hlt5 := hb5.size
    obtain ⟨A5, c5, rfl, -, -⟩ := own_rd ho5
    have hB4 := HB4'.out.base
    go_wp2_with fail
    go_ret2
    refine ⟨by rw [he]; rfl, ?_, .inl ⟨he, v3, _, ⟨⟨blk_far hb5'.sink.blk hb5'.ne _, hb5'.sink.ge, own_setCell hb5'.sink.own hns5 _⟩, ⟨by simpa using blk_set hbk5 2 _, hb5'.gate.ge, own_setCell (own_weaken ho5 hB4) hn5 _⟩, fun k hk hk' => ?_⟩⟩⟩
    · exact (HBL4'.out.trans (below_then (Below.refl B w4) hB4 hb5)).trans ⟨rfl, rfl, rfl, by simp [World.setCell], fun k hk => Below.heap_setCell _ _ _ _ (by have := hb5'.gate.ge; simp; omega)⟩
    · have h1 := own_base ho5 k hk'
      have h2 := own_lt HB4'.out.sink.own k hk
      omega
  · have he1 : (er == 0) = false := beq_eq_false_iff_ne.mpr he
    go_wp2
    go_ret2
    exact ⟨rfl, HBL.out, .inr ⟨he, HB3.out⟩⟩
end Go.Proofs.Ythijcbihdkheoaa.G
