/- slices.Repeat of one element: what a call comes to. -/
import Derived.Test.YticpjpacoeecmaaH1
import Derived.Test.YticpjpacoeecmaaAx15
import Derived.Deep.RegionLaw
namespace Go.Proofs.Yticpjpacoeecmaa.A.P
open Go.RowKit Go.Proofs.YticpjpacoeecmaaW.PrintWords Go.Proofs.YticpjpacoeecmaaW.PrintLast Go.Proofs.YticpjpacoeecmaaW.PrintMore Go.Proofs.Yticpjpacoeecmaa.C
set_option linter.unusedVariables false
set_option linter.unusedSimpArgs false
theorem wrap_u64 (n : Int) : IntKind.u64.wrap n = n % 18446744073709551616 := by simp [IntKind.wrap, IntKind.bits, IntKind.signed]
theorem u64_and (x : Int) (h0 : 0 ≤ x) (h1 : x < 18446744073709551616) : Go.bits .and .u64 x 4294967295 = x % 4294967296 :=
  bits_mask .u64 64 (by decide) (fun n h0 h1 => by rw [wrap_u64]; omega) 32 (by decide) x h0 h1
theorem mul_one_f (c : Nat) (hc : c ≤ 65536) : bits_Mul.f 1 (c : Int) = some (0, (c : Int)) := by
  unfold bits_Mul.f bits_Mul64.f
  rw [u64_and 1 (by omega) (by omega), u64_and (c : Int) (by omega) (by omega)]
  have e1 : (1 : Int) / 4294967296 = 0 := by decide
  have e2 : (c : Int) / 4294967296 = 0 := by omega
  have e3 : (c : Int) % 4294967296 = c := by omega
  have e4 : (1 : Int) % 4294967296 = 1 := by decide
  rw [e1, e2, e3, e4]
  simp only [Int.zero_mul, Int.one_mul, Int.mul_zero, wrap_u64]
  have e5 : (c : Int) % 18446744073709551616 = c := by omega
  simp only [e5, e2, Int.zero_emod, Int.add_zero, Int.zero_add]
  have e6 : Go.bits .and .u64 0 4294967295 = 0 := by rw [u64_and 0 (by omega) (by omega)]; rfl
  simp only [e6]
  rfl
/-- n times two cells. -/
def rr (a b : Value) : Nat → List Value
  | 0 => []
  | n + 1 => a :: b :: rr a b n
theorem rr_len (a b : Value) : ∀ n, (rr a b n).length = n * 2
  | 0 => rfl
  | n + 1 => by simp [rr, rr_len a b n]; omega
theorem rr_add (a b : Value) (m : Nat) : ∀ n, rr a b (n + m) = rr a b n ++ rr a b m
  | 0 => by simp [rr]
  | n + 1 => by rw [show n + 1 + m = (n + m) + 1 by omega]; simp [rr, rr_add a b m n]
theorem rr_one {a b : Value} (ha : a.oneCell' = true) (hb : b.oneCell' = true) : ∀ n, ∀ u ∈ rr a b n, u.oneCell' = true
  | 0, u, hu => by simp [rr] at hu
  | n + 1, u, hu => by
    simp only [rr, List.mem_cons] at hu
    rcases hu with rfl | rfl | hu
    · exact ha
    · exact hb
    · exact rr_one ha hb n u hu
theorem rr_reps {R : S24 → List Value → Prop} {x : S24} {a b : Value} (h : R x [a, b]) : ∀ n, Reps R 2 (List.replicate n x) (rr a b n)
  | 0 => Reps.none _ _
  | n + 1 => by
    have := (rr_reps h n).snoc h rfl
    rw [List.replicate_succ', rr_add a b 1 n]
    exact this
/-- The row behind n rounds: n elements, and the rest as it was made. -/
def stage (a b : Value) (Z : List Value) (n : Nat) : List Value := rr a b n ++ Z.drop (n * 2)
theorem stage_len {a b : Value} {Z : List Value} {c n : Nat} (hZ : Z.length = c * 2) (h : n ≤ c) : (stage a b Z n).length = c * 2 := by
  unfold stage
  rw [List.length_append, rr_len, List.length_drop]
  omega
theorem stage_next {a b : Value} {Z : List Value} {c n m : Nat} (hZ : Z.length = c * 2) (h : n + m ≤ c) : laidAt (stage a b Z n) (n * 2) (rr a b m) = stage a b Z (n + m) := by
  unfold laidAt stage
  rw [List.take_left' (rr_len a b n), rr_len, rr_add, List.drop_append, List.drop_of_length_le (by rw [rr_len]; omega), rr_len, List.nil_append, List.drop_drop]
  congr 2
  omega
theorem stage_read {a b : Value} {Z : List Value} {n m j : Nat} {v : Value} (h : m ≤ n) (hj : (rr a b m)[j]? = some v) : (stage a b Z n)[j]? = some v := by
  have hjl : j < (rr a b m).length := (List.getElem?_eq_some_iff.1 hj).1
  have e : rr a b n = rr a b m ++ rr a b (n - m) := by rw [← rr_add, show m + (n - m) = n by omega]
  unfold stage
  rw [e, List.append_assoc, List.getElem?_append_left hjl]
  exact hj
theorem stage_zero {a b : Value} {Z : List Value} : stage a b Z 0 = Z := by simp [stage, rr]
theorem stage_all {a b : Value} {Z : List Value} {c : Nat} (hZ : Z.length = c * 2) : stage a b Z c = rr a b c := by
  unfold stage
  rw [List.drop_of_length_le (by omega), List.append_nil]
section
variable {P : Program}
/-- The copy as one step of a region that draws its order. -/
theorem step_copy_sz {ops : Array Oper} {o : Oper} {a : Act} {w : World} {K : Act → World → Prop} {Q : Exit → Act → World → Prop} {E : Prop} (hgd : o.guard = none) (d s : Operand) (dT sT : TypeId)
    (ho : o.op = .call { callee := .builtin .copy, args := #[d, s], argTypes := #[dT, sT] }) (elem : TypeId) (S : Nat) (hu : P.underlying dT = some (.slice elem)) (hsz : (P.info? elem).map (·.size) = some S)
    (dLen dCap sLen sCap : Nat) (ad : Addr) (g off : Nat) (hd : a.eval d = .slice (some ⟨g, off, none⟩) dLen dCap) (hs : a.eval s = .slice (some ad) sLen sCap)
    (cur : List Value) (t : TypeId) (hg : w.heap[g]? = some (.cells cur.toArray t (0, 0))) (m : Nat) (hm : Nat.min sLen dLen = m) (cs : List Value) (hn : cs.length = m * S)
    (hsrc : ∀ j v, cs[j]? = some v → w.cell? (ad.add j) = some v) (hfit : off + cs.length ≤ cur.length) (h1 : ∀ v ∈ cs, v.oneCell' = true)
    (h : ∀ w', Aside0 (w'.heap[g]? = some (.cells (laidAt cur off cs).toArray t (0, 0))) → Aside0 (w.grownBy w' (some g)) → K (a.put o.dst (goInt m)) w') :
    if Region.wanted o (yielded ops a.tmps) = true then Oper.wp P o a w K Q else E := by
  subst hm
  have hw : Region.wanted o (yielded ops a.tmps) = true := by simp [Region.wanted, hgd]
  rw [if_pos hw]
  have hrun := run_copy_sz (P := P) w dT sT o.type elem S g off dLen dCap ad sLen sCap cur.toArray t cs hu hsz hg hn hsrc (by simpa using hfit) h1
  have h2 := h (w.setRow g (cur.toArray.toList.take off ++ cs ++ cur.toArray.toList.drop (off + cs.length)).toArray) ⟨by simpa [laidAt] using setRow_heap w g _ _ t _ hg⟩
    ⟨⟨rfl, rfl, rfl, by simp [World.setRow], fun k hk hne => setRow_other w g k _ (fun e => hne (by rw [e]))⟩⟩
  unfold Oper.wp
  simp only [execOp, ho, resolve, invoke, builtin, List.map_toArray, List.map_cons, List.map_nil, Sem.run_bind, Sem.run_pure, Result.andThen_ok, hd, hs, hrun]
  exact h2
end
set_option maxHeartbeats 8000000 in
set_option maxRecDepth 100000 in
theorem repeat_any' (ad : Addr) (kd nn : Int) (c c0 : Nat) (w : World) (hc : c ≤ 65536) (h0 : w.cell? (ad.add 0) = some (.int .i64 kd)) (h1 : w.cell? (ad.add 1) = some (.int .i64 nn)) :
    Calls Try.prog 42 #[.slice (some ad) 1 c0, .int .i64 (c : Int)] w fun e w' => ∃ g, e = .returned (.slice (some ⟨g, 0, none⟩) c c) ∧ w.heap.size ≤ g ∧ w'.heap[g]? = some (.cells (rr (.int .i64 kd) (.int .i64 nn) c).toArray 24 (0, 0)) ∧ Below w.heap.size w w' := by
  obtain ⟨i0, hi, hz0, hz1, hz2⟩ := info_parts info24
  have hmk : ∀ W : World, (Instr.makeSlice 38 (.int .i64 (c : Int)) (.int .i64 (c : Int))).run Try.prog W = .ok (.slice (some ⟨W.heap.size, 0, none⟩) c c) (W.alloc (.cells (madeCells (.agg #[(.int .i64 0), (.int .i64 0)] : Value).cells (c * 2)) 24)) := by
    intro W
    have h := run_make (P := Try.prog) W 38 24 i0 _ Try.underlying38 hi hz0 .i64 .i64 (c : Int) (c : Int) (by omega) (by omega) (by rw [hz2]; omega) (by omega)
    rw [hz1] at h
    simpa using h
  obtain ⟨zs, hzs⟩ : ∃ zs : List Value, Aside0 (madeCells (.agg #[(.int .i64 0), (.int .i64 0)] : Value).cells (c * 2) = zs.toArray) := ⟨(madeCells (.agg #[(.int .i64 0), (.int .i64 0)] : Value).cells (c * 2)).toList, ⟨by simp⟩⟩
  have HZ : Aside0 (zs.length = c * 2) := ⟨by have h := size_madeCells (.agg #[(.int .i64 0), (.int .i64 0)] : Value).cells (c * 2); rw [hzs.out] at h; simpa using h⟩
  simp only [hzs.out] at hmk
  have HMUL := Lib.hid (fun w' => bits_Mul.calls 1 (c : Int) 0 (c : Int) w' (mul_one_f c hc))
  have H0 := Aside0.mk h0
  have H1 := Aside0.mk h1
  have hcu : IntKind.u64.wrap (c : Int) = (c : Int) := by rw [wrap_u64]; omega
  have hci : IntKind.i64.wrap (c : Int) = (c : Int) := by rw [IntKind.wrap_i64]; omega
  clear h0 h1 hi hz0 hz1 hz2
  go_enter Try.func42, Try.ntmps42
  go_wp2_with fail
  refine (HMUL.out _).mono ?_
  rintro e w1 ⟨rfl, ⟨m1, rfl⟩⟩
  have HA0 := Aside0.mk (show ∀ o : Obj, ((w.drewN m1).alloc o).cell? (ad.add 0) = some (.int .i64 kd) from fun o => pw_cell_below (below_alloc (pw_below_drewN (Below.refl _ _) _) _) H0.out)
  have HA1 := Aside0.mk (show ∀ o : Obj, ((w.drewN m1).alloc o).cell? (ad.add 1) = some (.int .i64 nn) from fun o => pw_cell_below (below_alloc (pw_below_drewN (Below.refl _ _) _) _) H1.out)
  have HBA := Aside0.mk (show ∀ o : Obj, Below w.heap.size w ((w.drewN m1).alloc o) from fun o => below_alloc (pw_below_drewN (Below.refl _ _) _) _)
  have HBN := Aside0.mk (show ∀ o : Obj, ((w.drewN m1).alloc o).heap[w.heap.size]? = some o from fun o => blk_new (w.drewN m1) o)
  obtain ⟨m0, hm0⟩ : ∃ m0, Aside0 (Nat.min 1 c = m0) := ⟨_, ⟨rfl⟩⟩
  have hm01 : m0 ≤ 1 := by rw [← hm0.out]; exact Nat.min_le_left _ _
  have hm0c : m0 ≤ c := by rw [← hm0.out]; exact Nat.min_le_right _ _
  have HM0 := Aside0.mk (show 0 < c → 0 < m0 by intro h; rw [← hm0.out]; exact Nat.lt_min.2 ⟨by omega, h⟩)
  have HSRC0 := Aside0.mk (show ∀ o : Obj, ∀ j v, (rr (.int .i64 kd) (.int .i64 nn) m0)[j]? = some v → ((w.drewN m1).alloc o).cell? (ad.add j) = some v by
    intro o j v hj
    have hjl := (List.getElem?_eq_some_iff.1 hj).1
    rw [rr_len] at hjl
    obtain rfl : m0 = 1 := by omega
    match j, hj with
    | 0, hj => rw [← hj]; exact HA0.out o
    | 1, hj => rw [← hj]; exact HA1.out o
    | j + 2, hj => simp [rr] at hj)
  have HF0 := Aside0.mk (show 0 + (rr (.int .i64 kd) (.int .i64 nn) m0).length ≤ zs.length by rw [rr_len, HZ.out]; omega)
  go_wp2_with ((with_reducible refine gate_builtin (b := .copy) (xs := #[.tmp 31, .tmp 32]) rfl ?_); refine wpList_copy_sz (by rfl) (.tmp 31) (.tmp 32) 38 38 (by rfl) 24 2 (by decide) Try.underlying38 (by kernel_rfl) _ _ c c 1 c0 (by rfl) (by rfl) w.heap.size 0 zs 24 (HBN.out _) m0 hm0.out (rr (.int .i64 kd) (.int .i64 nn) m0) (rr_len _ _ _) (fun hp => ⟨rfl, ad, rfl, HSRC0.out _⟩) HF0.out (rr_one rfl rfl _) ?_; intro w2 hg2 hgr2)
  have HG2 := Aside0.mk (show w2.heap[w.heap.size]? = some (.cells (stage (.int .i64 kd) (.int .i64 nn) zs m0).toArray 24 (0, 0)) by
    have e := stage_next (a := .int .i64 kd) (b := .int .i64 nn) (n := 0) (m := m0) HZ.out (by omega)
    rw [stage_zero, Nat.zero_mul, Nat.zero_add] at e
    rw [← e]; exact hg2.out)
  have HB2 := Aside0.mk (show Below w.heap.size w w2 from (HBA.out _).grown hgr2.out (by simp) (fun k hk => by injection hk with hk; omega))
  clear hg2 hgr2 HA0 HA1 HBA HBN HSRC0 HF0
  go_loopg [8] c (fun kq v8 w' => ∃ n : Nat, v8 = .int .i64 (n : Int) ∧ n ≤ c ∧ Aside0 (0 < c → 0 < n) ∧ Aside0 (c - n ≤ kq) ∧ Aside0 (w'.heap[w.heap.size]? = some (.cells (stage (.int .i64 kd) (.int .i64 nn) zs n).toArray 24 (0, 0))) ∧ Aside0 (Below w.heap.size w w'))
  case atStart => exact ⟨m0, by first | rfl | simp [goInt], hm0c, HM0, ⟨by omega⟩, HG2, HB2⟩
  case round =>
    obtain ⟨n, rfl, hnc, HP, hk, HGr, HBr⟩ := hrel
    by_cases q1 : n < c
    · have q1b : decide ((n : Int) < (c : Int)) = true := decide_eq_true (by omega)
      have q1c : decide (n < c) = true := decide_eq_true q1
      have hn0 : 0 < n := HP.out (by omega)
      have hs1 : ∀ W : World, (Instr.slice 38 (.slice (some ⟨w.heap.size, 0, none⟩) c c) (some (.int .i64 (n : Int))) none none).run Try.prog W = .ok (.slice (some ⟨w.heap.size, n * 2, none⟩) (c - n) (c - n)) W := by
        intro W
        have hel : Try.prog.elem 38 = 24 := by kernel_rfl
        rw [run_slice_l W 38 (some ⟨w.heap.size, 0, none⟩) c c (by rw [hel]; exact Try.underlying38) .i64 (n : Int) (by omega) (by omega), hel]
        have hsz : (sizeOf 24).run Try.prog W = .ok 2 W := by kernel_rfl
        rw [hsz]
        simp only [Result.andThen_ok, sliced, Int.toNat_natCast]
        rw [if_neg (by omega)]
        simp [Addr.add]
        omega
      have hs2 : ∀ W : World, (Instr.slice 38 (.slice (some ⟨w.heap.size, 0, none⟩) c c) none (some (.int .i64 (n : Int))) none).run Try.prog W = .ok (.slice (some ⟨w.heap.size, 0, none⟩) n c) W := by
        intro W
        have hel : Try.prog.elem 38 = 24 := by kernel_rfl
        rw [run_slice_h W 38 (some ⟨w.heap.size, 0, none⟩) c c (by rw [hel]; exact Try.underlying38) .i64 (n : Int) (by omega) (by omega), hel]
        have hsz : (sizeOf 24).run Try.prog W = .ok 2 W := by kernel_rfl
        rw [hsz]
        simp only [Result.andThen_ok, sliced, Int.toNat_natCast]
        split <;> simp [Addr.add]
      obtain ⟨m, hm⟩ : ∃ m, Aside0 (Nat.min n (c - n) = m) := ⟨_, ⟨rfl⟩⟩
      have hm1 : m ≤ n := by rw [← hm.out]; exact Nat.min_le_left _ _
      have hm2 : n + m ≤ c := by have : m ≤ c - n := by rw [← hm.out]; exact Nat.min_le_right _ _
                                 omega
      have hm3 : 0 < m := by rw [← hm.out]; exact Nat.lt_min.2 ⟨hn0, by omega⟩
      have HSRC := Aside0.mk (show ∀ j v, (rr (.int .i64 kd) (.int .i64 nn) m)[j]? = some v → wr.drew.cell? ((⟨w.heap.size, 0, none⟩ : Addr).add j) = some v by
        intro j v hj
        rw [add_plain]
        exact (blk_cell (blk_drew HGr.out) j).trans (by rw [List.getElem?_toArray]; exact stage_read hm1 hj))
      have HFIT := Aside0.mk (show n * 2 + (rr (.int .i64 kd) (.int .i64 nn) m).length ≤ (stage (.int .i64 kd) (.int .i64 nn) zs n).length by rw [rr_len, stage_len HZ.out hnc]; omega)
      have hsum : IntKind.i64.wrap ((n : Int) + (m : Int)) = (n : Int) + (m : Int) := by rw [IntKind.wrap_i64]; omega
      have hsum2 : wrap64 ((n : Int) + (m : Int)) = (n : Int) + (m : Int) := by unfold wrap64; omega
      clear hmk
      go_wp2_with fail
      refine start_ (n := 10) (S := fun w' => True) (ds := []) #[false, false, false, false, false, false, false, false, false, false] (by kernel_rfl) rfl rfl trivial (fun hHeld => ?_)
      refine pure_ (i := 0) (N := some 38) (v := ?_) (a' := ?_) #[true, false, false, false, false, false, false, false, false, false] rfl rfl (by kernel_rfl) (fun _ _ _ h => h) (Or.inl ⟨by rfl, ?_⟩) ?_ ?_
      rotate_left
      · intro w'
        go_simp
        with_reducible rfl
      rotate_left
      · simp only [Act.put, List.setIfInBounds_toArray, List.set_cons_zero, List.set_cons_succ, i64_w, i32_w]
        rfl
      refine pure_ (i := 1) (N := some 39) (v := ?_) (a' := ?_) #[true, true, false, false, false, false, false, false, false, false] rfl rfl (by kernel_rfl) (fun _ _ _ h => h) (Or.inl ⟨by rfl, ?_⟩) ?_ ?_
      rotate_left
      · intro w'
        go_simp
        with_reducible rfl
      rotate_left
      · simp only [Act.put, List.setIfInBounds_toArray, List.set_cons_zero, List.set_cons_succ, i64_w, i32_w]
        rfl
      refine pure_ (i := 2) (N := some 40) (v := ?_) (a' := ?_) #[true, true, true, false, false, false, false, false, false, false] rfl rfl (by kernel_rfl) (fun _ _ _ h => h) (Or.inl ⟨by rfl, ?_⟩) ?_ ?_
      rotate_left
      · intro w'
        go_simp
        with_reducible rfl
      rotate_left
      · simp only [Act.put, List.setIfInBounds_toArray, List.set_cons_zero, List.set_cons_succ, i64_w, i32_w]
        rfl
      refine pure_ (i := 3) (N := some 41) (v := ?_) (a' := ?_) #[true, true, true, true, false, false, false, false, false, false] rfl rfl (by kernel_rfl) (fun _ _ _ h => h) (Or.inl ⟨by rfl, ?_⟩) ?_ ?_
      rotate_left
      · intro w'
        go_simp
        with_reducible rfl
      rotate_left
      · simp only [Act.put, List.setIfInBounds_toArray, List.set_cons_zero, List.set_cons_succ, i64_w, i32_w]
        rfl
      refine pure_ (i := 4) (N := some 42) (v := ?_) (a' := ?_) #[true, true, true, true, true, false, false, false, false, false] rfl rfl (by kernel_rfl) (fun _ _ _ h => h) (Or.inl ⟨by rfl, ?_⟩) ?_ ?_
      rotate_left
      · intro w'
        go_simp
        with_reducible rfl
      rotate_left
      · simp only [Act.put, List.setIfInBounds_toArray, List.set_cons_zero, List.set_cons_succ, i64_w, i32_w]
        rfl
      refine pure_ (i := 5) (N := some 43) (v := ?_) (a' := ?_) #[true, true, true, true, true, true, false, false, false, false] rfl rfl (by kernel_rfl) (fun _ _ _ h => h) (Or.inl ⟨by rfl, ?_⟩) ?_ ?_
      rotate_left
      · intro w'
        go_simp
        with_reducible rfl
      rotate_left
      · simp only [Act.put, List.setIfInBounds_toArray, List.set_cons_zero, List.set_cons_succ, i64_w, i32_w]
        rfl
      refine pure_ (i := 6) (N := some 44) (v := ?_) (a' := ?_) #[true, true, true, true, true, true, true, false, false, false] rfl rfl (by kernel_rfl) (fun _ _ _ h => h) (Or.inl ⟨by rfl, ?_⟩) ?_ ?_
      rotate_left
      · intro w'
        go_simp
        with_reducible rfl
      rotate_left
      · simp only [Act.put, List.setIfInBounds_toArray, List.set_cons_zero, List.set_cons_succ, i64_w, i32_w]
        rfl
      refine one_ (i := 7) (N := some 45) #[true, true, true, true, true, true, true, true, false, false] rfl rfl (by kernel_rfl) (by decide) (fun K hK => ?_)
      refine step_copy_sz (by rfl) (.tmp 41) (.tmp 44) 38 38 (by rfl) 24 2 Try.underlying38 (by kernel_rfl) (c - n) (c - n) n c ⟨w.heap.size, 0, none⟩ w.heap.size (n * 2) (by rfl) (by rfl) (stage (.int .i64 kd) (.int .i64 nn) zs n) 24 HGr.out m hm.out (rr (.int .i64 kd) (.int .i64 nn) m) (rr_len _ _ _) HSRC.out HFIT.out (rr_one rfl rfl _) ?_
      intro w3 hg3 hgr3
      refine hK.out _ _ trivial (fun hHeld => ?_)
      clear hK K
      refine norm_ (a' := ?_) ?_ ?_
      rotate_left
      · show Act.put _ (some 45) _ = _
        simp only [Act.put, List.setIfInBounds_toArray, List.set_cons_zero, List.set_cons_succ, i64_w, i32_w]
        rfl
      refine pure_ (i := 8) (N := some 46) (v := ?_) (a' := ?_) #[true, true, true, true, true, true, true, true, true, false] rfl rfl (by kernel_rfl) (fun _ _ _ h => h) (Or.inl ⟨by rfl, ?_⟩) ?_ ?_
      rotate_left
      · intro w'
        go_simp
        with_reducible rfl
      rotate_left
      · simp only [Act.put, List.setIfInBounds_toArray, List.set_cons_zero, List.set_cons_succ, i64_w, i32_w]
        rfl
      refine pure_ (i := 9) (N := some 8) (v := ?_) (a' := ?_) #[true, true, true, true, true, true, true, true, true, true] rfl rfl (by kernel_rfl) (fun _ _ _ h => h) (Or.inl ⟨by rfl, ?_⟩) ?_ ?_
      rotate_left
      · intro w'
        go_simp
        with_reducible rfl
      rotate_left
      · simp only [Act.put, List.setIfInBounds_toArray, List.set_cons_zero, List.set_cons_succ, i64_w, i32_w]
        rfl
      refine done_ (by kernel_rfl) ?_

      have HG3 := Aside0.mk (show w3.heap[w.heap.size]? = some (.cells (stage (.int .i64 kd) (.int .i64 nn) zs (n + m)).toArray 24 (0, 0)) by rw [← stage_next (a := .int .i64 kd) (b := .int .i64 nn) HZ.out hm2]; exact hg3.out)
      have HB3 := Aside0.mk (show Below w.heap.size w w3 from (below_drew HBr.out).grown hgr3.out HBr.out.size (fun k hk => by injection hk with hk; omega))
      go_wp2
      go_roundg (gk - 1)
      case measure => have := hk.out; omega
      case rel => exact ⟨n + m, by first | rfl | (simp [goInt]; done) | simp, by omega, ⟨fun _ => by omega⟩, ⟨by have := hk.out; omega⟩, HG3, HB3⟩
    · have hnn : n = c := by omega
      subst hnn
      have q1b : decide ((n : Int) < (n : Int)) = false := decide_eq_false (by omega)
      have q1c : decide (n < n) = false := decide_eq_false (by omega)
      go_wp2
      go_ret
      have hg := HGr.out
      rw [stage_all HZ.out] at hg
      exact ⟨_, rfl, Nat.le_refl _, hg, HBr.out⟩
def api_Value_42.f (l0 : List S24) (a1 : Int) : Option (List S24) := match l0 with
  | [x] => if 0 ≤ a1 ∧ a1 ≤ 65536 then some (List.replicate a1.toNat x) else none
  | _ => none
theorem api_Value_42.calls (A0 : Option Addr) (c0 : Nat) (l0 : List S24) (a1 : Int) (r : List S24) (w : World) (hr0 : Kd.C k24 w A0 l0.length l0) (hc0 : l0.length ≤ c0) (h : api_Value_42.f l0 a1 = some r) :
    Calls Try.prog 42 #[.slice A0 l0.length c0, .int .i64 a1] w fun e w' => ∃ v0_ : Value, e = .returned (v0_) ∧ Kd.R k24 24 w' w.heap.size (fun _ => True) v0_ r ∧ Below w.heap.size w w' := by
  match l0, h with
  | [x], h =>
    simp only [api_Value_42.f] at h
    split at h
    case isFalse => simp at h
    case isTrue hn =>
      obtain rfl := Option.some.inj h
      obtain ⟨c, rfl⟩ := Int.eq_ofNat_of_zero_le hn.1
      obtain ⟨ad, rfl, hx0, hx1⟩ := at_T24 hr0 0 (by omega) (by simp)
      have h0 : w.cell? (ad.add 0) = some (.int .i64 x.f0) := hx0
      have h1 : w.cell? (ad.add 1) = some (.int .i64 x.f1) := by
        obtain ⟨ad2, cc, e, _, hK, hcc⟩ := Kd.C_get hr0 z24 0 (by omega) (by simp)
        cases e
        obtain rfl := k24_open hK
        exact hcc 1 _ rfl
      refine (repeat_any' ad x.f0 x.f1 c c0 w (by omega) h0 h1).mono ?_
      rintro e w' ⟨g, rfl, hgb, hg, hb⟩
      refine ⟨_, rfl, ?_, hb⟩
      have hR := made_R (d := k24) (w := w) (w2 := w') (e := 24) (xs := List.replicate c x) hgb (inner := rr (.int .i64 x.f0) (.int .i64 x.f1) c) hg (by simp; omega) (rr_reps (k24_mk w x) c) (fun y cs hy => by rw [k24_open hy]; exact k24_mkM _ _ _ y)
      simpa using hR
end Go.Proofs.Yticpjpacoeecmaa.A.P
