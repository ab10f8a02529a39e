/- The gate's small parts: contracts of slices.Clone, of the sink's and the gate's methods, of Among and SameInts. -/
import Derived.Test.YthijcbihdkheoaaProg
import Derived.Test.YthijcbihdkheoaaG0
import Derived.BigQuiet
import Derived.Deep.QuietTactic
import Derived.Deep.RegionLaw
import Derived.WalkSpells
import Derived.Handy
namespace Go.Proofs.Ythijcbihdkheoaa.G
set_option linter.unusedVariables false
set_option linter.unusedSimpArgs false
open Go.RowKit Go.Proofs.YthijcbihdkheoaaW.PrintWords Go.Proofs.YthijcbihdkheoaaW.PrintLast Go.Proofs.YthijcbihdkheoaaW.PrintMore

set_option linter.unusedSimpArgs false
theorem info3 : (Try.prog.info? 3).map (fun i => (i.zero, i.size, i.bytes)) = some (some (.int .i64 0), 1, 8) := by kernel_rfl

/-- A slice of whole numbers that is read. -/
abbrev Rd (w : World) (A : Option Addr) (xs : List Int) : Prop := (Kd.int .i64).C w A xs.length xs
theorem Rd.ints {w : World} {A : Option Addr} {xs : List Int} (h : Rd w A xs) : ReadsInt w .i64 A xs.length xs := Kd.reads_of_C (d := (0 : Int)) h
theorem Rd.of {w : World} {A : Option Addr} {xs : List Int} (h : ReadsInt w .i64 A xs.length xs) : Rd w A xs := Kd.C_of_reads (d := (0 : Int)) (h1 := fun _ => rfl) h
/-- A row of the call's own, as it is read. -/
theorem own_rd {w : World} {B : Nat} {v : Value} {xs : List Int} (h : w.ownsRow B 3 1 v xs.length (nums .i64 xs)) : ∃ A c, v = .slice A xs.length c ∧ xs.length ≤ c ∧ Rd w A xs := by
  have hR : (Kd.int .i64).R 3 w B (fun _ => True) v xs := Kd.R_of_own (enc := Value.int .i64) (h1 := fun _ => rfl) h (fun _ _ => trivial)
  exact Kd.R_reads hR

theorem clone_any (A : Option Addr) (c : Nat) (xs : List Int) (w : World) (hr : Rd w A xs) (hn : xs.length * 8 ≤ 140737488355328) :
    Calls Try.prog 27 #[.slice A xs.length c] w fun e w' => ∃ v, e = .returned v ∧ w'.ownsRow w.heap.size 3 1 v xs.length (nums .i64 xs) ∧ Below w.heap.size w w' := by
  have hu27 := Try.underlying27
  have qn := fun (w : World) => Lib.run_eql_slice_nil (P := Try.prog) w 27 3 A xs.length c 0 0 Try.underlying27
  have HR := Aside0.mk hr
  clear hr
  cases A with
  | none =>
    have h0 : xs = [] := by
      obtain ⟨hl, _, h⟩ := HR.out
      rcases Nat.eq_zero_or_pos xs.length with h0 | h0
      · exact List.eq_nil_of_length_eq_zero h0
      · obtain ⟨_, h, _⟩ := h h0; cases h
    subst h0
    simp only [List.length_nil] at qn
    go_enter Try.func27, Try.ntmps27
    go_wp2
    go_ret
    exact ⟨_, rfl, own_nil _ _ _ _, Below.refl _ _⟩
  | some a =>
    have HO := Aside0.mk (own_lit w w.heap.size 3 .i64 [] (Nat.le_refl _) (by simp))
    have HR1 := Aside0.mk (HR.out.ints.below (below_alloc (Below.refl _ _) (.cells (nums .i64 []).toArray 3)))
    have HB := Aside0.mk (below_alloc (Below.refl w.heap.size w) (.cells (nums .i64 []).toArray 3))
    go_enter Try.func27, Try.ntmps27
    go_wp2_with (at_builtin; refine print_append_row (w0 := w) w.heap.size rfl _ _ 27 3 .i64 8 rfl Try.underlying27 info3 (by omega) (.slice (some ⟨w.heap.size, 0, none⟩) 0 0) [] xs (some a) xs.length c rfl rfl HO.out HR1.out HB.out (by simp) (by simpa using hn) ?_; intro v1 w1 ho hb hg hat)
    go_ret
    exact ⟨_, rfl, by simpa using ho, hb⟩

/-! ### the sink -/
theorem is_any (g : Nat) (v : Value) (m : Bool) (w : World) (hb : w.heap[g]? = some (.cells #[v, .bool m] 48 (0, 0))) :
    Calls Try.prog 26 #[.pointer (some ⟨g, 0, none⟩)] w fun e w' => e = .returned (.bool m) ∧ w = w' := by
  have h1 : w.cell? ⟨g, 1, none⟩ = some (.bool m) := (blk_cell hb 1).trans rfl
  clear hb
  go_enter Try.func26, Try.ntmps26
  go_wp2
  go_ret
  exact ⟨rfl, rfl⟩
theorem is_nil (w : World) :
    Calls Try.prog 26 #[.pointer none] w fun e w' => e = .returned (.bool false) ∧ w = w' := by
  go_enter Try.func26, Try.ntmps26
  go_wp2
  go_ret
  exact ⟨rfl, rfl⟩

theorem size_any (g : Nat) (A : Option Addr) (c n : Nat) (w : World) (hb : w.heap[g]? = some (.cells #[.slice A n c, .bool true] 48 (0, 0))) :
    Calls Try.prog 15 #[.pointer (some ⟨g, 0, none⟩)] w fun e w' => e = .returned (.int .i64 n) ∧ w = w' := by
  have h0 : w.cell? ⟨g, 0, none⟩ = some (.slice A n c) := (blk_cell hb 0).trans rfl
  go_enter Try.func15, Try.ntmps15
  go_wp2_with (go_at_call 26; refine (is_any g _ true _ hb).mono ?_; rintro e w' ⟨rfl, rfl⟩)
  go_ret
  exact ⟨rfl, rfl⟩

theorem all_any (g : Nat) (A : Option Addr) (c : Nat) (xs : List Int) (w : World) (hb : w.heap[g]? = some (.cells #[.slice A xs.length c, .bool true] 48 (0, 0))) (hr : Rd w A xs) (hn : xs.length * 8 ≤ 140737488355328) :
    Calls Try.prog 12 #[.pointer (some ⟨g, 0, none⟩)] w fun e w' => ∃ v, e = .returned v ∧ w'.ownsRow w.heap.size 3 1 v xs.length (nums .i64 xs) ∧ Below w.heap.size w w' := by
  have h0 : w.cell? ⟨g, 0, none⟩ = some (.slice A xs.length c) := (blk_cell hb 0).trans rfl
  have HR := Aside0.mk hr
  clear hr
  go_enter Try.func12, Try.ntmps12
  go_wp2_with (first | (go_at_call 26; refine (is_any g _ true _ hb).mono ?_; rintro e w' ⟨rfl, rfl⟩) | (go_at_call 27; refine (clone_any _ _ _ _ HR.out hn).mono ?_; rintro e w' ⟨v, rfl, ho, hbl⟩))
  go_ret
  exact ⟨_, rfl, ho, hbl⟩

theorem equal_any (A0 : Option Addr) (c0 : Nat) (xs : List Int) (A1 : Option Addr) (c1 : Nat) (ys : List Int) (w : World) (hr0 : Rd w A0 xs) (hc0 : xs.length ≤ c0) (hr1 : Rd w A1 ys) (hc1 : ys.length ≤ c1) :
    Calls Try.prog 28 #[.slice A0 xs.length c0, .slice A1 ys.length c1] w fun e w' => e = .returned (.bool (decide (xs = ys))) ∧ Drawn0 w w' := by
  obtain ⟨k, hk⟩ := equal_f xs ys hr0.2.1
  exact PGatePlays.slices_Equal_int_int.calls k A0 c0 xs A1 c1 ys _ w hr0 hc0 hr1 hc1 hk
theorem same_any (A0 : Option Addr) (c0 : Nat) (xs : List Int) (A1 : Option Addr) (c1 : Nat) (ys : List Int) (w : World) (hr0 : Rd w A0 xs) (hc0 : xs.length ≤ c0) (hr1 : Rd w A1 ys) (hc1 : ys.length ≤ c1) :
    Calls Try.prog 16 #[.slice A0 xs.length c0, .slice A1 ys.length c1] w fun e w' => e = .returned (.bool (decide (xs = ys))) ∧ Drawn0 w w' := by
  obtain ⟨k, hk⟩ := same_f xs ys hr0.2.1
  exact PGatePlays.larchbase_SameInts.calls k A0 c0 xs A1 c1 ys _ w hr0 hc0 hr1 hc1 hk

theorem info3' : ∃ i, Try.prog.info? 3 = some i ∧ i.size = 1 := by
  obtain ⟨i, hi, hz⟩ := Option.map_eq_some_iff.1 info3
  simp only [Prod.mk.injEq] at hz
  exact ⟨i, hi, hz.2.1⟩

theorem quiet_drawn {P : Program} {f : FuncId} {args : Array Value} {w : World} {n : Nat} {v : Value}
    (h : Calls P f args (w.drewN n) fun e w' => e = .returned v ∧ Drawn0 (w.drewN n) w') : Calls P f args (w.drewN n) fun e w'' => e = .returned v ∧ ∃ m, w'' = w.drewN m :=
  Calls.quiet_of (h.mono fun _ _ ⟨he, ⟨hm⟩⟩ => ⟨he, hm⟩)
theorem R_drewN {w : World} {B : Nat} {ok : Nat → Prop} {v : Value} {xs : List Int} (h : (Kd.int .i64).R 3 w B ok v xs) (n : Nat) : (Kd.int .i64).R 3 (w.drewN n) B ok v xs := Kd.R_below h (pw_below_drewN (Below.refl _ _) n)
theorem Rd.drewN {w : World} {A : Option Addr} {xs : List Int} (h : Rd w A xs) (n : Nat) : Rd (w.drewN n) A xs := Kd.C_below h (pw_below_drewN (Below.refl _ _) n)

/-- put, beyond its bounds -/
theorem put_out (g : Nat) (A : Option Addr) (c n : Nat) (p : Int) (vl : Value) (w : World) (hb : w.heap[g]? = some (.cells #[.slice A n c, .bool true] 48 (0, 0)))
    (hp : p < 0 ∨ (n : Int) < p) :
    Calls Try.prog 13 #[.pointer (some ⟨g, 0, none⟩), .int .i64 p, vl] w fun e w' => e = .returned (.tuple #[.int .i64 0, .int .i64 2]) ∧ w = w' := by
  have h0 : w.cell? ⟨g, 0, none⟩ = some (.slice A n c) := (blk_cell hb 0).trans rfl
  rcases hp with hp | hp
  · have hpb : decide (p < 0) = true := decide_eq_true hp
    go_enter Try.func13, Try.ntmps13
    go_wp2_with (go_at_call 26; refine (is_any g _ true _ hb).mono ?_; rintro e w' ⟨rfl, rfl⟩)
    go_ret2
    exact ⟨rfl, rfl⟩
  · have hpb : decide (p < 0) = false := decide_eq_false (by omega)
    have hpc : decide ((n : Int) < p) = true := decide_eq_true hp
    go_enter Try.func13, Try.ntmps13
    go_wp2_with (go_at_call 26; refine (is_any g _ true _ hb).mono ?_; rintro e w' ⟨rfl, rfl⟩)
    go_ret2
    exact ⟨rfl, rfl⟩

/-- What a put leaves of the world: all but the sink's two blocks. -/
structure Turn (w w' : World) (S : Nat → Prop) : Prop where
  os : w'.os = w.os
  tape : w'.tape = w.tape
  output : w'.output = w.output
  size : w.heap.size ≤ w'.heap.size
  block : ∀ k, k < w.heap.size → ¬ S k → w'.heap[k]? = w.heap[k]?

theorem turn_put {w w1 : World} {nq g : Nat} {row : Option Nat} (hg : (w.drewN nq).drew.grownBy w1 row) (u : Value) : Turn w (w1.setCell ⟨g, 0, none⟩ u) (fun k => k = g ∨ some k = row) := by
  refine ⟨hg.os, hg.tape, hg.output, ?_, fun k hk hn => ?_⟩
  · have h := hg.size
    have h' : w.heap.size ≤ w1.heap.size := h
    simpa [World.setCell] using h'
  · rw [Below.heap_setCell _ _ _ _ (fun e => hn (.inl e))]
    exact hg.block k hk (fun e => hn (.inr e))
set_option maxRecDepth 100000 in
theorem put_in (B g : Nat) (A : Option Addr) (c : Nat) (xs : List Int) (p : Int) (A2 : Option Addr) (c2 : Nat) (ls : List Int) (w : World) (hb : w.heap[g]? = some (.cells #[.slice A xs.length c, .bool true] 48 (0, 0)))
    (hgB : B ≤ g) (ho : w.ownsRow B 3 1 (.slice A xs.length c) xs.length (nums .i64 xs)) (hr : Rd w A2 ls) (hc2 : ls.length ≤ c2)
    (hn : (xs.length + ls.length) * 8 ≤ 140737488355328) (hp0 : 0 ≤ p) (hp1 : p ≤ xs.length) (t : Nat) (ht : (t : Int) = mn ls.length (xs.length - p)) (heq : (xs.drop p.toNat).take t = ls.take t) :
    Calls Try.prog 13 #[.pointer (some ⟨g, 0, none⟩), .int .i64 p, .slice A2 ls.length c2] w fun e w' => ∃ v, e = .returned (.tuple #[.int .i64 (ls.length - t), .int .i64 0]) ∧
      w'.heap[g]? = some (.cells #[v, .bool true] 48 (0, 0)) ∧ w'.ownsRow B 3 1 v (xs ++ ls.drop t).length (nums .i64 (xs ++ ls.drop t)) ∧
      Turn w w' (fun k => k = g ∨ some k = (Value.slice A xs.length c).ownBlock) ∧ (v.ownBlock = (Value.slice A xs.length c).ownBlock ∨ ∃ b, v.ownBlock = some b ∧ w.heap.size ≤ b) := by
  have h0 : w.cell? ⟨g, 0, none⟩ = some (.slice A xs.length c) := (blk_cell hb 0).trans rfl
  have hpb : decide (p < 0) = false := decide_eq_false (by omega)
  have hpc : decide ((xs.length : Int) < p) = false := decide_eq_false (by omega)
  obtain ⟨i, hi, his⟩ := info3'
  have hrx : Rd w A xs := by
    obtain ⟨A', c', he, _, h⟩ := own_rd ho
    injection he with he _ _
    subst he
    exact h
  have hcx : xs.length ≤ c := by
    obtain ⟨A', c', he, h, _⟩ := own_rd ho
    injection he with _ _ he
    omega
  have hm0 : t ≤ ls.length ∧ (t : Int) ≤ xs.length - p := by have := ht; unfold mn at this; split at this <;> omega
  obtain ⟨A1, cut1, rd1, le1⟩ := print_mid_of (P := Try.prog) (Value.int .i64) (0 : Int) 27 3 .i64 .i64 Try.underlying27 hi his A c xs p (p + t) hp0 (by omega) (by omega) hcx
  obtain ⟨cut2, rd2, le2⟩ := print_take_of (P := Try.prog) (Value.int .i64) (0 : Int) 27 3 .i64 Try.underlying27 hi his A2 c2 ls t (by omega) (by omega) hc2
  obtain ⟨A3, cut3, rd3, le3⟩ := print_drop_of (P := Try.prog) (Value.int .i64) (0 : Int) 27 3 .i64 Try.underlying27 hi his A2 c2 ls t (by omega) (by omega) hc2
  have RD1 := Aside0.mk (Rd.of (rd1 w hrx.ints))
  have RD2 := Aside0.mk (Rd.of (rd2 w hr.ints))
  have RD3 := Aside0.mk (Rd.of (rd3 w hr.ints))
  clear rd1 rd2 rd3
  simp only [Int.toNat_natCast] at cut2 cut3 RD2 RD3 le2 le3
  have hl1 : (xs.take (p + t).toNat).drop p.toNat = ls.take t := by
    rw [← heq, List.drop_take]
    congr 1
    omega
  rw [hl1] at cut1 RD1 le1
  generalize hz2 : ls.take t = l2 at *
  generalize hz3 : ls.drop t = l3 at *
  have HZ3 := Aside0.mk hz3
  have HL3 : l3.length = ls.length - t := by rw [← hz3, List.length_drop]
  have HL4 := Aside0.mk HL3
  have hl3 : xs.length + l3.length ≤ 17592186044416 := by omega
  clear hl1 hz2 hz3 heq HL3
  have hcase : ((xs.length : Int) - p = t ∧ decide ((t : Int) < ls.length) = true) ∨ (t = ls.length ∧ decide ((xs.length : Int) - p < ls.length) = false) := by
    unfold mn at ht
    split at ht
    · exact .inl ⟨ht.symm, decide_eq_true (by omega)⟩
    · exact .inr ⟨by omega, decide_eq_false (by omega)⟩
  have HT := Aside0.mk ht
  clear ht
  have hBs : B ≤ w.heap.size := by have := blk_lt hb; omega
  have HO := Aside0.mk (show (Kd.int .i64).R 3 w B (fun _ => True) (.slice A xs.length c) xs from Kd.R_of_own (enc := Value.int .i64) (h1 := fun _ => rfl) ho (fun _ _ => trivial))
  have hne := own_ne ho hb (by decide)
  rcases hcase with ⟨he, hlt⟩ | ⟨rfl, hlt⟩
  · have hlt' := of_decide_eq_true hlt
    go_enter Try.func13, Try.ntmps13
    go_wp2_with (go_at_call 26; refine (is_any g _ true _ hb).mono ?_; rintro e w' ⟨rfl, rfl⟩)
    go_quiet ((go_at_call 28; exact quiet_drawn (equal_any _ _ _ _ _ _ _ (RD1.out.drewN _) le1 (RD2.out.drewN _) le2)))
    go_wp2_with fail
    refine start_ (n := 12) (S := fun w' => w'.cell? ⟨g, 0, none⟩ = some (.slice A xs.length c)) (ds := [11]) #[false, false, false, false, false, false, false, false, false, false, false, false] (by kernel_rfl) rfl rfl (h0) (fun hHeld => ?_)
    refine pure_ (i := 0) (N := some 49) (v := ?_) (a' := ?_) #[true, false, false, false, false, false, false, false, false, false, false, false] rfl rfl (by kernel_rfl) (fun _ _ _ h => h) (Or.inl ⟨by rfl, ?_⟩) ?_ ?_
    rotate_left
    · intro w'
      go_simp
      with_reducible rfl
    rotate_left
    · simp only [Act.put, List.setIfInBounds_toArray, List.set_cons_zero, List.set_cons_succ, i64_w, i32_w]
      rfl
    refine pure_ (i := 1) (N := some 50) (v := ?_) (a' := ?_) #[true, true, false, false, false, false, false, false, false, false, false, false] rfl rfl (by kernel_rfl) (fun _ _ _ h => h) (Or.inl ⟨by rfl, ?_⟩) ?_ ?_
    rotate_left
    · intro w'
      go_simp
      with_reducible rfl
    rotate_left
    · simp only [Act.put, List.setIfInBounds_toArray, List.set_cons_zero, List.set_cons_succ, i64_w, i32_w]
      rfl
    refine pure_ (i := 2) (N := some 51) (v := ?_) (a' := ?_) #[true, true, true, false, false, false, false, false, false, false, false, false] rfl rfl (by kernel_rfl) (fun _ _ _ h => h) (Or.inl ⟨by rfl, ?_⟩) ?_ ?_
    rotate_left
    · intro w'
      go_simp
      with_reducible rfl
    rotate_left
    · simp only [Act.put, List.setIfInBounds_toArray, List.set_cons_zero, List.set_cons_succ, i64_w, i32_w]
      rfl
    refine pure_ (i := 3) (N := some 52) (v := ?_) (a' := ?_) #[true, true, true, true, false, false, false, false, false, false, false, false] rfl rfl (by kernel_rfl) (fun _ _ _ h => h) (Or.inl ⟨by rfl, ?_⟩) ?_ ?_
    rotate_left
    · intro w'
      go_simp
      with_reducible rfl
    rotate_left
    · simp only [Act.put, List.setIfInBounds_toArray, List.set_cons_zero, List.set_cons_succ, i64_w, i32_w]
      rfl
    refine pure_ (i := 5) (N := some 54) (v := ?_) (a' := ?_) #[true, true, true, true, false, true, false, false, false, false, false, false] rfl rfl (by kernel_rfl) (fun _ _ _ h => h) (Or.inl ⟨by rfl, ?_⟩) ?_ ?_
    rotate_left
    · intro w'
      go_simp
      with_reducible rfl
    rotate_left
    · simp only [Act.put, List.setIfInBounds_toArray, List.set_cons_zero, List.set_cons_succ, i64_w, i32_w]
      rfl
    refine pure_ (i := 6) (N := some 55) (v := ?_) (a' := ?_) #[true, true, true, true, false, true, true, false, false, false, false, false] rfl rfl (by kernel_rfl) (fun _ _ _ h => h) (Or.inl ⟨by rfl, ?_⟩) ?_ ?_
    rotate_left
    · intro w'
      go_simp
      with_reducible rfl
    rotate_left
    · simp only [Act.put, List.setIfInBounds_toArray, List.set_cons_zero, List.set_cons_succ, i64_w, i32_w]
      rfl
    refine pure_ (i := 7) (N := some 56) (v := ?_) (a' := ?_) #[true, true, true, true, false, true, true, true, false, false, false, false] rfl rfl (by kernel_rfl) (fun _ _ _ h => h) (Or.inl ⟨by rfl, ?_⟩) ?_ ?_
    rotate_left
    · intro w'
      go_simp
      with_reducible rfl
    rotate_left
    · simp only [Act.put, List.setIfInBounds_toArray, List.set_cons_zero, List.set_cons_succ, i64_w, i32_w]
      rfl
    refine take_ (i := 4) (N := some 53) (v := ?_) (a' := ?_) #[true, true, true, true, true, true, true, true, false, false, false, false] rfl rfl (by kernel_rfl) (fun _ _ _ h => h) (Or.inl ⟨by rfl, ?_⟩) hHeld ?_ ?_
    rotate_left
    · intro w' s0
      go_simp
      with_reducible rfl
    rotate_left
    · simp only [Act.put, List.setIfInBounds_toArray, List.set_cons_zero, List.set_cons_succ, i64_w, i32_w]
      rfl
    refine one_ (i := 8) (N := some 57) #[true, true, true, true, true, true, true, true, true, false, false, false] rfl rfl (by kernel_rfl) (by decide) (fun K hK => ?_)
    refine Kd.R_append_rows_step (Kd.int .i64) (Rr := fun x cs => cs = [Value.int .i64 x]) (w0 := w) B (by rfl) _ _ 27 3 (.int .i64 0) 8 rfl Try.underlying27 info3 rfl (by decide) (by decide) (.slice A xs.length c) xs l3 A3 l3.length (c2 - t) (fun _ => True) (fun _ => False) rfl rfl (by exact HO.out) (by exact RD3.out) (fun x cs h => h) (fun _ h => h.elim) (fun _ _ => trivial) (by exact below_drew (pw_below_drewN (Below.refl B w) nq)) (by exact hBs) (by omega) ?_
    intro v1 w1 hr1 hb1 hg1 hat1
    obtain ⟨A4, c4, rfl, hl4, hrd4⟩ := Kd.R_reads hr1
    have hc1 := cell_grown hg1 (show (w.drewN nq).drew.cell? ⟨g, 0, none⟩ = _ from h0) hne
    have hbk := blk_grown (w := (w.drewN nq).drew) hb hg1 hne
    have hfz := blk_frozen hbk 0
    refine hK.out _ _ (hc1) (fun hHeld => ?_)
    clear hK K
    refine norm_ (a' := ?_) ?_ ?_
    rotate_left
    · show Act.put _ (some 57) _ = _
      simp only [Act.put, List.setIfInBounds_toArray, List.set_cons_zero, List.set_cons_succ, i64_w, i32_w]
      rfl
    refine pure_ (i := 9) (N := some 58) (v := ?_) (a' := ?_) #[true, true, true, true, true, true, true, true, true, true, false, false] rfl rfl (by kernel_rfl) (fun _ _ _ h => h) (Or.inl ⟨by rfl, ?_⟩) ?_ ?_
    rotate_left
    · intro w'
      go_simp
      with_reducible rfl
    rotate_left
    · simp only [Act.put, List.setIfInBounds_toArray, List.set_cons_zero, List.set_cons_succ, i64_w, i32_w]
      rfl
    refine pure_ (i := 10) (N := some 59) (v := ?_) (a' := ?_) #[true, true, true, true, true, true, true, true, true, true, true, false] rfl rfl (by kernel_rfl) (fun _ _ _ h => h) (Or.inl ⟨by rfl, ?_⟩) ?_ ?_
    rotate_left
    · intro w'
      go_simp
      with_reducible rfl
    rotate_left
    · simp only [Act.put, List.setIfInBounds_toArray, List.set_cons_zero, List.set_cons_succ, i64_w, i32_w]
      rfl
    refine last_ (i := 11) (N := none) #[true, true, true, true, true, true, true, true, true, true, true, true] rfl rfl (by kernel_rfl) (by decide) (fun K hK => ?_)
    refine skip_ (w1 := ?_) (by rfl) rfl ?_ ?_
    rotate_left
    · go_simp
      rfl
    refine hK.out _ _ ?_
    clear hK K
    refine done_ (by kernel_rfl) ?_
    go_wp2
    go_ret2
    exact ⟨_, rfl, by simpa using blk_set hbk 0 _, own_setCell (Kd.own_of_R hr1) (own_ne (Kd.own_of_R hr1) hbk (by decide)) _, turn_put hg1 _, hat1⟩
  · have hlt' := of_decide_eq_false hlt
    go_enter Try.func13, Try.ntmps13
    go_wp2_with (go_at_call 26; refine (is_any g _ true _ hb).mono ?_; rintro e w' ⟨rfl, rfl⟩)
    go_quiet ((go_at_call 28; exact quiet_drawn (equal_any _ _ _ _ _ _ _ (RD1.out.drewN _) le1 (RD2.out.drewN _) le2)))
    go_wp2_with fail
    refine start_ (n := 12) (S := fun w' => w'.cell? ⟨g, 0, none⟩ = some (.slice A xs.length c)) (ds := [11]) #[false, false, false, false, false, false, false, false, false, false, false, false] (by kernel_rfl) rfl rfl (h0) (fun hHeld => ?_)
    refine pure_ (i := 0) (N := some 49) (v := ?_) (a' := ?_) #[true, false, false, false, false, false, false, false, false, false, false, false] rfl rfl (by kernel_rfl) (fun _ _ _ h => h) (Or.inl ⟨by rfl, ?_⟩) ?_ ?_
    rotate_left
    · intro w'
      go_simp
      with_reducible rfl
    rotate_left
    · simp only [Act.put, List.setIfInBounds_toArray, List.set_cons_zero, List.set_cons_succ, i64_w, i32_w]
      rfl
    refine pure_ (i := 1) (N := some 50) (v := ?_) (a' := ?_) #[true, true, false, false, false, false, false, false, false, false, false, false] rfl rfl (by kernel_rfl) (fun _ _ _ h => h) (Or.inl ⟨by rfl, ?_⟩) ?_ ?_
    rotate_left
    · intro w'
      go_simp
      with_reducible rfl
    rotate_left
    · simp only [Act.put, List.setIfInBounds_toArray, List.set_cons_zero, List.set_cons_succ, i64_w, i32_w]
      rfl
    refine pure_ (i := 2) (N := some 51) (v := ?_) (a' := ?_) #[true, true, true, false, false, false, false, false, false, false, false, false] rfl rfl (by kernel_rfl) (fun _ _ _ h => h) (Or.inl ⟨by rfl, ?_⟩) ?_ ?_
    rotate_left
    · intro w'
      go_simp
      with_reducible rfl
    rotate_left
    · simp only [Act.put, List.setIfInBounds_toArray, List.set_cons_zero, List.set_cons_succ, i64_w, i32_w]
      rfl
    refine pure_ (i := 3) (N := some 52) (v := ?_) (a' := ?_) #[true, true, true, true, false, false, false, false, false, false, false, false] rfl rfl (by kernel_rfl) (fun _ _ _ h => h) (Or.inl ⟨by rfl, ?_⟩) ?_ ?_
    rotate_left
    · intro w'
      go_simp
      with_reducible rfl
    rotate_left
    · simp only [Act.put, List.setIfInBounds_toArray, List.set_cons_zero, List.set_cons_succ, i64_w, i32_w]
      rfl
    refine pure_ (i := 5) (N := some 54) (v := ?_) (a' := ?_) #[true, true, true, true, false, true, false, false, false, false, false, false] rfl rfl (by kernel_rfl) (fun _ _ _ h => h) (Or.inl ⟨by rfl, ?_⟩) ?_ ?_
    rotate_left
    · intro w'
      go_simp
      with_reducible rfl
    rotate_left
    · simp only [Act.put, List.setIfInBounds_toArray, List.set_cons_zero, List.set_cons_succ, i64_w, i32_w]
      rfl
    refine pure_ (i := 6) (N := some 55) (v := ?_) (a' := ?_) #[true, true, true, true, false, true, true, false, false, false, false, false] rfl rfl (by kernel_rfl) (fun _ _ _ h => h) (Or.inl ⟨by rfl, ?_⟩) ?_ ?_
    rotate_left
    · intro w'
      go_simp
      with_reducible rfl
    rotate_left
    · simp only [Act.put, List.setIfInBounds_toArray, List.set_cons_zero, List.set_cons_succ, i64_w, i32_w]
      rfl
    refine pure_ (i := 7) (N := some 56) (v := ?_) (a' := ?_) #[true, true, true, true, false, true, true, true, false, false, false, false] rfl rfl (by kernel_rfl) (fun _ _ _ h => h) (Or.inl ⟨by rfl, ?_⟩) ?_ ?_
    rotate_left
    · intro w'
      go_simp
      with_reducible rfl
    rotate_left
    · simp only [Act.put, List.setIfInBounds_toArray, List.set_cons_zero, List.set_cons_succ, i64_w, i32_w]
      rfl
    refine take_ (i := 4) (N := some 53) (v := ?_) (a' := ?_) #[true, true, true, true, true, true, true, true, false, false, false, false] rfl rfl (by kernel_rfl) (fun _ _ _ h => h) (Or.inl ⟨by rfl, ?_⟩) hHeld ?_ ?_
    rotate_left
    · intro w' s0
      go_simp
      with_reducible rfl
    rotate_left
    · simp only [Act.put, List.setIfInBounds_toArray, List.set_cons_zero, List.set_cons_succ, i64_w, i32_w]
      rfl
    refine one_ (i := 8) (N := some 57) #[true, true, true, true, true, true, true, true, true, false, false, false] rfl rfl (by kernel_rfl) (by decide) (fun K hK => ?_)
    refine Kd.R_append_rows_step (Kd.int .i64) (Rr := fun x cs => cs = [Value.int .i64 x]) (w0 := w) B (by rfl) _ _ 27 3 (.int .i64 0) 8 rfl Try.underlying27 info3 rfl (by decide) (by decide) (.slice A xs.length c) xs l3 A3 l3.length (c2 - ls.length) (fun _ => True) (fun _ => False) rfl rfl (by exact HO.out) (by exact RD3.out) (fun x cs h => h) (fun _ h => h.elim) (fun _ _ => trivial) (by exact below_drew (pw_below_drewN (Below.refl B w) nq)) (by exact hBs) (by omega) ?_
    intro v1 w1 hr1 hb1 hg1 hat1
    obtain ⟨A4, c4, rfl, hl4, hrd4⟩ := Kd.R_reads hr1
    have hc1 := cell_grown hg1 (show (w.drewN nq).drew.cell? ⟨g, 0, none⟩ = _ from h0) hne
    have hbk := blk_grown (w := (w.drewN nq).drew) hb hg1 hne
    have hfz := blk_frozen hbk 0
    refine hK.out _ _ (hc1) (fun hHeld => ?_)
    clear hK K
    refine norm_ (a' := ?_) ?_ ?_
    rotate_left
    · show Act.put _ (some 57) _ = _
      simp only [Act.put, List.setIfInBounds_toArray, List.set_cons_zero, List.set_cons_succ, i64_w, i32_w]
      rfl
    refine pure_ (i := 9) (N := some 58) (v := ?_) (a' := ?_) #[true, true, true, true, true, true, true, true, true, true, false, false] rfl rfl (by kernel_rfl) (fun _ _ _ h => h) (Or.inl ⟨by rfl, ?_⟩) ?_ ?_
    rotate_left
    · intro w'
      go_simp
      with_reducible rfl
    rotate_left
    · simp only [Act.put, List.setIfInBounds_toArray, List.set_cons_zero, List.set_cons_succ, i64_w, i32_w]
      rfl
    refine pure_ (i := 10) (N := some 59) (v := ?_) (a' := ?_) #[true, true, true, true, true, true, true, true, true, true, true, false] rfl rfl (by kernel_rfl) (fun _ _ _ h => h) (Or.inl ⟨by rfl, ?_⟩) ?_ ?_
    rotate_left
    · intro w'
      go_simp
      with_reducible rfl
    rotate_left
    · simp only [Act.put, List.setIfInBounds_toArray, List.set_cons_zero, List.set_cons_succ, i64_w, i32_w]
      rfl
    refine last_ (i := 11) (N := none) #[true, true, true, true, true, true, true, true, true, true, true, true] rfl rfl (by kernel_rfl) (by decide) (fun K hK => ?_)
    refine skip_ (w1 := ?_) (by rfl) rfl ?_ ?_
    rotate_left
    · go_simp
      rfl
    refine hK.out _ _ ?_
    clear hK K
    refine done_ (by kernel_rfl) ?_
    go_wp2
    go_ret2
    exact ⟨_, by simp, by simpa using blk_set hbk 0 _, own_setCell (Kd.own_of_R hr1) (own_ne (Kd.own_of_R hr1) hbk (by decide)) _, turn_put hg1 _, hat1⟩
set_option maxRecDepth 100000 in
theorem put_ne (B g : Nat) (A : Option Addr) (c : Nat) (xs : List Int) (p : Int) (A2 : Option Addr) (c2 : Nat) (ls : List Int) (w : World) (hb : w.heap[g]? = some (.cells #[.slice A xs.length c, .bool true] 48 (0, 0)))
    (hgB : B ≤ g) (ho : w.ownsRow B 3 1 (.slice A xs.length c) xs.length (nums .i64 xs)) (hr : Rd w A2 ls) (hc2 : ls.length ≤ c2)
    (hn : (xs.length + ls.length) * 8 ≤ 140737488355328) (hp0 : 0 ≤ p) (hp1 : p ≤ xs.length) (t : Nat) (ht : (t : Int) = mn ls.length (xs.length - p)) (heq : ¬ (xs.drop p.toNat).take t = ls.take t) :
    Calls Try.prog 13 #[.pointer (some ⟨g, 0, none⟩), .int .i64 p, .slice A2 ls.length c2] w fun e w' => e = .returned (.tuple #[.int .i64 0, .int .i64 6]) ∧ Drawn0 w w' := by
  have h0 : w.cell? ⟨g, 0, none⟩ = some (.slice A xs.length c) := (blk_cell hb 0).trans rfl
  have hpb : decide (p < 0) = false := decide_eq_false (by omega)
  have hpc : decide ((xs.length : Int) < p) = false := decide_eq_false (by omega)
  obtain ⟨i, hi, his⟩ := info3'
  have hrx : Rd w A xs := by
    obtain ⟨A', c', he, _, h⟩ := own_rd ho
    injection he with he _ _
    subst he
    exact h
  have hcx : xs.length ≤ c := by
    obtain ⟨A', c', he, h, _⟩ := own_rd ho
    injection he with _ _ he
    omega
  have hm0 : t ≤ ls.length ∧ (t : Int) ≤ xs.length - p := by have := ht; unfold mn at this; split at this <;> omega
  obtain ⟨A1, cut1, rd1, le1⟩ := print_mid_of (P := Try.prog) (Value.int .i64) (0 : Int) 27 3 .i64 .i64 Try.underlying27 hi his A c xs p (p + t) hp0 (by omega) (by omega) hcx
  obtain ⟨cut2, rd2, le2⟩ := print_take_of (P := Try.prog) (Value.int .i64) (0 : Int) 27 3 .i64 Try.underlying27 hi his A2 c2 ls t (by omega) (by omega) hc2
  obtain ⟨A3, cut3, rd3, le3⟩ := print_drop_of (P := Try.prog) (Value.int .i64) (0 : Int) 27 3 .i64 Try.underlying27 hi his A2 c2 ls t (by omega) (by omega) hc2
  have RD1 := Aside0.mk (Rd.of (rd1 w hrx.ints))
  have RD2 := Aside0.mk (Rd.of (rd2 w hr.ints))
  have RD3 := Aside0.mk (Rd.of (rd3 w hr.ints))
  clear rd1 rd2 rd3
  simp only [Int.toNat_natCast] at cut2 cut3 RD2 RD3 le2 le3
  have hl1 : (xs.take (p + t).toNat).drop p.toNat = (xs.drop p.toNat).take t := by
    rw [List.drop_take]
    congr 1
    omega
  rw [hl1] at cut1 RD1 le1
  generalize hz1 : (xs.drop p.toNat).take t = l1 at *
  generalize hz2 : ls.take t = l2 at *
  generalize hz3 : ls.drop t = l3 at *
  have hd : decide (l1 = l2) = false := decide_eq_false heq
  clear hl1 hz1 hz2 hz3 heq
  have hcase : ((xs.length : Int) - p = t ∧ decide ((t : Int) < ls.length) = true) ∨ (t = ls.length ∧ decide ((xs.length : Int) - p < ls.length) = false) := by
    unfold mn at ht
    split at ht
    · exact .inl ⟨ht.symm, decide_eq_true (by omega)⟩
    · exact .inr ⟨by omega, decide_eq_false (by omega)⟩
  have HT := Aside0.mk ht
  clear ht
  rcases hcase with ⟨he, hlt⟩ | ⟨rfl, hlt⟩
  · have hlt' := of_decide_eq_true hlt
    go_enter Try.func13, Try.ntmps13
    go_wp2_with (go_at_call 26; refine (is_any g _ true _ hb).mono ?_; rintro e w' ⟨rfl, rfl⟩)
    go_quiet ((go_at_call 28; exact quiet_drawn (equal_any _ _ _ _ _ _ _ (RD1.out.drewN _) le1 (RD2.out.drewN _) le2)))
    go_wp2
    go_ret2
    exact ⟨rfl, ⟨_, rfl⟩⟩
  · have hlt' := of_decide_eq_false hlt
    go_enter Try.func13, Try.ntmps13
    go_wp2_with (go_at_call 26; refine (is_any g _ true _ hb).mono ?_; rintro e w' ⟨rfl, rfl⟩)
    go_quiet ((go_at_call 28; exact quiet_drawn (equal_any _ _ _ _ _ _ _ (RD1.out.drewN _) le1 (RD2.out.drewN _) le2)))
    go_wp2
    go_ret2
    exact ⟨rfl, ⟨_, rfl⟩⟩
end Go.Proofs.Ythijcbihdkheoaa.G
