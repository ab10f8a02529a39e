/- arith.do, arith.Int, arith.Long, arith.If: what each call comes to. -/
import Derived.Test.YtencepjebdadcaaH1
import Derived.Test.YtencepjebdadcaaH2
import Derived.Test.YtencepjebdadcaaM1
import Derived.Lib.Hide
namespace Go.Proofs.Ytencepjebdadcaa.A
open Go.RowKit Go.Proofs.YtencepjebdadcaaW.PrintWords Go.Proofs.YtencepjebdadcaaW.PrintLast Go.Proofs.YtencepjebdadcaaW.PrintMore
set_option linter.unusedVariables false
set_option linter.unusedSimpArgs false

theorem do_small_any (op a b : Int) (w : World) :
    Calls Try.prog 26 #[.int .i64 op, .int .i32 a, .int .i32 b, .func (.func 27) #[] #[], .func (.func 28) #[] #[]] w fun e w' => e = .returned (.tuple #[.int .i32 (doS op a b).1, .int .i64 (doS op a b).2]) ∧ w = w' := by
  have hm := and_mask5 b
  have h0 : 0 ≤ b % 32 := Int.emod_nonneg _ (by omega)
  have h1 : b % 32 ≤ 31 := by omega
  by_cases c96 : op = 96
  · subst c96
    exact do_small_96 a b _ w hm h0 h1
  by_cases c100 : op = 100
  · subst c100
    exact do_small_100 a b _ w hm h0 h1
  by_cases c104 : op = 104
  · subst c104
    exact do_small_104 a b _ w hm h0 h1
  by_cases c108 : op = 108
  · subst c108
    by_cases hb : b = 0
    · subst hb
      exact do_small_108_0 a _ w hm h0 h1
    · have e : doS 108 a b = (wrap32 (a.tdiv b), 0) := by unfold doS; rw [if_neg (by decide), if_neg (by decide), if_neg (by decide), if_pos rfl, if_neg hb]
      rw [e]
      exact do_small_108 a b _ w hm h0 h1 (beq_eq_false_iff_ne.2 hb) hb
  by_cases c112 : op = 112
  · subst c112
    by_cases hb : b = 0
    · subst hb
      exact do_small_112_0 a _ w hm h0 h1
    · have e : doS 112 a b = (a.tmod b, 0) := by unfold doS; rw [if_neg (by decide), if_neg (by decide), if_neg (by decide), if_neg (by decide), if_pos rfl, if_neg hb]
      rw [e]
      exact do_small_112 a b _ w hm h0 h1 (beq_eq_false_iff_ne.2 hb) hb
  by_cases c120 : op = 120
  · subst c120
    exact do_small_120 a b _ w hm h0 h1
  by_cases c122 : op = 122
  · subst c122
    exact do_small_122 a b _ w hm h0 h1
  by_cases c124 : op = 124
  · subst c124
    exact do_small_124 a b _ w hm h0 h1
  by_cases c126 : op = 126
  · subst c126
    exact do_small_126 a b _ w hm h0 h1
  by_cases c128 : op = 128
  · subst c128
    exact do_small_128 a b _ w hm h0 h1
  by_cases c130 : op = 130
  · subst c130
    exact do_small_130 a b _ w hm h0 h1
  have e : doS op a b = (0, 2) := by unfold doS; rw [if_neg c96, if_neg c100, if_neg c104, if_neg c108, if_neg c112, if_neg c120, if_neg c122, if_neg c124, if_neg c126, if_neg c128, if_neg c130]
  rw [e]
  exact do_small_no op a b _ w hm h0 h1 (beq_eq_false_iff_ne.2 c96) (beq_eq_false_iff_ne.2 c100) (beq_eq_false_iff_ne.2 c104) (beq_eq_false_iff_ne.2 c108) (beq_eq_false_iff_ne.2 c112) (beq_eq_false_iff_ne.2 c120) (beq_eq_false_iff_ne.2 c122) (beq_eq_false_iff_ne.2 c124) (beq_eq_false_iff_ne.2 c126) (beq_eq_false_iff_ne.2 c128) (beq_eq_false_iff_ne.2 c130)

theorem do_large_any (op a b : Int) (w : World) :
    Calls Try.prog 34 #[.int .i64 op, .int .i64 a, .int .i64 b, .func (.func 35) #[] #[], .func (.func 36) #[] #[]] w fun e w' => e = .returned (.tuple #[.int .i64 (doL op a b).1, .int .i64 (doL op a b).2]) ∧ w = w' := by
  have hm := and_mask6 b
  have h0 : 0 ≤ b % 64 := Int.emod_nonneg _ (by omega)
  have h1 : b % 64 ≤ 63 := by omega
  by_cases c96 : op = 96
  · subst c96
    exact do_large_96 a b _ w hm h0 h1
  by_cases c100 : op = 100
  · subst c100
    exact do_large_100 a b _ w hm h0 h1
  by_cases c104 : op = 104
  · subst c104
    exact do_large_104 a b _ w hm h0 h1
  by_cases c108 : op = 108
  · subst c108
    by_cases hb : b = 0
    · subst hb
      exact do_large_108_0 a _ w hm h0 h1
    · have e : doL 108 a b = (wrap64 (a.tdiv b), 0) := by unfold doL; rw [if_neg (by decide), if_neg (by decide), if_neg (by decide), if_pos rfl, if_neg hb]
      rw [e]
      exact do_large_108 a b _ w hm h0 h1 (beq_eq_false_iff_ne.2 hb) hb
  by_cases c112 : op = 112
  · subst c112
    by_cases hb : b = 0
    · subst hb
      exact do_large_112_0 a _ w hm h0 h1
    · have e : doL 112 a b = (a.tmod b, 0) := by unfold doL; rw [if_neg (by decide), if_neg (by decide), if_neg (by decide), if_neg (by decide), if_pos rfl, if_neg hb]
      rw [e]
      exact do_large_112 a b _ w hm h0 h1 (beq_eq_false_iff_ne.2 hb) hb
  by_cases c120 : op = 120
  · subst c120
    exact do_large_120 a b _ w hm h0 h1
  by_cases c122 : op = 122
  · subst c122
    exact do_large_122 a b _ w hm h0 h1
  by_cases c124 : op = 124
  · subst c124
    exact do_large_124 a b _ w hm h0 h1
  by_cases c126 : op = 126
  · subst c126
    exact do_large_126 a b _ w hm h0 h1
  by_cases c128 : op = 128
  · subst c128
    exact do_large_128 a b _ w hm h0 h1
  by_cases c130 : op = 130
  · subst c130
    exact do_large_130 a b _ w hm h0 h1
  have e : doL op a b = (0, 2) := by unfold doL; rw [if_neg c96, if_neg c100, if_neg c104, if_neg c108, if_neg c112, if_neg c120, if_neg c122, if_neg c124, if_neg c126, if_neg c128, if_neg c130]
  rw [e]
  exact do_large_no op a b _ w hm h0 h1 (beq_eq_false_iff_ne.2 c96) (beq_eq_false_iff_ne.2 c100) (beq_eq_false_iff_ne.2 c104) (beq_eq_false_iff_ne.2 c108) (beq_eq_false_iff_ne.2 c112) (beq_eq_false_iff_ne.2 c120) (beq_eq_false_iff_ne.2 c122) (beq_eq_false_iff_ne.2 c124) (beq_eq_false_iff_ne.2 c126) (beq_eq_false_iff_ne.2 c128) (beq_eq_false_iff_ne.2 c130)

theorem info3 : (Try.prog.info? 3).map (fun i => (i.zero, i.size, i.bytes)) = some (some (.int .i64 0), 1, 8) := by kernel_rfl
theorem lit_rd (w : World) (xs : List Int) (hm : xs.length ≤ 9223372036854775807) : (Kd.int .i64).C (w.alloc (.cells (nums .i64 xs).toArray 3)) (some ⟨w.heap.size, 0, none⟩) xs.length xs := by
  have hR : (Kd.int .i64).R 3 (w.alloc (.cells (nums .i64 xs).toArray 3)) w.heap.size (fun _ => True) (.slice (some ⟨w.heap.size, 0, none⟩) xs.length xs.length) xs := Kd.R_of_own (enc := Value.int .i64) (h1 := fun _ => rfl) (own_lit w w.heap.size 3 .i64 xs (Nat.le_refl _) hm) (fun _ _ => trivial)
  obtain ⟨A, c, he, _, h⟩ := Kd.R_reads hR
  injection he with he _ _
  subst he
  exact h
theorem round_f (a : Int) : PArithOnes.arith_Round.f a = some (wrap32 a) := by
  unfold PArithOnes.arith_Round.f
  congr 1
  unfold wrap64 wrap32
  omega
theorem round_eq (a : Int) : a = wrap32 a ↔ isI a := by unfold wrap32 isI; omega
theorem is_two (a b : Int) : PArithOnes.arith_is.f 3 [a, b] = some (decide (isI a ∧ isI b)) := by
  have e1 : wrap64 (0 + 1) = 1 := by unfold wrap64; omega
  have e2 : wrap64 (1 + 1) = 2 := by unfold wrap64; omega
  simp only [PArithOnes.arith_is.f, PArithOnes.arith_is.l0, round_f, Option.bind_some, rd, List.length_cons, List.length_nil, e1, e2]
  by_cases ha : isI a
  · have ha' := (round_eq a).2 ha
    by_cases hb : isI b
    · have hb' := (round_eq b).2 hb
      simp [← ha', ← hb', ha, hb]
    · have hb' : ¬ b = wrap32 b := fun h => hb ((round_eq b).1 h)
      simp [← ha', hb', ha, hb]
  · have ha' : ¬ a = wrap32 a := fun h => ha ((round_eq a).1 h)
    simp [ha', ha]
theorem is_any (a b : Int) (w : World) :
    Calls Try.prog 25 #[.slice (some ⟨w.heap.size, 0, none⟩) 2 2] (w.alloc (.cells #[.int .i64 a, .int .i64 b] 3)) fun e w' => e = .returned (.bool (decide (isI a ∧ isI b))) ∧ Drawn0 (w.alloc (.cells #[.int .i64 a, .int .i64 b] 3)) w' :=
  PArithOnes.arith_is.calls 3 (some ⟨w.heap.size, 0, none⟩) 2 [a, b] _ (w.alloc (.cells (nums .i64 [a, b]).toArray 3)) (lit_rd w [a, b] (by simp)) (by simp) (is_two a b)

def arith_Int.f (op a b : Int) : Option (Int × Int) := some (if isI a ∧ isI b then doS op a b else (0, 2))
theorem arith_Int.calls (a0 a1 a2 r1 r2 : Int) (w : World) (h : arith_Int.f a0 a1 a2 = some (r1, r2)) :
    Calls Try.prog 10 #[.int .i64 a0, .int .i64 a1, .int .i64 a2] w fun e w' => e = .returned (.tuple #[.int .i64 r1, .int .i64 r2]) ∧ Below w.heap.size w w' := by
  unfold arith_Int.f at h
  have h := Option.some.inj h
  by_cases hi : isI a1 ∧ isI a2
  · rw [if_pos hi] at h
    have hd : decide (isI a1 ∧ isI a2) = true := decide_eq_true hi
    have hr := doS_isI a0 a1 a2 hi.1
    have hcall := do_small_any a0 a1 a2
    rw [h] at hr hcall
    have HC := Lib.hid hcall
    have HI := Lib.hid (is_any a1 a2 w)
    rw [hd] at HI
    obtain ⟨⟨p1, p2⟩, p3, p4⟩ := hi
    obtain ⟨p5, p6⟩ := hr
    simp only at p5 p6
    clear h hd hcall
    go_enter Try.func10, Try.ntmps10
    go_wp2_with fail
    refine HI.out.mono ?_
    rintro e w1 ⟨rfl, ⟨m, rfl⟩⟩
    go_wp2_with fail
    refine (HC.out _).mono ?_
    rintro e w1 ⟨rfl, rfl⟩
    go_wp2
    go_ret2
    exact ⟨rfl, pw_below_drewN (below_alloc (Below.refl _ _) _) _⟩
  · rw [if_neg hi] at h
    have hd : decide (isI a1 ∧ isI a2) = false := decide_eq_false hi
    have HI := Lib.hid (is_any a1 a2 w)
    rw [hd] at HI
    simp only [Prod.mk.injEq] at h
    obtain ⟨rfl, rfl⟩ := h
    clear hi hd
    go_enter Try.func10, Try.ntmps10
    go_wp2_with fail
    refine HI.out.mono ?_
    rintro e w1 ⟨rfl, ⟨m, rfl⟩⟩
    go_wp2
    go_ret2
    exact ⟨rfl, pw_below_drewN (below_alloc (Below.refl _ _) _) _⟩

def cmpP (a b : Int) : Int := if a < b then -1 else if b < a then 1 else 0
theorem cmp_f (a b : Int) : PArithOnes.cmp_Compare_int.f a b = some (cmpP a b) := by
  unfold PArithOnes.cmp_Compare_int.f PArithOnes.cmp_isNaN_int.f cmpP
  simp only [Option.bind_some, bne_self_eq_false]
  simp only [Bool.false_eq_true, if_false, gt_iff_lt]
  split
  · rfl
  · split <;> rfl
theorem cmp_any (a b : Int) (w : World) : Calls Try.prog 33 #[.int .i64 a, .int .i64 b] w fun e w' => e = .returned (.int .i64 (cmpP a b)) ∧ Drawn0 w w' :=
  PArithOnes.cmp_Compare_int.calls a b _ w (cmp_f a b)

instance (a : Int) : Decidable (isL a) := inferInstanceAs (Decidable (_ ∧ _))
def arith_Long.f (op a b : Int) : Option (Int × Int) :=
  if isL op ∧ isL a ∧ isL b then (if op = 148 then some (cmpP a b, 0) else some (doL (wrap64 (op - 1)) a b)) else none
theorem arith_Long.calls (a0 a1 a2 r1 r2 : Int) (w : World) (h : arith_Long.f a0 a1 a2 = some (r1, r2)) :
    Calls Try.prog 17 #[.int .i64 a0, .int .i64 a1, .int .i64 a2] w fun e w' => e = .returned (.tuple #[.int .i64 r1, .int .i64 r2]) ∧ Drawn0 w w' := by
  unfold arith_Long.f at h
  by_cases hl : isL a0 ∧ isL a1 ∧ isL a2
  · rw [if_pos hl] at h
    by_cases h148 : a0 = 148
    · rw [if_pos h148] at h
      have h := Option.some.inj h
      simp only [Prod.mk.injEq] at h
      obtain ⟨rfl, rfl⟩ := h
      subst h148
      clear hl
      have HC := Lib.hid (cmp_any a1 a2)
      go_enter Try.func17, Try.ntmps17
      go_wp2_with fail
      refine (HC.out _).mono ?_
      rintro e w1 ⟨rfl, ⟨m, rfl⟩⟩
      go_wp2
      go_ret2
      exact ⟨rfl, ⟨_, rfl⟩⟩
    · rw [if_neg h148] at h
      have h := Option.some.inj h
      have hb : (a0 == 148) = false := beq_eq_false_iff_ne.2 h148
      have hr := doL_isL (wrap64 (a0 - 1)) a1 a2 hl.2.1
      have hcall := do_large_any (wrap64 (a0 - 1)) a1 a2
      rw [h] at hr hcall
      have HC := Lib.hid hcall
      obtain ⟨⟨p1, p2⟩, ⟨p3, p4⟩, ⟨p5, p6⟩⟩ := hl
      obtain ⟨q1, q2⟩ := hr
      simp only at q1 q2
      clear h hcall
      go_enter Try.func17, Try.ntmps17
      go_wp2_with fail
      refine (HC.out _).mono ?_
      rintro e w1 ⟨rfl, rfl⟩
      go_wp2
      go_ret2
      exact ⟨rfl, .refl _⟩
  · rw [if_neg hl] at h
    cases h
end Go.Proofs.Ytencepjebdadcaa.A
