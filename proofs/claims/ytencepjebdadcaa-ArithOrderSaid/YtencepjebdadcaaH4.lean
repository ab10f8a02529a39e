/- arith.If: what each call comes to. -/
import Derived.Test.YtencepjebdadcaaH3
namespace Go.Proofs.Ytencepjebdadcaa.A
open Go.RowKit Go.Proofs.YtencepjebdadcaaW.PrintWords Go.Proofs.YtencepjebdadcaaW.PrintLast Go.Proofs.YtencepjebdadcaaW.PrintMore
set_option linter.unusedVariables false
set_option linter.unusedSimpArgs false

/-- a condition, told by its number from 159 on -/
def ifP (op a b : Int) : Bool :=
  if op = 159 then a == b else if op = 160 then a != b else if op = 161 then decide (a < b) else if op = 162 then !decide (a < b) else if op = 163 then decide (b < a) else !decide (b < a)
def arith_If.f (op a b : Int) : Option (Bool × Int) :=
  some (if (isI a ∧ isI b) ∧ 153 ≤ op ∧ op ≤ 164 then (if op < 159 then ifP (op + 6) a 0 else ifP op a b, 0) else (false, 2))

set_option maxRecDepth 100000 in
theorem if_153 (a b : Int) (w : World) (hi : isI a ∧ isI b) :
    Calls Try.prog 22 #[.int .i64 153, .int .i64 a, .int .i64 b] w fun e w' => e = .returned (.tuple #[.bool (ifP 159 a 0), .int .i64 0]) ∧ Below w.heap.size w w' := by
  have HI := Lib.hid (is_any a b w)
  rw [decide_eq_true hi] at HI
  have HC := Lib.hid (cmp_any a 0)
  have hc : cmpP a 0 = -1 ∨ cmpP a 0 = 0 ∨ cmpP a 0 = 1 := by
    unfold cmpP
    split
    · exact .inl rfl
    · split
      · exact .inr (.inr rfl)
      · exact .inr (.inl rfl)
  have hR : ∀ c : Int, cmpP a 0 = c → ifP 159 a 0 = (c == 0) := by
    rintro c rfl
    unfold cmpP ifP
    by_cases h1 : a < 0
    · simp [h1]; try omega
    · by_cases h2 : 0 < a
      · simp [h1, h2]; try omega
      · simp [h1, h2]; try omega
  clear hi
  generalize hcm : cmpP a 0 = c at *
  have hR := Lib.hid (hR c rfl)
  rcases hc with rfl | rfl | rfl
  all_goals
    clear hcm
    go_enter Try.func22, Try.ntmps22
    go_wp2_with fail
    refine HI.out.mono ?_
    rintro e w1 ⟨rfl, ⟨m, rfl⟩⟩
    go_wp2_with fail
    refine (HC.out _).mono ?_
    rintro e w1 ⟨rfl, ⟨m2, rfl⟩⟩
    go_wp2
    go_ret2
    exact ⟨by rw [hR.out]; simp, below_alloc (pw_below_drewN (below_alloc (Below.refl _ _) _) _) _⟩

set_option maxRecDepth 100000 in
theorem if_154 (a b : Int) (w : World) (hi : isI a ∧ isI b) :
    Calls Try.prog 22 #[.int .i64 154, .int .i64 a, .int .i64 b] w fun e w' => e = .returned (.tuple #[.bool (ifP 160 a 0), .int .i64 0]) ∧ Below w.heap.size w w' := by
  have HI := Lib.hid (is_any a b w)
  rw [decide_eq_true hi] at HI
  have HC := Lib.hid (cmp_any a 0)
  have hc : cmpP a 0 = -1 ∨ cmpP a 0 = 0 ∨ cmpP a 0 = 1 := by
    unfold cmpP
    split
    · exact .inl rfl
    · split
      · exact .inr (.inr rfl)
      · exact .inr (.inl rfl)
  have hR : ∀ c : Int, cmpP a 0 = c → ifP 160 a 0 = (c != 0) := by
    rintro c rfl
    unfold cmpP ifP
    by_cases h1 : a < 0
    · simp [h1]; try omega
    · by_cases h2 : 0 < a
      · simp [h1, h2]; try omega
      · simp [h1, h2]; try omega
  clear hi
  generalize hcm : cmpP a 0 = c at *
  have hR := Lib.hid (hR c rfl)
  rcases hc with rfl | rfl | rfl
  all_goals
    clear hcm
    go_enter Try.func22, Try.ntmps22
    go_wp2_with fail
    refine HI.out.mono ?_
    rintro e w1 ⟨rfl, ⟨m, rfl⟩⟩
    go_wp2_with fail
    refine (HC.out _).mono ?_
    rintro e w1 ⟨rfl, ⟨m2, rfl⟩⟩
    go_wp2
    go_ret2
    exact ⟨by rw [hR.out]; simp, below_alloc (pw_below_drewN (below_alloc (Below.refl _ _) _) _) _⟩

set_option maxRecDepth 100000 in
theorem if_155 (a b : Int) (w : World) (hi : isI a ∧ isI b) :
    Calls Try.prog 22 #[.int .i64 155, .int .i64 a, .int .i64 b] w fun e w' => e = .returned (.tuple #[.bool (ifP 161 a 0), .int .i64 0]) ∧ Below w.heap.size w w' := by
  have HI := Lib.hid (is_any a b w)
  rw [decide_eq_true hi] at HI
  have HC := Lib.hid (cmp_any a 0)
  have hc : cmpP a 0 = -1 ∨ cmpP a 0 = 0 ∨ cmpP a 0 = 1 := by
    unfold cmpP
    split
    · exact .inl rfl
    · split
      · exact .inr (.inr rfl)
      · exact .inr (.inl rfl)
  have hR : ∀ c : Int, cmpP a 0 = c → ifP 161 a 0 = (decide (c < 0)) := by
    rintro c rfl
    unfold cmpP ifP
    by_cases h1 : a < 0
    · simp [h1]; try omega
    · by_cases h2 : 0 < a
      · simp [h1, h2]; try omega
      · simp [h1, h2]; try omega
  clear hi
  generalize hcm : cmpP a 0 = c at *
  have hR := Lib.hid (hR c rfl)
  rcases hc with rfl | rfl | rfl
  all_goals
    clear hcm
    go_enter Try.func22, Try.ntmps22
    go_wp2_with fail
    refine HI.out.mono ?_
    rintro e w1 ⟨rfl, ⟨m, rfl⟩⟩
    go_wp2_with fail
    refine (HC.out _).mono ?_
    rintro e w1 ⟨rfl, ⟨m2, rfl⟩⟩
    go_wp2
    go_ret2
    exact ⟨by rw [hR.out]; simp, below_alloc (pw_below_drewN (below_alloc (Below.refl _ _) _) _) _⟩

set_option maxRecDepth 100000 in
theorem if_156 (a b : Int) (w : World) (hi : isI a ∧ isI b) :
    Calls Try.prog 22 #[.int .i64 156, .int .i64 a, .int .i64 b] w fun e w' => e = .returned (.tuple #[.bool (ifP 162 a 0), .int .i64 0]) ∧ Below w.heap.size w w' := by
  have HI := Lib.hid (is_any a b w)
  rw [decide_eq_true hi] at HI
  have HC := Lib.hid (cmp_any a 0)
  have hc : cmpP a 0 = -1 ∨ cmpP a 0 = 0 ∨ cmpP a 0 = 1 := by
    unfold cmpP
    split
    · exact .inl rfl
    · split
      · exact .inr (.inr rfl)
      · exact .inr (.inl rfl)
  have hR : ∀ c : Int, cmpP a 0 = c → ifP 162 a 0 = (!decide (c < 0)) := by
    rintro c rfl
    unfold cmpP ifP
    by_cases h1 : a < 0
    · simp [h1]; try omega
    · by_cases h2 : 0 < a
      · simp [h1, h2]; try omega
      · simp [h1, h2]; try omega
  clear hi
  generalize hcm : cmpP a 0 = c at *
  have hR := Lib.hid (hR c rfl)
  rcases hc with rfl | rfl | rfl
  all_goals
    clear hcm
    go_enter Try.func22, Try.ntmps22
    go_wp2_with fail
    refine HI.out.mono ?_
    rintro e w1 ⟨rfl, ⟨m, rfl⟩⟩
    go_wp2_with fail
    refine (HC.out _).mono ?_
    rintro e w1 ⟨rfl, ⟨m2, rfl⟩⟩
    go_wp2
    go_ret2
    exact ⟨by rw [hR.out]; simp, below_alloc (pw_below_drewN (below_alloc (Below.refl _ _) _) _) _⟩

set_option maxRecDepth 100000 in
theorem if_157 (a b : Int) (w : World) (hi : isI a ∧ isI b) :
    Calls Try.prog 22 #[.int .i64 157, .int .i64 a, .int .i64 b] w fun e w' => e = .returned (.tuple #[.bool (ifP 163 a 0), .int .i64 0]) ∧ Below w.heap.size w w' := by
  have HI := Lib.hid (is_any a b w)
  rw [decide_eq_true hi] at HI
  have HC := Lib.hid (cmp_any a 0)
  have hc : cmpP a 0 = -1 ∨ cmpP a 0 = 0 ∨ cmpP a 0 = 1 := by
    unfold cmpP
    split
    · exact .inl rfl
    · split
      · exact .inr (.inr rfl)
      · exact .inr (.inl rfl)
  have hR : ∀ c : Int, cmpP a 0 = c → ifP 163 a 0 = (decide (0 < c)) := by
    rintro c rfl
    unfold cmpP ifP
    by_cases h1 : a < 0
    · simp [h1]; try omega
    · by_cases h2 : 0 < a
      · simp [h1, h2]; try omega
      · simp [h1, h2]; try omega
  clear hi
  generalize hcm : cmpP a 0 = c at *
  have hR := Lib.hid (hR c rfl)
  rcases hc with rfl | rfl | rfl
  all_goals
    clear hcm
    go_enter Try.func22, Try.ntmps22
    go_wp2_with fail
    refine HI.out.mono ?_
    rintro e w1 ⟨rfl, ⟨m, rfl⟩⟩
    go_wp2_with fail
    refine (HC.out _).mono ?_
    rintro e w1 ⟨rfl, ⟨m2, rfl⟩⟩
    go_wp2
    go_ret2
    exact ⟨by rw [hR.out]; simp, below_alloc (pw_below_drewN (below_alloc (Below.refl _ _) _) _) _⟩

set_option maxRecDepth 100000 in
theorem if_158 (a b : Int) (w : World) (hi : isI a ∧ isI b) :
    Calls Try.prog 22 #[.int .i64 158, .int .i64 a, .int .i64 b] w fun e w' => e = .returned (.tuple #[.bool (ifP 164 a 0), .int .i64 0]) ∧ Below w.heap.size w w' := by
  have HI := Lib.hid (is_any a b w)
  rw [decide_eq_true hi] at HI
  have HC := Lib.hid (cmp_any a 0)
  have hc : cmpP a 0 = -1 ∨ cmpP a 0 = 0 ∨ cmpP a 0 = 1 := by
    unfold cmpP
    split
    · exact .inl rfl
    · split
      · exact .inr (.inr rfl)
      · exact .inr (.inl rfl)
  have hR : ∀ c : Int, cmpP a 0 = c → ifP 164 a 0 = (!decide (0 < c)) := by
    rintro c rfl
    unfold cmpP ifP
    by_cases h1 : a < 0
    · simp [h1]; try omega
    · by_cases h2 : 0 < a
      · simp [h1, h2]; try omega
      · simp [h1, h2]; try omega
  clear hi
  generalize hcm : cmpP a 0 = c at *
  have hR := Lib.hid (hR c rfl)
  rcases hc with rfl | rfl | rfl
  all_goals
    clear hcm
    go_enter Try.func22, Try.ntmps22
    go_wp2_with fail
    refine HI.out.mono ?_
    rintro e w1 ⟨rfl, ⟨m, rfl⟩⟩
    go_wp2_with fail
    refine (HC.out _).mono ?_
    rintro e w1 ⟨rfl, ⟨m2, rfl⟩⟩
    go_wp2
    go_ret2
    exact ⟨by rw [hR.out]; simp, below_alloc (pw_below_drewN (below_alloc (Below.refl _ _) _) _) _⟩

set_option maxRecDepth 100000 in
theorem if_159 (a b : Int) (w : World) (hi : isI a ∧ isI b) :
    Calls Try.prog 22 #[.int .i64 159, .int .i64 a, .int .i64 b] w fun e w' => e = .returned (.tuple #[.bool (ifP 159 a b), .int .i64 0]) ∧ Below w.heap.size w w' := by
  have HI := Lib.hid (is_any a b w)
  rw [decide_eq_true hi] at HI
  have HC := Lib.hid (cmp_any a b)
  have hc : cmpP a b = -1 ∨ cmpP a b = 0 ∨ cmpP a b = 1 := by
    unfold cmpP
    split
    · exact .inl rfl
    · split
      · exact .inr (.inr rfl)
      · exact .inr (.inl rfl)
  have hR : ∀ c : Int, cmpP a b = c → ifP 159 a b = (c == 0) := by
    rintro c rfl
    unfold cmpP ifP
    by_cases h1 : a < b
    · simp [h1]; try omega
    · by_cases h2 : b < a
      · simp [h1, h2]; try omega
      · simp [h1, h2]; try omega
  clear hi
  generalize hcm : cmpP a b = c at *
  have hR := Lib.hid (hR c rfl)
  rcases hc with rfl | rfl | rfl
  all_goals
    clear hcm
    go_enter Try.func22, Try.ntmps22
    go_wp2_with fail
    refine HI.out.mono ?_
    rintro e w1 ⟨rfl, ⟨m, rfl⟩⟩
    go_wp2_with fail
    refine (HC.out _).mono ?_
    rintro e w1 ⟨rfl, ⟨m2, rfl⟩⟩
    go_wp2
    go_ret2
    exact ⟨by rw [hR.out]; simp, below_alloc (pw_below_drewN (below_alloc (Below.refl _ _) _) _) _⟩

set_option maxRecDepth 100000 in
theorem if_160 (a b : Int) (w : World) (hi : isI a ∧ isI b) :
    Calls Try.prog 22 #[.int .i64 160, .int .i64 a, .int .i64 b] w fun e w' => e = .returned (.tuple #[.bool (ifP 160 a b), .int .i64 0]) ∧ Below w.heap.size w w' := by
  have HI := Lib.hid (is_any a b w)
  rw [decide_eq_true hi] at HI
  have HC := Lib.hid (cmp_any a b)
  have hc : cmpP a b = -1 ∨ cmpP a b = 0 ∨ cmpP a b = 1 := by
    unfold cmpP
    split
    · exact .inl rfl
    · split
      · exact .inr (.inr rfl)
      · exact .inr (.inl rfl)
  have hR : ∀ c : Int, cmpP a b = c → ifP 160 a b = (c != 0) := by
    rintro c rfl
    unfold cmpP ifP
    by_cases h1 : a < b
    · simp [h1]; try omega
    · by_cases h2 : b < a
      · simp [h1, h2]; try omega
      · simp [h1, h2]; try omega
  clear hi
  generalize hcm : cmpP a b = c at *
  have hR := Lib.hid (hR c rfl)
  rcases hc with rfl | rfl | rfl
  all_goals
    clear hcm
    go_enter Try.func22, Try.ntmps22
    go_wp2_with fail
    refine HI.out.mono ?_
    rintro e w1 ⟨rfl, ⟨m, rfl⟩⟩
    go_wp2_with fail
    refine (HC.out _).mono ?_
    rintro e w1 ⟨rfl, ⟨m2, rfl⟩⟩
    go_wp2
    go_ret2
    exact ⟨by rw [hR.out]; simp, below_alloc (pw_below_drewN (below_alloc (Below.refl _ _) _) _) _⟩

set_option maxRecDepth 100000 in
theorem if_161 (a b : Int) (w : World) (hi : isI a ∧ isI b) :
    Calls Try.prog 22 #[.int .i64 161, .int .i64 a, .int .i64 b] w fun e w' => e = .returned (.tuple #[.bool (ifP 161 a b), .int .i64 0]) ∧ Below w.heap.size w w' := by
  have HI := Lib.hid (is_any a b w)
  rw [decide_eq_true hi] at HI
  have HC := Lib.hid (cmp_any a b)
  have hc : cmpP a b = -1 ∨ cmpP a b = 0 ∨ cmpP a b = 1 := by
    unfold cmpP
    split
    · exact .inl rfl
    · split
      · exact .inr (.inr rfl)
      · exact .inr (.inl rfl)
  have hR : ∀ c : Int, cmpP a b = c → ifP 161 a b = (decide (c < 0)) := by
    rintro c rfl
    unfold cmpP ifP
    by_cases h1 : a < b
    · simp [h1]; try omega
    · by_cases h2 : b < a
      · simp [h1, h2]; try omega
      · simp [h1, h2]; try omega
  clear hi
  generalize hcm : cmpP a b = c at *
  have hR := Lib.hid (hR c rfl)
  rcases hc with rfl | rfl | rfl
  all_goals
    clear hcm
    go_enter Try.func22, Try.ntmps22
    go_wp2_with fail
    refine HI.out.mono ?_
    rintro e w1 ⟨rfl, ⟨m, rfl⟩⟩
    go_wp2_with fail
    refine (HC.out _).mono ?_
    rintro e w1 ⟨rfl, ⟨m2, rfl⟩⟩
    go_wp2
    go_ret2
    exact ⟨by rw [hR.out]; simp, below_alloc (pw_below_drewN (below_alloc (Below.refl _ _) _) _) _⟩

set_option maxRecDepth 100000 in
theorem if_162 (a b : Int) (w : World) (hi : isI a ∧ isI b) :
    Calls Try.prog 22 #[.int .i64 162, .int .i64 a, .int .i64 b] w fun e w' => e = .returned (.tuple #[.bool (ifP 162 a b), .int .i64 0]) ∧ Below w.heap.size w w' := by
  have HI := Lib.hid (is_any a b w)
  rw [decide_eq_true hi] at HI
  have HC := Lib.hid (cmp_any a b)
  have hc : cmpP a b = -1 ∨ cmpP a b = 0 ∨ cmpP a b = 1 := by
    unfold cmpP
    split
    · exact .inl rfl
    · split
      · exact .inr (.inr rfl)
      · exact .inr (.inl rfl)
  have hR : ∀ c : Int, cmpP a b = c → ifP 162 a b = (!decide (c < 0)) := by
    rintro c rfl
    unfold cmpP ifP
    by_cases h1 : a < b
    · simp [h1]; try omega
    · by_cases h2 : b < a
      · simp [h1, h2]; try omega
      · simp [h1, h2]; try omega
  clear hi
  generalize hcm : cmpP a b = c at *
  have hR := Lib.hid (hR c rfl)
  rcases hc with rfl | rfl | rfl
  all_goals
    clear hcm
    go_enter Try.func22, Try.ntmps22
    go_wp2_with fail
    refine HI.out.mono ?_
    rintro e w1 ⟨rfl, ⟨m, rfl⟩⟩
    go_wp2_with fail
    refine (HC.out _).mono ?_
    rintro e w1 ⟨rfl, ⟨m2, rfl⟩⟩
    go_wp2
    go_ret2
    exact ⟨by rw [hR.out]; simp, below_alloc (pw_below_drewN (below_alloc (Below.refl _ _) _) _) _⟩

set_option maxRecDepth 100000 in
theorem if_163 (a b : Int) (w : World) (hi : isI a ∧ isI b) :
    Calls Try.prog 22 #[.int .i64 163, .int .i64 a, .int .i64 b] w fun e w' => e = .returned (.tuple #[.bool (ifP 163 a b), .int .i64 0]) ∧ Below w.heap.size w w' := by
  have HI := Lib.hid (is_any a b w)
  rw [decide_eq_true hi] at HI
  have HC := Lib.hid (cmp_any a b)
  have hc : cmpP a b = -1 ∨ cmpP a b = 0 ∨ cmpP a b = 1 := by
    unfold cmpP
    split
    · exact .inl rfl
    · split
      · exact .inr (.inr rfl)
      · exact .inr (.inl rfl)
  have hR : ∀ c : Int, cmpP a b = c → ifP 163 a b = (decide (0 < c)) := by
    rintro c rfl
    unfold cmpP ifP
    by_cases h1 : a < b
    · simp [h1]; try omega
    · by_cases h2 : b < a
      · simp [h1, h2]; try omega
      · simp [h1, h2]; try omega
  clear hi
  generalize hcm : cmpP a b = c at *
  have hR := Lib.hid (hR c rfl)
  rcases hc with rfl | rfl | rfl
  all_goals
    clear hcm
    go_enter Try.func22, Try.ntmps22
    go_wp2_with fail
    refine HI.out.mono ?_
    rintro e w1 ⟨rfl, ⟨m, rfl⟩⟩
    go_wp2_with fail
    refine (HC.out _).mono ?_
    rintro e w1 ⟨rfl, ⟨m2, rfl⟩⟩
    go_wp2
    go_ret2
    exact ⟨by rw [hR.out]; simp, below_alloc (pw_below_drewN (below_alloc (Below.refl _ _) _) _) _⟩

set_option maxRecDepth 100000 in
theorem if_164 (a b : Int) (w : World) (hi : isI a ∧ isI b) :
    Calls Try.prog 22 #[.int .i64 164, .int .i64 a, .int .i64 b] w fun e w' => e = .returned (.tuple #[.bool (ifP 164 a b), .int .i64 0]) ∧ Below w.heap.size w w' := by
  have HI := Lib.hid (is_any a b w)
  rw [decide_eq_true hi] at HI
  have HC := Lib.hid (cmp_any a b)
  have hc : cmpP a b = -1 ∨ cmpP a b = 0 ∨ cmpP a b = 1 := by
    unfold cmpP
    split
    · exact .inl rfl
    · split
      · exact .inr (.inr rfl)
      · exact .inr (.inl rfl)
  have hR : ∀ c : Int, cmpP a b = c → ifP 164 a b = (!decide (0 < c)) := by
    rintro c rfl
    unfold cmpP ifP
    by_cases h1 : a < b
    · simp [h1]; try omega
    · by_cases h2 : b < a
      · simp [h1, h2]; try omega
      · simp [h1, h2]; try omega
  clear hi
  generalize hcm : cmpP a b = c at *
  have hR := Lib.hid (hR c rfl)
  rcases hc with rfl | rfl | rfl
  all_goals
    clear hcm
    go_enter Try.func22, Try.ntmps22
    go_wp2_with fail
    refine HI.out.mono ?_
    rintro e w1 ⟨rfl, ⟨m, rfl⟩⟩
    go_wp2_with fail
    refine (HC.out _).mono ?_
    rintro e w1 ⟨rfl, ⟨m2, rfl⟩⟩
    go_wp2
    go_ret2
    exact ⟨by rw [hR.out]; simp, below_alloc (pw_below_drewN (below_alloc (Below.refl _ _) _) _) _⟩
end Go.Proofs.Ytencepjebdadcaa.A
