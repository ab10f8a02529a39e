/- arith.do at both its instances: what each operation comes to. -/
import Derived.Test.YtencepjebdadcaaPArithOnesx1
import Derived.WalkSpells
import Derived.Laws.BitsAllLaws
namespace Go.Proofs.Ytencepjebdadcaa.A
open Go.RowKit Go.Proofs.YtencepjebdadcaaW.PrintWords Go.Proofs.YtencepjebdadcaaW.PrintLast Go.Proofs.YtencepjebdadcaaW.PrintMore
set_option linter.unusedVariables false
set_option linter.unusedSimpArgs false

theorem over_small (a n : Int) (w : World) (h0 : 0 ≤ n) (h1 : n ≤ 31) :
    Calls Try.prog 27 #[.int .i32 a, .int .u64 n] w fun e w' => e = .returned (.int .i32 (wrap32 (a % 4294967296 / 2 ^ n.toNat))) ∧ w = w' := by
  go_enter Try.func27, Try.ntmps27
  go_wp2
  go_ret
  exact ⟨rfl, rfl⟩

theorem do_small_96 (a b m : Int) (w : World) (hm : bits .and .u64 (IntKind.u64.wrap b) 31 = m) (h0 : 0 ≤ m) (h1 : m ≤ 31)  :
    Calls Try.prog 26 #[.int .i64 96, .int .i32 a, .int .i32 b, .func (.func 27) #[] #[], .func (.func 28) #[] #[]] w fun e w' => e = .returned (.tuple #[.int .i32 (wrap32 (a + b)), .int .i64 0]) ∧ w = w' := by
  go_enter Try.func26, Try.ntmps26
  go_wp2
  go_ret2
  exact ⟨rfl, rfl⟩

theorem do_small_100 (a b m : Int) (w : World) (hm : bits .and .u64 (IntKind.u64.wrap b) 31 = m) (h0 : 0 ≤ m) (h1 : m ≤ 31)  :
    Calls Try.prog 26 #[.int .i64 100, .int .i32 a, .int .i32 b, .func (.func 27) #[] #[], .func (.func 28) #[] #[]] w fun e w' => e = .returned (.tuple #[.int .i32 (wrap32 (a - b)), .int .i64 0]) ∧ w = w' := by
  go_enter Try.func26, Try.ntmps26
  go_wp2
  go_ret2
  exact ⟨rfl, rfl⟩

theorem do_small_104 (a b m : Int) (w : World) (hm : bits .and .u64 (IntKind.u64.wrap b) 31 = m) (h0 : 0 ≤ m) (h1 : m ≤ 31)  :
    Calls Try.prog 26 #[.int .i64 104, .int .i32 a, .int .i32 b, .func (.func 27) #[] #[], .func (.func 28) #[] #[]] w fun e w' => e = .returned (.tuple #[.int .i32 (wrap32 (a * b)), .int .i64 0]) ∧ w = w' := by
  go_enter Try.func26, Try.ntmps26
  go_wp2
  go_ret2
  exact ⟨rfl, rfl⟩

theorem do_small_108 (a b m : Int) (w : World) (hm : bits .and .u64 (IntKind.u64.wrap b) 31 = m) (h0 : 0 ≤ m) (h1 : m ≤ 31) (hb : (b == 0) = false) (hb1 : ¬ b = 0) :
    Calls Try.prog 26 #[.int .i64 108, .int .i32 a, .int .i32 b, .func (.func 27) #[] #[], .func (.func 28) #[] #[]] w fun e w' => e = .returned (.tuple #[.int .i32 (wrap32 (a.tdiv b)), .int .i64 0]) ∧ w = w' := by
  go_enter Try.func26, Try.ntmps26
  go_wp2
  go_ret2
  exact ⟨rfl, rfl⟩

theorem do_small_112 (a b m : Int) (w : World) (hm : bits .and .u64 (IntKind.u64.wrap b) 31 = m) (h0 : 0 ≤ m) (h1 : m ≤ 31) (hb : (b == 0) = false) (hb1 : ¬ b = 0) :
    Calls Try.prog 26 #[.int .i64 112, .int .i32 a, .int .i32 b, .func (.func 27) #[] #[], .func (.func 28) #[] #[]] w fun e w' => e = .returned (.tuple #[.int .i32 (a.tmod b), .int .i64 0]) ∧ w = w' := by
  go_enter Try.func26, Try.ntmps26
  go_wp2
  go_ret2
  exact ⟨rfl, rfl⟩

theorem do_small_120 (a b m : Int) (w : World) (hm : bits .and .u64 (IntKind.u64.wrap b) 31 = m) (h0 : 0 ≤ m) (h1 : m ≤ 31)  :
    Calls Try.prog 26 #[.int .i64 120, .int .i32 a, .int .i32 b, .func (.func 27) #[] #[], .func (.func 28) #[] #[]] w fun e w' => e = .returned (.tuple #[.int .i32 (wrap32 (a * 2 ^ m.toNat)), .int .i64 0]) ∧ w = w' := by
  go_enter Try.func26, Try.ntmps26
  go_wp2
  go_ret2
  exact ⟨rfl, rfl⟩

theorem do_small_122 (a b m : Int) (w : World) (hm : bits .and .u64 (IntKind.u64.wrap b) 31 = m) (h0 : 0 ≤ m) (h1 : m ≤ 31)  :
    Calls Try.prog 26 #[.int .i64 122, .int .i32 a, .int .i32 b, .func (.func 27) #[] #[], .func (.func 28) #[] #[]] w fun e w' => e = .returned (.tuple #[.int .i32 (a / 2 ^ m.toNat), .int .i64 0]) ∧ w = w' := by
  go_enter Try.func26, Try.ntmps26
  go_wp2
  go_ret2
  exact ⟨rfl, rfl⟩

theorem do_small_124 (a b m : Int) (w : World) (hm : bits .and .u64 (IntKind.u64.wrap b) 31 = m) (h0 : 0 ≤ m) (h1 : m ≤ 31)  :
    Calls Try.prog 26 #[.int .i64 124, .int .i32 a, .int .i32 b, .func (.func 27) #[] #[], .func (.func 28) #[] #[]] w fun e w' => e = .returned (.tuple #[.int .i32 (wrap32 (a % 4294967296 / 2 ^ m.toNat)), .int .i64 0]) ∧ w = w' := by
  go_enter Try.func26, Try.ntmps26
  go_wp2
  go_ret2
  exact ⟨rfl, rfl⟩

theorem do_small_126 (a b m : Int) (w : World) (hm : bits .and .u64 (IntKind.u64.wrap b) 31 = m) (h0 : 0 ≤ m) (h1 : m ≤ 31)  :
    Calls Try.prog 26 #[.int .i64 126, .int .i32 a, .int .i32 b, .func (.func 27) #[] #[], .func (.func 28) #[] #[]] w fun e w' => e = .returned (.tuple #[.int .i32 (bits .and .i32 a b), .int .i64 0]) ∧ w = w' := by
  go_enter Try.func26, Try.ntmps26
  go_wp2
  go_ret2
  exact ⟨rfl, rfl⟩

theorem do_small_128 (a b m : Int) (w : World) (hm : bits .and .u64 (IntKind.u64.wrap b) 31 = m) (h0 : 0 ≤ m) (h1 : m ≤ 31)  :
    Calls Try.prog 26 #[.int .i64 128, .int .i32 a, .int .i32 b, .func (.func 27) #[] #[], .func (.func 28) #[] #[]] w fun e w' => e = .returned (.tuple #[.int .i32 (bits .or .i32 a b), .int .i64 0]) ∧ w = w' := by
  go_enter Try.func26, Try.ntmps26
  go_wp2
  go_ret2
  exact ⟨rfl, rfl⟩

theorem do_small_130 (a b m : Int) (w : World) (hm : bits .and .u64 (IntKind.u64.wrap b) 31 = m) (h0 : 0 ≤ m) (h1 : m ≤ 31)  :
    Calls Try.prog 26 #[.int .i64 130, .int .i32 a, .int .i32 b, .func (.func 27) #[] #[], .func (.func 28) #[] #[]] w fun e w' => e = .returned (.tuple #[.int .i32 (bits .xor .i32 a b), .int .i64 0]) ∧ w = w' := by
  go_enter Try.func26, Try.ntmps26
  go_wp2
  go_ret2
  exact ⟨rfl, rfl⟩

theorem do_small_108_0 (a m : Int) (w : World) (hm : bits .and .u64 (IntKind.u64.wrap 0) 31 = m) (h0 : 0 ≤ m) (h1 : m ≤ 31) :
    Calls Try.prog 26 #[.int .i64 108, .int .i32 a, .int .i32 0, .func (.func 27) #[] #[], .func (.func 28) #[] #[]] w fun e w' => e = .returned (.tuple #[.int .i32 0, .int .i64 5]) ∧ w = w' := by
  go_enter Try.func26, Try.ntmps26
  go_wp2
  go_ret2
  exact ⟨rfl, rfl⟩

theorem do_small_112_0 (a m : Int) (w : World) (hm : bits .and .u64 (IntKind.u64.wrap 0) 31 = m) (h0 : 0 ≤ m) (h1 : m ≤ 31) :
    Calls Try.prog 26 #[.int .i64 112, .int .i32 a, .int .i32 0, .func (.func 27) #[] #[], .func (.func 28) #[] #[]] w fun e w' => e = .returned (.tuple #[.int .i32 0, .int .i64 5]) ∧ w = w' := by
  go_enter Try.func26, Try.ntmps26
  go_wp2
  go_ret2
  exact ⟨rfl, rfl⟩

theorem do_small_no (op a b m : Int) (w : World) (hm : bits .and .u64 (IntKind.u64.wrap b) 31 = m) (h0 : 0 ≤ m) (h1 : m ≤ 31) (n96 : (op == 96) = false) (n100 : (op == 100) = false) (n104 : (op == 104) = false) (n108 : (op == 108) = false) (n112 : (op == 112) = false) (n120 : (op == 120) = false) (n122 : (op == 122) = false) (n124 : (op == 124) = false) (n126 : (op == 126) = false) (n128 : (op == 128) = false) (n130 : (op == 130) = false) :
    Calls Try.prog 26 #[.int .i64 op, .int .i32 a, .int .i32 b, .func (.func 27) #[] #[], .func (.func 28) #[] #[]] w fun e w' => e = .returned (.tuple #[.int .i32 0, .int .i64 2]) ∧ w = w' := by
  go_enter Try.func26, Try.ntmps26
  go_wp2
  go_ret2
  exact ⟨rfl, rfl⟩
end Go.Proofs.Ytencepjebdadcaa.A
