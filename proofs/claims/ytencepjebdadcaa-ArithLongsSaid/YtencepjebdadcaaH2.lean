/- arith.do at both its instances: what each operation comes to. -/
import Derived.Test.YtencepjebdadcaaPArithOnesx1
import Derived.WalkSpells
import Derived.Laws.BitsAllLaws
namespace Go.Proofs.Ytencepjebdadcaa.A
open Go.RowKit Go.Proofs.YtencepjebdadcaaW.PrintWords Go.Proofs.YtencepjebdadcaaW.PrintLast Go.Proofs.YtencepjebdadcaaW.PrintMore
set_option linter.unusedVariables false
set_option linter.unusedSimpArgs false

theorem over_large (a n : Int) (w : World) (h0 : 0 ≤ n) (h1 : n ≤ 63) :
    Calls Try.prog 35 #[.int .i64 a, .int .u64 n] w fun e w' => e = .returned (.int .i64 (wrap64 (a % 18446744073709551616 / 2 ^ n.toNat))) ∧ w = w' := by
  go_enter Try.func35, Try.ntmps35
  go_wp2
  go_ret
  exact ⟨rfl, rfl⟩

theorem do_large_96 (a b m : Int) (w : World) (hm : bits .and .u64 (IntKind.u64.wrap b) 63 = m) (h0 : 0 ≤ m) (h1 : m ≤ 63)  :
    Calls Try.prog 34 #[.int .i64 96, .int .i64 a, .int .i64 b, .func (.func 35) #[] #[], .func (.func 36) #[] #[]] w fun e w' => e = .returned (.tuple #[.int .i64 (wrap64 (a + b)), .int .i64 0]) ∧ w = w' := by
  go_enter Try.func34, Try.ntmps34
  go_wp2
  go_ret2
  exact ⟨rfl, rfl⟩

theorem do_large_100 (a b m : Int) (w : World) (hm : bits .and .u64 (IntKind.u64.wrap b) 63 = m) (h0 : 0 ≤ m) (h1 : m ≤ 63)  :
    Calls Try.prog 34 #[.int .i64 100, .int .i64 a, .int .i64 b, .func (.func 35) #[] #[], .func (.func 36) #[] #[]] w fun e w' => e = .returned (.tuple #[.int .i64 (wrap64 (a - b)), .int .i64 0]) ∧ w = w' := by
  go_enter Try.func34, Try.ntmps34
  go_wp2
  go_ret2
  exact ⟨rfl, rfl⟩

theorem do_large_104 (a b m : Int) (w : World) (hm : bits .and .u64 (IntKind.u64.wrap b) 63 = m) (h0 : 0 ≤ m) (h1 : m ≤ 63)  :
    Calls Try.prog 34 #[.int .i64 104, .int .i64 a, .int .i64 b, .func (.func 35) #[] #[], .func (.func 36) #[] #[]] w fun e w' => e = .returned (.tuple #[.int .i64 (wrap64 (a * b)), .int .i64 0]) ∧ w = w' := by
  go_enter Try.func34, Try.ntmps34
  go_wp2
  go_ret2
  exact ⟨rfl, rfl⟩

theorem do_large_108 (a b m : Int) (w : World) (hm : bits .and .u64 (IntKind.u64.wrap b) 63 = m) (h0 : 0 ≤ m) (h1 : m ≤ 63) (hb : (b == 0) = false) (hb1 : ¬ b = 0) :
    Calls Try.prog 34 #[.int .i64 108, .int .i64 a, .int .i64 b, .func (.func 35) #[] #[], .func (.func 36) #[] #[]] w fun e w' => e = .returned (.tuple #[.int .i64 (wrap64 (a.tdiv b)), .int .i64 0]) ∧ w = w' := by
  go_enter Try.func34, Try.ntmps34
  go_wp2
  go_ret2
  exact ⟨rfl, rfl⟩

theorem do_large_112 (a b m : Int) (w : World) (hm : bits .and .u64 (IntKind.u64.wrap b) 63 = m) (h0 : 0 ≤ m) (h1 : m ≤ 63) (hb : (b == 0) = false) (hb1 : ¬ b = 0) :
    Calls Try.prog 34 #[.int .i64 112, .int .i64 a, .int .i64 b, .func (.func 35) #[] #[], .func (.func 36) #[] #[]] w fun e w' => e = .returned (.tuple #[.int .i64 (a.tmod b), .int .i64 0]) ∧ w = w' := by
  go_enter Try.func34, Try.ntmps34
  go_wp2
  go_ret2
  exact ⟨rfl, rfl⟩

theorem do_large_120 (a b m : Int) (w : World) (hm : bits .and .u64 (IntKind.u64.wrap b) 63 = m) (h0 : 0 ≤ m) (h1 : m ≤ 63)  :
    Calls Try.prog 34 #[.int .i64 120, .int .i64 a, .int .i64 b, .func (.func 35) #[] #[], .func (.func 36) #[] #[]] w fun e w' => e = .returned (.tuple #[.int .i64 (wrap64 (a * 2 ^ m.toNat)), .int .i64 0]) ∧ w = w' := by
  go_enter Try.func34, Try.ntmps34
  go_wp2
  go_ret2
  exact ⟨rfl, rfl⟩

theorem do_large_122 (a b m : Int) (w : World) (hm : bits .and .u64 (IntKind.u64.wrap b) 63 = m) (h0 : 0 ≤ m) (h1 : m ≤ 63)  :
    Calls Try.prog 34 #[.int .i64 122, .int .i64 a, .int .i64 b, .func (.func 35) #[] #[], .func (.func 36) #[] #[]] w fun e w' => e = .returned (.tuple #[.int .i64 (a / 2 ^ m.toNat), .int .i64 0]) ∧ w = w' := by
  go_enter Try.func34, Try.ntmps34
  go_wp2
  go_ret2
  exact ⟨rfl, rfl⟩

theorem do_large_124 (a b m : Int) (w : World) (hm : bits .and .u64 (IntKind.u64.wrap b) 63 = m) (h0 : 0 ≤ m) (h1 : m ≤ 63)  :
    Calls Try.prog 34 #[.int .i64 124, .int .i64 a, .int .i64 b, .func (.func 35) #[] #[], .func (.func 36) #[] #[]] w fun e w' => e = .returned (.tuple #[.int .i64 (wrap64 (a % 18446744073709551616 / 2 ^ m.toNat)), .int .i64 0]) ∧ w = w' := by
  go_enter Try.func34, Try.ntmps34
  go_wp2
  go_ret2
  exact ⟨rfl, rfl⟩

theorem do_large_126 (a b m : Int) (w : World) (hm : bits .and .u64 (IntKind.u64.wrap b) 63 = m) (h0 : 0 ≤ m) (h1 : m ≤ 63)  :
    Calls Try.prog 34 #[.int .i64 126, .int .i64 a, .int .i64 b, .func (.func 35) #[] #[], .func (.func 36) #[] #[]] w fun e w' => e = .returned (.tuple #[.int .i64 (bits .and .i64 a b), .int .i64 0]) ∧ w = w' := by
  go_enter Try.func34, Try.ntmps34
  go_wp2
  go_ret2
  exact ⟨rfl, rfl⟩

theorem do_large_128 (a b m : Int) (w : World) (hm : bits .and .u64 (IntKind.u64.wrap b) 63 = m) (h0 : 0 ≤ m) (h1 : m ≤ 63)  :
    Calls Try.prog 34 #[.int .i64 128, .int .i64 a, .int .i64 b, .func (.func 35) #[] #[], .func (.func 36) #[] #[]] w fun e w' => e = .returned (.tuple #[.int .i64 (bits .or .i64 a b), .int .i64 0]) ∧ w = w' := by
  go_enter Try.func34, Try.ntmps34
  go_wp2
  go_ret2
  exact ⟨rfl, rfl⟩

theorem do_large_130 (a b m : Int) (w : World) (hm : bits .and .u64 (IntKind.u64.wrap b) 63 = m) (h0 : 0 ≤ m) (h1 : m ≤ 63)  :
    Calls Try.prog 34 #[.int .i64 130, .int .i64 a, .int .i64 b, .func (.func 35) #[] #[], .func (.func 36) #[] #[]] w fun e w' => e = .returned (.tuple #[.int .i64 (bits .xor .i64 a b), .int .i64 0]) ∧ w = w' := by
  go_enter Try.func34, Try.ntmps34
  go_wp2
  go_ret2
  exact ⟨rfl, rfl⟩

theorem do_large_108_0 (a m : Int) (w : World) (hm : bits .and .u64 (IntKind.u64.wrap 0) 63 = m) (h0 : 0 ≤ m) (h1 : m ≤ 63) :
    Calls Try.prog 34 #[.int .i64 108, .int .i64 a, .int .i64 0, .func (.func 35) #[] #[], .func (.func 36) #[] #[]] w fun e w' => e = .returned (.tuple #[.int .i64 0, .int .i64 5]) ∧ w = w' := by
  go_enter Try.func34, Try.ntmps34
  go_wp2
  go_ret2
  exact ⟨rfl, rfl⟩

theorem do_large_112_0 (a m : Int) (w : World) (hm : bits .and .u64 (IntKind.u64.wrap 0) 63 = m) (h0 : 0 ≤ m) (h1 : m ≤ 63) :
    Calls Try.prog 34 #[.int .i64 112, .int .i64 a, .int .i64 0, .func (.func 35) #[] #[], .func (.func 36) #[] #[]] w fun e w' => e = .returned (.tuple #[.int .i64 0, .int .i64 5]) ∧ w = w' := by
  go_enter Try.func34, Try.ntmps34
  go_wp2
  go_ret2
  exact ⟨rfl, rfl⟩

theorem do_large_no (op a b m : Int) (w : World) (hm : bits .and .u64 (IntKind.u64.wrap b) 63 = m) (h0 : 0 ≤ m) (h1 : m ≤ 63) (n96 : (op == 96) = false) (n100 : (op == 100) = false) (n104 : (op == 104) = false) (n108 : (op == 108) = false) (n112 : (op == 112) = false) (n120 : (op == 120) = false) (n122 : (op == 122) = false) (n124 : (op == 124) = false) (n126 : (op == 126) = false) (n128 : (op == 128) = false) (n130 : (op == 130) = false) :
    Calls Try.prog 34 #[.int .i64 op, .int .i64 a, .int .i64 b, .func (.func 35) #[] #[], .func (.func 36) #[] #[]] w fun e w' => e = .returned (.tuple #[.int .i64 0, .int .i64 2]) ∧ w = w' := by
  go_enter Try.func34, Try.ntmps34
  go_wp2
  go_ret2
  exact ⟨rfl, rfl⟩
end Go.Proofs.Ytencepjebdadcaa.A
