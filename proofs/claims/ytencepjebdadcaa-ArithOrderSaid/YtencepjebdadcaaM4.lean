/- Plain arithmetic: sums and products of numbers that go round. -/
import Derived.Test.YtencepjebdadcaaM1
namespace Go.Proofs.Ytencepjebdadcaa.A
open Go.RowKit

theorem wrap64_cong {x y : Int} (h : x % 18446744073709551616 = y % 18446744073709551616) : wrap64 x = wrap64 y := by unfold wrap64; omega
theorem wrap64_emod (x : Int) : wrap64 x % 18446744073709551616 = x % 18446744073709551616 := by unfold wrap64; omega
theorem wrap32_cong {x y : Int} (h : x % 4294967296 = y % 4294967296) : wrap32 x = wrap32 y := by unfold wrap32; omega
theorem wrap32_emod (x : Int) : wrap32 x % 4294967296 = x % 4294967296 := by unfold wrap32; omega
theorem wrap64_same {x : Int} (h : isL x) : wrap64 x = x := by unfold isL at h; unfold wrap64; omega
theorem wrap32_same {x : Int} (h : isI x) : wrap32 x = x := by unfold isI at h; unfold wrap32; omega
theorem add64_l (x y : Int) : wrap64 (wrap64 x + y) = wrap64 (x + y) := by unfold wrap64; omega
theorem add64_r (x y : Int) : wrap64 (x + wrap64 y) = wrap64 (x + y) := by unfold wrap64; omega
theorem sub64_l (x y : Int) : wrap64 (wrap64 x - y) = wrap64 (x - y) := by unfold wrap64; omega
theorem mul64_l (x y : Int) : wrap64 (wrap64 x * y) = wrap64 (x * y) := wrap64_cong (by rw [Int.mul_emod, wrap64_emod, ← Int.mul_emod])
theorem mul64_r (x y : Int) : wrap64 (x * wrap64 y) = wrap64 (x * y) := wrap64_cong (by rw [Int.mul_emod, wrap64_emod, ← Int.mul_emod])
theorem add32_l (x y : Int) : wrap32 (wrap32 x + y) = wrap32 (x + y) := by unfold wrap32; omega
theorem add32_r (x y : Int) : wrap32 (x + wrap32 y) = wrap32 (x + y) := by unfold wrap32; omega
theorem sub32_l (x y : Int) : wrap32 (wrap32 x - y) = wrap32 (x - y) := by unfold wrap32; omega
theorem mul32_l (x y : Int) : wrap32 (wrap32 x * y) = wrap32 (x * y) := wrap32_cong (by rw [Int.mul_emod, wrap32_emod, ← Int.mul_emod])
theorem mul32_r (x y : Int) : wrap32 (x * wrap32 y) = wrap32 (x * y) := wrap32_cong (by rw [Int.mul_emod, wrap32_emod, ← Int.mul_emod])

theorem order1 (a b : Int) : wrap64 (a + b) = wrap64 (b + a) := by rw [Int.add_comm]
theorem order2 (a b : Int) : wrap64 (a * b) = wrap64 (b * a) := by rw [Int.mul_comm]
theorem order3 (a b c : Int) : wrap64 (wrap64 (a + b) + c) = wrap64 (a + wrap64 (b + c)) := by rw [add64_l, add64_r, Int.add_assoc]
theorem order4 (a b c : Int) : wrap64 (a * wrap64 (b + c)) = wrap64 (wrap64 (a * b) + wrap64 (a * c)) := by rw [mul64_r, add64_l, add64_r, Int.mul_add]
theorem order5 (a b : Int) (h : isL a) : wrap64 (wrap64 (a + b) - b) = a := by rw [sub64_l, Int.add_sub_cancel, wrap64_same h]
theorem order6 (a b : Int) : wrap32 (a + b) = wrap32 (b + a) := by rw [Int.add_comm]
theorem order7 (a b c : Int) : wrap32 (wrap32 (a * b) * c) = wrap32 (a * wrap32 (b * c)) := by rw [mul32_l, mul32_r, Int.mul_assoc]
theorem order8 (a b c : Int) : wrap32 (a * wrap32 (b + c)) = wrap32 (wrap32 (a * b) + wrap32 (a * c)) := by rw [mul32_r, add32_l, add32_r, Int.mul_add]
theorem order9 (a b : Int) (h : isI a) : wrap32 (wrap32 (a + b) - b) = a := by rw [sub32_l, Int.add_sub_cancel, wrap32_same h]
end Go.Proofs.Ytencepjebdadcaa.A
