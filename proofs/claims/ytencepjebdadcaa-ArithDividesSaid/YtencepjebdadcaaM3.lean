/- Plain arithmetic: what the reference's bits comes to is the and, or, xor of ints and longs. -/
import Derived.Test.YtencepjebdadcaaM2
import Derived.Test.YtencepjebdadcaaH5
namespace Go.Proofs.Ytencepjebdadcaa.A
open Go.RowKit
set_option linter.unusedVariables false

theorem half_u64 (x : Nat) (hx : x < 18446744073709551616) : IntKind.u64.wrap ((x : Int).tdiv 2) = ((x / 2 : Nat) : Int) := by
  rw [IntWalk.u64_quo (x : Int) 2 (by omega)]
  omega

theorem bitsL_eq (f : Bool → Bool → Bool) : ∀ (n i x y o : Nat), i + n ≤ 64 → x < 18446744073709551616 → y < 18446744073709551616 → o < 2 ^ i →
    bitsL f n (x : Int) (y : Int) (o : Int) ((2 ^ i : Nat) : Int) = ((o + 2 ^ i * bitsN f n x y : Nat) : Int) := by
  intro n
  induction n with
  | zero =>
    intro i x y o _ _ _ _
    simp [bitsL, bitsN]
  | succ n ih =>
    intro i x y o hi hx hy ho
    have hp : 2 ^ (i + 1) ≤ 2 ^ 64 := Nat.pow_le_pow_right (by omega) (by omega)
    have hp1 : 2 ^ (i + 1) = 2 * 2 ^ i := by rw [Nat.pow_succ]; omega
    have hmax : (2 : Nat) ^ 64 = 18446744073709551616 := by decide
    rw [bitsL, half_u64 x hx, half_u64 y hy, tmod_two, tmod_two]
    have ho' : ∃ o' : Nat, (if f (x % 2 == 1) (y % 2 == 1) then IntKind.u64.wrap ((o : Int) + ((2 ^ i : Nat) : Int)) else (o : Int)) = (o' : Int) ∧ o' = o + 2 ^ i * (if f (x % 2 == 1) (y % 2 == 1) then 1 else 0) ∧ o' < 2 ^ (i + 1) := by
      split
      · refine ⟨o + 2 ^ i, ?_, by omega, by omega⟩
        rw [IntWalk.u64_in _ (by omega)]
        omega
      · exact ⟨o, rfl, by omega, by omega⟩
    obtain ⟨o', h1, h2, h3⟩ := ho'
    rw [h1]
    cases n with
    | zero =>
      simp only [bitsL, bitsN]
      rw [h2]
      split <;> simp
    | succ n =>
      have hE : IntKind.u64.wrap (((2 ^ i : Nat) : Int) * 2) = ((2 ^ (i + 1) : Nat) : Int) := by
        have : 2 ^ (i + 1) ≤ 2 ^ 63 := Nat.pow_le_pow_right (by omega) (by omega)
        rw [IntWalk.u64_in _ (by omega)]
        omega
      rw [hE, ih (i + 1) (x / 2) (y / 2) o' (by omega) (by omega) (by omega) h3]
      congr 1
      rw [show bitsN f (n + 1 + 1) x y = (if f (x % 2 == 1) (y % 2 == 1) then 1 else 0) + 2 * bitsN f (n + 1) (x / 2) (y / 2) from rfl, h2, hp1, Nat.mul_add, ← Nat.mul_assoc (2 ^ i) 2, Nat.mul_comm (2 ^ i) 2, Nat.add_assoc]

theorem bitsL_all (f : Bool → Bool → Bool) (n : Nat) (hn : n ≤ 64) (a b : Int) :
    bitsL f n (IntKind.u64.wrap a) (IntKind.u64.wrap b) 0 1 = ((bitsN f n (a % 18446744073709551616).toNat (b % 18446744073709551616).toNat : Nat) : Int) := by
  have ha : IntKind.u64.wrap a = (((a % 18446744073709551616).toNat : Nat) : Int) := by rw [IntKind.wrap_u64]; omega
  have hb : IntKind.u64.wrap b = (((b % 18446744073709551616).toNat : Nat) : Int) := by rw [IntKind.wrap_u64]; omega
  rw [ha, hb]
  have h := bitsL_eq f n 0 (a % 18446744073709551616).toNat (b % 18446744073709551616).toNat 0 (by omega) (by omega) (by omega) (by simp)
  simpa using h

theorem wrap64_mod (n : Int) : wrap64 (n % 18446744073709551616) = wrap64 n := by unfold wrap64; omega
theorem wrap32_mod (n : Int) : wrap32 (n % 4294967296) = wrap32 n := by unfold wrap32; omega
theorem wrap32_wrap64 (n : Int) : wrap32 (wrap64 n) = wrap32 n := by unfold wrap32 wrap64; omega

/-- and, or, xor as the model tells them, over natural numbers -/
theorem bits_i64 (op : BinOp) (g : Nat → Nat → Nat) (a b : Int) (h : ∀ x y : BitVec 64, (match op with | .and => x &&& y | .or => x ||| y | .xor => x ^^^ y | _ => x &&& ~~~y).toNat = g x.toNat y.toNat) :
    bits op .i64 a b = wrap64 (g (a % 18446744073709551616).toNat (b % 18446744073709551616).toNat) := by
  have h1 : ∀ n : Int, IntKind.i64.wrap n = wrap64 n := fun n => by rw [IntKind.wrap_i64]; unfold wrap64; rfl
  have e : ∀ z : Int, (BitVec.ofInt 64 z).toNat = (z % 18446744073709551616).toNat := fun z => by simp [BitVec.toNat_ofInt]
  show IntKind.i64.wrap ((match op with | .and => BitVec.ofInt 64 a &&& BitVec.ofInt 64 b | .or => BitVec.ofInt 64 a ||| BitVec.ofInt 64 b | .xor => BitVec.ofInt 64 a ^^^ BitVec.ofInt 64 b | _ => BitVec.ofInt 64 a &&& ~~~BitVec.ofInt 64 b).toNat : Int) = _
  rw [h1, h, e, e]
theorem bits_i32 (op : BinOp) (g : Nat → Nat → Nat) (a b : Int) (h : ∀ x y : BitVec 32, (match op with | .and => x &&& y | .or => x ||| y | .xor => x ^^^ y | _ => x &&& ~~~y).toNat = g x.toNat y.toNat) :
    bits op .i32 a b = wrap32 (g (a % 4294967296).toNat (b % 4294967296).toNat) := by
  have h1 : ∀ n : Int, IntKind.i32.wrap n = wrap32 n := fun n => by rw [IntKind.wrap_i32]; unfold wrap32; rfl
  have e : ∀ z : Int, (BitVec.ofInt 32 z).toNat = (z % 4294967296).toNat := fun z => by simp [BitVec.toNat_ofInt]
  show IntKind.i32.wrap ((match op with | .and => BitVec.ofInt 32 a &&& BitVec.ofInt 32 b | .or => BitVec.ofInt 32 a ||| BitVec.ofInt 32 b | .xor => BitVec.ofInt 32 a ^^^ BitVec.ofInt 32 b | _ => BitVec.ofInt 32 a &&& ~~~BitVec.ofInt 32 b).toNat : Int) = _
  rw [h1, h, e, e]

theorem mod_mod_32 (a : Int) : (a % 18446744073709551616).toNat % 4294967296 = (a % 4294967296).toNat := by omega

theorem long_and (a b : Int) : wrap64 (bitsL (fun p q => p && q) 64 (IntKind.u64.wrap a) (IntKind.u64.wrap b) 0 1) = bits .and .i64 a b := by
  rw [bitsL_all _ _ (by omega), bitsN_and, bits_i64 .and (· &&& ·) a b (fun x y => BitVec.toNat_and x y), ← wrap64_mod]
  conv => rhs; rw [← wrap64_mod]
  congr 1
  omega
theorem long_or (a b : Int) : wrap64 (bitsL (fun p q => p || q) 64 (IntKind.u64.wrap a) (IntKind.u64.wrap b) 0 1) = bits .or .i64 a b := by
  rw [bitsL_all _ _ (by omega), bitsN_or, bits_i64 .or (· ||| ·) a b (fun x y => BitVec.toNat_or x y), ← wrap64_mod]
  conv => rhs; rw [← wrap64_mod]
  congr 1
  omega
theorem long_xor (a b : Int) : wrap64 (bitsL (fun p q => p != q) 64 (IntKind.u64.wrap a) (IntKind.u64.wrap b) 0 1) = bits .xor .i64 a b := by
  rw [bitsL_all _ _ (by omega), bitsN_xor, bits_i64 .xor (· ^^^ ·) a b (fun x y => BitVec.toNat_xor x y), ← wrap64_mod]
  conv => rhs; rw [← wrap64_mod]
  congr 1
  omega
theorem int_and (a b : Int) : wrap32 (bitsL (fun p q => p && q) 32 (IntKind.u64.wrap a) (IntKind.u64.wrap b) 0 1) = bits .and .i32 a b := by
  rw [bitsL_all _ _ (by omega), bitsN_and, bits_i32 .and (· &&& ·) a b (fun x y => BitVec.toNat_and x y), Nat.and_mod_two_pow]
  simp only [show (2 : Nat) ^ 32 = 4294967296 from rfl, mod_mod_32]
theorem int_or (a b : Int) : wrap32 (bitsL (fun p q => p || q) 32 (IntKind.u64.wrap a) (IntKind.u64.wrap b) 0 1) = bits .or .i32 a b := by
  rw [bitsL_all _ _ (by omega), bitsN_or, bits_i32 .or (· ||| ·) a b (fun x y => BitVec.toNat_or x y), Nat.or_mod_two_pow]
  simp only [show (2 : Nat) ^ 32 = 4294967296 from rfl, mod_mod_32]
theorem int_xor (a b : Int) : wrap32 (bitsL (fun p q => p != q) 32 (IntKind.u64.wrap a) (IntKind.u64.wrap b) 0 1) = bits .xor .i32 a b := by
  rw [bitsL_all _ _ (by omega), bitsN_xor, bits_i32 .xor (· ^^^ ·) a b (fun x y => BitVec.toNat_xor x y), Nat.xor_mod_two_pow]
  simp only [show (2 : Nat) ^ 32 = 4294967296 from rfl, mod_mod_32]
end Go.Proofs.Ytencepjebdadcaa.A
