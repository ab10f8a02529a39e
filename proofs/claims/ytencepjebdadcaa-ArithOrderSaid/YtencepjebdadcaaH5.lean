/- larchref14.bits: what it comes to: bit by bit. -/
import Derived.Test.YtencepjebdadcaaH3
namespace Go.Proofs.Ytencepjebdadcaa.A
open Go.RowKit Go.Proofs.YtencepjebdadcaaW.PrintWords Go.Proofs.YtencepjebdadcaaW.PrintLast Go.Proofs.YtencepjebdadcaaW.PrintMore
set_option linter.unusedVariables false
set_option linter.unusedSimpArgs false

/-- bit by bit, from the lowest: what is left of both numbers, what has been gathered, the bit's worth -/
def bitsL (f : Bool → Bool → Bool) : Nat → Int → Int → Int → Int → Int
  | 0, _, _, o, _ => o
  | n + 1, x, y, o, e => bitsL f n (IntKind.u64.wrap (x.tdiv 2)) (IntKind.u64.wrap (y.tdiv 2)) (if f (x.tmod 2 == 1) (y.tmod 2 == 1) then IntKind.u64.wrap (o + e) else o) (IntKind.u64.wrap (e * 2))
theorem bitsL_yes {f : Bool → Bool → Bool} {n : Nat} {x y o e R : Int} {p q : Bool} (h : bitsL f (n + 1) x y o e = R) (hp : (x.tmod 2 == 1) = p) (hq : (y.tmod 2 == 1) = q) (hf : f p q = true) : bitsL f n (IntKind.u64.wrap (x.tdiv 2)) (IntKind.u64.wrap (y.tdiv 2)) (IntKind.u64.wrap (o + e)) (IntKind.u64.wrap (e * 2)) = R := by
  rw [bitsL, hp, hq, if_pos hf] at h
  exact h
theorem bitsL_no {f : Bool → Bool → Bool} {n : Nat} {x y o e R : Int} {p q : Bool} (h : bitsL f (n + 1) x y o e = R) (hp : (x.tmod 2 == 1) = p) (hq : (y.tmod 2 == 1) = q) (hf : f p q = false) : bitsL f n (IntKind.u64.wrap (x.tdiv 2)) (IntKind.u64.wrap (y.tdiv 2)) o (IntKind.u64.wrap (e * 2)) = R := by
  rw [bitsL, hp, hq, if_neg (by simp [hf])] at h
  exact h

set_option maxHeartbeats 2000000 in
theorem bits_and (a b : Int) (z : Nat) (hz : z ≤ 64) (w : World) :
    Calls Try.prog 32 #[.int .i64 0, .int .i64 a, .int .i64 b, .int .i64 z] w fun e w' => e = .returned (.int .i64 (wrap64 (bitsL (fun p q => p && q) z (IntKind.u64.wrap a) (IntKind.u64.wrap b) 0 1))) ∧ w = w' := by
  obtain ⟨R, hR⟩ : ∃ R, R = bitsL (fun p q => p && q) z (IntKind.u64.wrap a) (IntKind.u64.wrap b) 0 1 := ⟨_, rfl⟩
  rw [← hR]
  have HR := Lib.hid hR
  clear hR
  go_enter Try.func32, Try.ntmps32
  go_wp2
  go_loop [9, 10, 11, 12, 13] (fun x y o e i => ∃ (X Y O E : Int) (k : Nat), x = .int .u64 X ∧ y = .int .u64 Y ∧ o = .int .u64 O ∧ e = .int .u64 E ∧ i = .int .i64 k ∧ k ≤ z ∧ Hid (bitsL (fun p q => p && q) (z - k) X Y O E = R)) (fun _ _ _ _ i => z - (intOf i).toNat)
  case atStart => exact ⟨_, _, _, _, 0, rfl, rfl, rfl, rfl, rfl, Nat.zero_le _, HR.out.symm⟩
  case round =>
    obtain ⟨X, Y, O, E, k, rfl, rfl, rfl, rfl, rfl, hk, HH⟩ := hrel
    by_cases hlt : k < z
    · have hn : z - k = (z - (k + 1)) + 1 := by omega
      have H2 := HH.out
      rw [hn] at H2
      have H3 := Lib.hid H2
      clear HH H2 hn
      cases hp : (X.tmod 2 == 1) <;> cases hq : (Y.tmod 2 == 1)
      · have H4 := Lib.hid (bitsL_no H3.out hp hq rfl)
        clear H3
        go_wp2
        go_round
        case rel => exact ⟨_, _, _, _, k + 1, rfl, rfl, rfl, rfl, by go_num, by omega, H4⟩
        case measure => simp [intOf]; omega
      · have H4 := Lib.hid (bitsL_no H3.out hp hq rfl)
        clear H3
        go_wp2
        go_round
        case rel => exact ⟨_, _, _, _, k + 1, rfl, rfl, rfl, rfl, by go_num, by omega, H4⟩
        case measure => simp [intOf]; omega
      · have H4 := Lib.hid (bitsL_no H3.out hp hq rfl)
        clear H3
        go_wp2
        go_round
        case rel => exact ⟨_, _, _, _, k + 1, rfl, rfl, rfl, rfl, by go_num, by omega, H4⟩
        case measure => simp [intOf]; omega
      · have H4 := Lib.hid (bitsL_yes H3.out hp hq rfl)
        clear H3
        go_wp2
        go_round
        case rel => exact ⟨_, _, _, _, k + 1, rfl, rfl, rfl, rfl, by go_num, by omega, H4⟩
        case measure => simp [intOf]; omega
    · have hk2 : z - k = 0 := by omega
      have H2 := HH.out
      rw [hk2] at H2
      have H3 : O = R := H2
      have H4 := Lib.hid H3
      clear HH H2 H3 hk2
      go_wp2
      go_ret
      exact ⟨by have h := H4.out; subst h; rfl, rfl⟩

set_option maxHeartbeats 2000000 in
theorem bits_or (a b : Int) (z : Nat) (hz : z ≤ 64) (w : World) :
    Calls Try.prog 32 #[.int .i64 1, .int .i64 a, .int .i64 b, .int .i64 z] w fun e w' => e = .returned (.int .i64 (wrap64 (bitsL (fun p q => p || q) z (IntKind.u64.wrap a) (IntKind.u64.wrap b) 0 1))) ∧ w = w' := by
  obtain ⟨R, hR⟩ : ∃ R, R = bitsL (fun p q => p || q) z (IntKind.u64.wrap a) (IntKind.u64.wrap b) 0 1 := ⟨_, rfl⟩
  rw [← hR]
  have HR := Lib.hid hR
  clear hR
  go_enter Try.func32, Try.ntmps32
  go_wp2
  go_loop [9, 10, 11, 12, 13] (fun x y o e i => ∃ (X Y O E : Int) (k : Nat), x = .int .u64 X ∧ y = .int .u64 Y ∧ o = .int .u64 O ∧ e = .int .u64 E ∧ i = .int .i64 k ∧ k ≤ z ∧ Hid (bitsL (fun p q => p || q) (z - k) X Y O E = R)) (fun _ _ _ _ i => z - (intOf i).toNat)
  case atStart => exact ⟨_, _, _, _, 0, rfl, rfl, rfl, rfl, rfl, Nat.zero_le _, HR.out.symm⟩
  case round =>
    obtain ⟨X, Y, O, E, k, rfl, rfl, rfl, rfl, rfl, hk, HH⟩ := hrel
    by_cases hlt : k < z
    · have hn : z - k = (z - (k + 1)) + 1 := by omega
      have H2 := HH.out
      rw [hn] at H2
      have H3 := Lib.hid H2
      clear HH H2 hn
      cases hp : (X.tmod 2 == 1) <;> cases hq : (Y.tmod 2 == 1)
      · have H4 := Lib.hid (bitsL_no H3.out hp hq rfl)
        clear H3
        go_wp2
        go_round
        case rel => exact ⟨_, _, _, _, k + 1, rfl, rfl, rfl, rfl, by go_num, by omega, H4⟩
        case measure => simp [intOf]; omega
      · have H4 := Lib.hid (bitsL_yes H3.out hp hq rfl)
        clear H3
        go_wp2
        go_round
        case rel => exact ⟨_, _, _, _, k + 1, rfl, rfl, rfl, rfl, by go_num, by omega, H4⟩
        case measure => simp [intOf]; omega
      · have H4 := Lib.hid (bitsL_yes H3.out hp hq rfl)
        clear H3
        go_wp2
        go_round
        case rel => exact ⟨_, _, _, _, k + 1, rfl, rfl, rfl, rfl, by go_num, by omega, H4⟩
        case measure => simp [intOf]; omega
      · have H4 := Lib.hid (bitsL_yes H3.out hp hq rfl)
        clear H3
        go_wp2
        go_round
        case rel => exact ⟨_, _, _, _, k + 1, rfl, rfl, rfl, rfl, by go_num, by omega, H4⟩
        case measure => simp [intOf]; omega
    · have hk2 : z - k = 0 := by omega
      have H2 := HH.out
      rw [hk2] at H2
      have H3 : O = R := H2
      have H4 := Lib.hid H3
      clear HH H2 H3 hk2
      go_wp2
      go_ret
      exact ⟨by have h := H4.out; subst h; rfl, rfl⟩

set_option maxHeartbeats 2000000 in
theorem bits_xor (a b : Int) (z : Nat) (hz : z ≤ 64) (w : World) :
    Calls Try.prog 32 #[.int .i64 2, .int .i64 a, .int .i64 b, .int .i64 z] w fun e w' => e = .returned (.int .i64 (wrap64 (bitsL (fun p q => p != q) z (IntKind.u64.wrap a) (IntKind.u64.wrap b) 0 1))) ∧ w = w' := by
  obtain ⟨R, hR⟩ : ∃ R, R = bitsL (fun p q => p != q) z (IntKind.u64.wrap a) (IntKind.u64.wrap b) 0 1 := ⟨_, rfl⟩
  rw [← hR]
  have HR := Lib.hid hR
  clear hR
  go_enter Try.func32, Try.ntmps32
  go_wp2
  go_loop [9, 10, 11, 12, 13] (fun x y o e i => ∃ (X Y O E : Int) (k : Nat), x = .int .u64 X ∧ y = .int .u64 Y ∧ o = .int .u64 O ∧ e = .int .u64 E ∧ i = .int .i64 k ∧ k ≤ z ∧ Hid (bitsL (fun p q => p != q) (z - k) X Y O E = R)) (fun _ _ _ _ i => z - (intOf i).toNat)
  case atStart => exact ⟨_, _, _, _, 0, rfl, rfl, rfl, rfl, rfl, Nat.zero_le _, HR.out.symm⟩
  case round =>
    obtain ⟨X, Y, O, E, k, rfl, rfl, rfl, rfl, rfl, hk, HH⟩ := hrel
    by_cases hlt : k < z
    · have hn : z - k = (z - (k + 1)) + 1 := by omega
      have H2 := HH.out
      rw [hn] at H2
      have H3 := Lib.hid H2
      clear HH H2 hn
      cases hp : (X.tmod 2 == 1) <;> cases hq : (Y.tmod 2 == 1)
      · have H4 := Lib.hid (bitsL_no H3.out hp hq rfl)
        clear H3
        go_wp2
        go_round
        case rel => exact ⟨_, _, _, _, k + 1, rfl, rfl, rfl, rfl, by go_num, by omega, H4⟩
        case measure => simp [intOf]; omega
      · have H4 := Lib.hid (bitsL_yes H3.out hp hq rfl)
        clear H3
        go_wp2
        go_round
        case rel => exact ⟨_, _, _, _, k + 1, rfl, rfl, rfl, rfl, by go_num, by omega, H4⟩
        case measure => simp [intOf]; omega
      · have H4 := Lib.hid (bitsL_yes H3.out hp hq rfl)
        clear H3
        go_wp2
        go_round
        case rel => exact ⟨_, _, _, _, k + 1, rfl, rfl, rfl, rfl, by go_num, by omega, H4⟩
        case measure => simp [intOf]; omega
      · have H4 := Lib.hid (bitsL_no H3.out hp hq rfl)
        clear H3
        go_wp2
        go_round
        case rel => exact ⟨_, _, _, _, k + 1, rfl, rfl, rfl, rfl, by go_num, by omega, H4⟩
        case measure => simp [intOf]; omega
    · have hk2 : z - k = 0 := by omega
      have H2 := HH.out
      rw [hk2] at H2
      have H3 : O = R := H2
      have H4 := Lib.hid H3
      clear HH H2 H3 hk2
      go_wp2
      go_ret
      exact ⟨by have h := H4.out; subst h; rfl, rfl⟩

def larchref14_bits.f (op a b z : Int) : Option Int :=
  if 0 ≤ z ∧ z ≤ 64 then (if op = 0 then some (wrap64 (bitsL (fun p q => p && q) z.toNat (IntKind.u64.wrap a) (IntKind.u64.wrap b) 0 1))
    else if op = 1 then some (wrap64 (bitsL (fun p q => p || q) z.toNat (IntKind.u64.wrap a) (IntKind.u64.wrap b) 0 1))
    else if op = 2 then some (wrap64 (bitsL (fun p q => p != q) z.toNat (IntKind.u64.wrap a) (IntKind.u64.wrap b) 0 1)) else none) else none
theorem larchref14_bits.calls (a0 a1 a2 a3 r : Int) (w : World) (h : larchref14_bits.f a0 a1 a2 a3 = some r) :
    Calls Try.prog 32 #[.int .i64 a0, .int .i64 a1, .int .i64 a2, .int .i64 a3] w fun e w' => e = .returned (.int .i64 r) ∧ Drawn0 w w' := by
  unfold larchref14_bits.f at h
  split at h
  · rename_i hz
    obtain ⟨z, rfl⟩ := Int.eq_ofNat_of_zero_le hz.1
    simp only [Int.toNat_natCast] at h
    have hz' : z ≤ 64 := by omega
    split at h
    · rename_i e
      subst e
      have h := Option.some.inj h
      subst h
      refine (bits_and a1 a2 z hz' w).mono ?_
      rintro e w' ⟨rfl, rfl⟩
      exact ⟨rfl, .refl _⟩
    · split at h
      · rename_i e
        subst e
        have h := Option.some.inj h
        subst h
        refine (bits_or a1 a2 z hz' w).mono ?_
        rintro e w' ⟨rfl, rfl⟩
        exact ⟨rfl, .refl _⟩
      · split at h
        · rename_i e
          subst e
          have h := Option.some.inj h
          subst h
          refine (bits_xor a1 a2 z hz' w).mono ?_
          rintro e w' ⟨rfl, rfl⟩
          exact ⟨rfl, .refl _⟩
        · cases h
  · cases h
end Go.Proofs.Ytencepjebdadcaa.A
