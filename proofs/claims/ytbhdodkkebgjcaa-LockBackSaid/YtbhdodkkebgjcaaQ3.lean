/- lock, plain: Exit; the document's Enter, Exit, Leave; the example. -/
import Derived.Test.YtbhdodkkebgjcaaQ2
namespace Go.Proofs.Ytbhdodkkebgjcaa.Q
open Go.RowKit Go.Proofs.YtbhdodkkebgjcaaW.PrintWords Go.Proofs.Ytbhdodkkebgjcaa.A.P
set_option linter.unusedVariables false
set_option linter.unusedSimpArgs false
theorem exit_bad {l : List S38} (hl : l.length ≤ 5864062014700) {o w : Int} (h : ¬ (Rt l ∧ 1 ≤ o ∧ 0 ≤ w)) {k : Nat} (hk : l.length < k) : lock_Exit.f k l o w = some ([], 2) := by
  unfold lock_Exit.f
  rw [leave_bad hl h hk, Option.bind_some]
  simp only
  rw [if_neg (by decide)]
theorem exit_miss {A B : List S38} {o : Int} (hl : (A ++ B).length ≤ 5864062014700) {w : Int} (hR : Rt (A ++ B)) (hA : ∀ y ∈ A, y.f0 < o) (hB : ∀ y ∈ B, o < y.f0) (ho : 1 ≤ o) (hw : 0 ≤ w) {k : Nat} (hk : (A ++ B).length < k) : lock_Exit.f k (A ++ B) o w = some ([], 5) := by
  unfold lock_Exit.f
  rw [leave_miss hl hR hA hB ho hw hk, Option.bind_some]
  simp only
  rw [if_neg (by decide)]
theorem exit_hit {A B : List S38} {x : S38} (hl : (A ++ x :: B).length ≤ 5864062014700) {w : Int} (hR : Rt (A ++ x :: B)) (hw : 0 ≤ w) (hx : x.f2 ≤ 1000000000000000) {k : Nat} (hk : (A ++ x :: B).length < k) : lock_Exit.f k (A ++ x :: B) x.f0 w = some (if x.f1 = w then (if x.f2 = 1 then A ++ B else A ++ ⟨x.f0, x.f1, x.f2 - 1⟩ :: B, 0) else ([], 5)) := by
  obtain ⟨hR2, hA, hB, ho, h1, h2⟩ := rt_mid.1 hR
  unfold lock_Exit.f
  rw [leave_hit hl hR hw hk, Option.bind_some]
  by_cases hw1 : x.f1 = w
  · rw [if_pos hw1, if_pos hw1]
    simp only [reduceIte]
    by_cases h3 : x.f2 = 1
    · rw [if_pos h3, if_pos h3]
    · rw [if_neg h3, if_neg h3, wr (by omega) (by omega), enter_new (by simp at hl ⊢; omega) hR2 hA hB ho hw (by omega) (by simp at hk ⊢; omega), Option.bind_some, ← hw1]
  · rw [if_neg hw1, if_neg hw1]
    simp only
    rw [if_neg (by decide)]
/-! #### the document's -/
theorem renter_bad {l : List S38} (hl : l.length ≤ 5864062014700) {o w c : Int} (h : ¬ (Rt l ∧ 1 ≤ o ∧ 0 ≤ w ∧ 1 ≤ c)) {k : Nat} (hk : l.length < k) : larchref19_Enter.f k l o w c = some ([], 2) := by
  obtain ⟨k, rfl⟩ : ∃ m, k = m + 1 := ⟨k - 1, by omega⟩
  unfold larchref19_Enter.f
  rw [rcheck_f (by omega) hk, Option.bind_some]
  unfold chk
  have hj : ∀ b, b = true → larchref19_Enter.j0 (k + 1) l o w c b = some ([], 2) := fun b hb => by rw [larchref19_Enter.j0, if_pos hb]
  by_cases h1 : Rt l
  · rw [if_pos h1, if_pos rfl]
    by_cases h2 : o < 1
    · rw [if_pos h2, hj _ rfl]
    · rw [if_neg h2]
      by_cases h3 : w < 0
      · rw [if_pos h3, hj _ rfl]
      · rw [if_neg h3, hj _ (decide_eq_true (Decidable.byContradiction fun hc => h ⟨h1, by omega, by omega, by omega⟩))]
  · rw [if_neg h1, if_neg (by decide), hj _ rfl]
theorem renter_in {l : List S38} (hl : l.length ≤ 5864062014700) {o w c : Int} (h1 : Rt l) (ho : 1 ≤ o) (hw : 0 ≤ w) (hc : 1 ≤ c) {k : Nat} (hk : l.length < k) : larchref19_Enter.f k l o w c = larchref19_Enter.j0 k l o w c false := by
  unfold larchref19_Enter.f
  rw [rcheck_f (by omega) hk, Option.bind_some]
  unfold chk
  rw [if_pos h1, if_pos rfl, if_neg (by omega), if_neg (by omega), decide_eq_false (by omega)]
theorem renter_hit {A B : List S38} {x : S38} (hl : (A ++ x :: B).length ≤ 5864062014700) {w c : Int} (hR : Rt (A ++ x :: B)) (hw : 0 ≤ w) (hc : 1 ≤ c) {k : Nat} (hk : (A ++ x :: B).length + 1 < k) : larchref19_Enter.f k (A ++ x :: B) x.f0 w c = some (if x.f1 = w then (A ++ ⟨x.f0, x.f1, wrap64 (x.f2 + c)⟩ :: B, 0) else ([], 8)) := by
  obtain ⟨k, rfl⟩ : ∃ m, k = m + 1 := ⟨k - 1, by omega⟩
  obtain ⟨_, hA, hB, ho, _, _⟩ := rt_mid.1 hR
  have hlen : (A.length : Int) < ((A ++ x :: B).length : Int) := by simp; omega
  rw [renter_in hl hR ho hw hc (by omega), larchref19_Enter.j0, if_neg (by decide)]
  simp only [Option.bind_some, List.nil_append, List.length_nil, Nat.zero_add]
  rw [if_pos (by omega), at_f _ (by omega) (by omega), Option.bind_some]
  simp only
  rw [isAt_hit rfl hA, if_pos rfl, place_hit rfl hA, if_pos (by omega), if_pos hlen, rd_mid]
  by_cases h1 : x.f1 = w
  · rw [if_pos h1, if_pos h1, if_pos hlen, Int.toNat_natCast, set_mid]
  · rw [if_neg h1, if_neg h1]
theorem renter_new {A B : List S38} {o : Int} (hl : (A ++ B).length ≤ 5864062014700) {w c : Int} (hR : Rt (A ++ B)) (hA : ∀ y ∈ A, y.f0 < o) (hB : ∀ y ∈ B, o < y.f0) (ho : 1 ≤ o) (hw : 0 ≤ w) (hc : 1 ≤ c) {k : Nat} (hk : (A ++ B).length + 1 < k) : larchref19_Enter.f k (A ++ B) o w c = some (A ++ ⟨o, w, c⟩ :: B, 0) := by
  obtain ⟨k, rfl⟩ : ∃ m, k = m + 1 := ⟨k - 1, by omega⟩
  have hlen : (A.length : Int) ≤ ((A ++ B).length : Int) := by simp; omega
  have hl2 : A.length + B.length ≤ 5864062014700 := by simpa using hl
  rw [renter_in hl hR ho hw hc (by omega), larchref19_Enter.j0, if_neg (by decide)]
  simp only [Option.bind_some, List.nil_append, List.length_nil, Nat.zero_add]
  rw [if_pos (by omega), at_f _ (by omega) (by omega), Option.bind_some]
  simp only
  rw [isAt_miss hA hB, if_neg (by decide), place_miss hA hB, if_pos (by omega), if_pos hlen, Int.toNat_natCast, List.take_left, List.drop_left, if_pos (by omega), if_pos (by simp; omega), if_pos (by simp; omega)]
  simp
theorem rleave_in {l : List S38} (hl : l.length ≤ 5864062014700) {o w : Int} (h1 : Rt l) (ho : 1 ≤ o) (hw : 0 ≤ w) {k : Nat} (hk : l.length < k) : larchref19_Leave.f k l o w = larchref19_Leave.j0 k l o w false := by
  unfold larchref19_Leave.f
  rw [rcheck_f (by omega) hk, Option.bind_some]
  unfold chk
  rw [if_pos h1, if_pos rfl, if_neg (by omega), decide_eq_false (by omega)]
theorem rleave_bad {l : List S38} (hl : l.length ≤ 5864062014700) {o w : Int} (h : ¬ (Rt l ∧ 1 ≤ o ∧ 0 ≤ w)) {k : Nat} (hk : l.length < k) : larchref19_Leave.f k l o w = some ([], 0, 2) := by
  obtain ⟨k, rfl⟩ : ∃ m, k = m + 1 := ⟨k - 1, by omega⟩
  unfold larchref19_Leave.f
  rw [rcheck_f (by omega) hk, Option.bind_some]
  unfold chk
  have hj : ∀ b, b = true → larchref19_Leave.j0 (k + 1) l o w b = some ([], 0, 2) := fun b hb => by rw [larchref19_Leave.j0, if_pos hb]
  by_cases h1 : Rt l
  · rw [if_pos h1, if_pos rfl]
    by_cases h2 : o < 1
    · rw [if_pos h2, hj _ rfl]
    · rw [if_neg h2, hj _ (decide_eq_true (Decidable.byContradiction fun hc => h ⟨h1, by omega, by omega⟩))]
  · rw [if_neg h1, if_neg (by decide), hj _ rfl]
theorem drop_mid (A : List S38) (x : S38) (B : List S38) : (A ++ x :: B).drop (A.length + 1) = B := by
  rw [← List.drop_drop, List.drop_left]
  rfl
theorem rleave_hit {A B : List S38} {x : S38} (hl : (A ++ x :: B).length ≤ 5864062014700) {w : Int} (hR : Rt (A ++ x :: B)) (hw : 0 ≤ w) {k : Nat} (hk : (A ++ x :: B).length + 1 < k) : larchref19_Leave.f k (A ++ x :: B) x.f0 w = some (if x.f1 = w then (A ++ B, x.f2, 0) else ([], 0, 5)) := by
  obtain ⟨k, rfl⟩ : ∃ m, k = m + 1 := ⟨k - 1, by omega⟩
  obtain ⟨_, hA, hB, ho, _, _⟩ := rt_mid.1 hR
  have hlen : (A.length : Int) < ((A ++ x :: B).length : Int) := by simp; omega
  have hl2 : A.length + B.length + 1 ≤ 5864062014700 := by simp at hl; omega
  rw [rleave_in hl hR ho hw (by omega), larchref19_Leave.j0, if_neg (by decide), at_f _ (by omega) (by omega), Option.bind_some]
  simp only
  rw [isAt_hit rfl hA, if_pos rfl, place_hit rfl hA, if_pos (by omega), if_pos hlen, rd_mid]
  by_cases h1 : x.f1 = w
  · rw [if_pos h1, if_pos h1, wr (by omega) (by omega)]
    simp only [Option.bind_some, List.nil_append, List.length_nil, Nat.zero_add]
    rw [if_pos (by omega), Int.toNat_natCast, List.take_left, if_pos (by omega), if_pos (by omega), if_pos (by omega), show ((A.length : Int) + 1).toNat = A.length + 1 by omega, drop_mid, if_pos (by omega)]
  · rw [if_neg h1, if_neg h1]
theorem rleave_miss {A B : List S38} {o : Int} (hl : (A ++ B).length ≤ 5864062014700) {w : Int} (hR : Rt (A ++ B)) (hA : ∀ y ∈ A, y.f0 < o) (hB : ∀ y ∈ B, o < y.f0) (ho : 1 ≤ o) (hw : 0 ≤ w) {k : Nat} (hk : (A ++ B).length + 1 < k) : larchref19_Leave.f k (A ++ B) o w = some ([], 0, 5) := by
  obtain ⟨k, rfl⟩ : ∃ m, k = m + 1 := ⟨k - 1, by omega⟩
  rw [rleave_in hl hR ho hw (by omega), larchref19_Leave.j0, if_neg (by decide), at_f _ (by omega) (by omega), Option.bind_some]
  simp only
  rw [isAt_miss hA hB, if_neg (by decide)]
theorem rexit_in {l : List S38} (hl : l.length ≤ 5864062014700) {o w : Int} (h1 : Rt l) (ho : 1 ≤ o) (hw : 0 ≤ w) {k : Nat} (hk : l.length < k) : larchref19_Exit.f k l o w = larchref19_Exit.j0 k l o w false := by
  unfold larchref19_Exit.f
  rw [rcheck_f (by omega) hk, Option.bind_some]
  unfold chk
  rw [if_pos h1, if_pos rfl, if_neg (by omega), decide_eq_false (by omega)]
theorem rexit_bad {l : List S38} (hl : l.length ≤ 5864062014700) {o w : Int} (h : ¬ (Rt l ∧ 1 ≤ o ∧ 0 ≤ w)) {k : Nat} (hk : l.length < k) : larchref19_Exit.f k l o w = some ([], 2) := by
  obtain ⟨k, rfl⟩ : ∃ m, k = m + 1 := ⟨k - 1, by omega⟩
  unfold larchref19_Exit.f
  rw [rcheck_f (by omega) hk, Option.bind_some]
  unfold chk
  have hj : ∀ b, b = true → larchref19_Exit.j0 (k + 1) l o w b = some ([], 2) := fun b hb => by rw [larchref19_Exit.j0, if_pos hb]
  by_cases h1 : Rt l
  · rw [if_pos h1, if_pos rfl]
    by_cases h2 : o < 1
    · rw [if_pos h2, hj _ rfl]
    · rw [if_neg h2, hj _ (decide_eq_true (Decidable.byContradiction fun hc => h ⟨h1, by omega, by omega⟩))]
  · rw [if_neg h1, if_neg (by decide), hj _ rfl]
theorem rexit_j1_no (l : List S38) (n : Int) (k : Nat) : larchref19_Exit.j1 (k + 1) l n true = some ([], 5) := by
  rw [larchref19_Exit.j1, if_pos rfl]
theorem rexit_j1 {A B : List S38} {x : S38} (hl : (A ++ x :: B).length ≤ 5864062014700) (h2 : 1 ≤ x.f2) (hx : x.f2 ≤ 1000000000000000) (k : Nat) : larchref19_Exit.j1 (k + 1) (A ++ x :: B) A.length false = some (if x.f2 = 1 then A ++ B else A ++ ⟨x.f0, x.f1, x.f2 - 1⟩ :: B, 0) := by
  have hlen : (A.length : Int) < ((A ++ x :: B).length : Int) := by simp; omega
  have hl2 : A.length + B.length + 1 ≤ 5864062014700 := by simp at hl; omega
  have e1 : wrap64 (x.f2 - 1) = x.f2 - 1 := wr (by omega) (by omega)
  have e2 : wrap64 ((A.length : Int) + 1) = (A.length : Int) + 1 := wr (by omega) (by omega)
  have b1 : (0 : Int) ≤ (A.length : Int) := by omega
  have b2 : (A.length : Int) ≤ ((A ++ x :: B).length : Int) := by omega
  have b3 : (0 : Int) ≤ (A.length : Int) + 1 := by omega
  have b4 : (A.length : Int) + 1 ≤ ((A ++ x :: B).length : Int) := by omega
  have b5 : (A ++ x :: B).length < 5864062014805 := by omega
  have b6 : A.length < 5864062014805 := by omega
  have b7 : A.length + B.length < 5864062014805 := by omega
  have e3 : ((A.length : Int) + 1).toNat = A.length + 1 := by omega
  have b8 : ([] : List S38).length + (A ++ x :: B).length < 5864062014805 := by simp; omega
  have b9 : ([] : List S38).length + A.length < 5864062014805 := by simp; omega
  rw [larchref19_Exit.j1, if_neg (by decide), Option.bind_some, if_pos b8, Option.bind_some, if_pos b1, List.nil_append, if_pos hlen, Option.bind_some, rd_mid, e1, Int.toNat_natCast, set_mid, rd_mid]
  by_cases h3 : x.f2 = 1
  · have h4 : x.f2 - 1 = 0 := by omega
    rw [if_pos h4, if_pos h3, Option.bind_some, if_pos b2, Option.bind_some, List.take_left, if_pos b9, Option.bind_some, e2, if_pos b3, if_pos b4, Option.bind_some, e3, drop_mid, List.nil_append, if_pos b7]
  · have h4 : ¬ (x.f2 - 1 = 0) := by omega
    rw [if_neg h4, if_neg h3]
theorem rexit_hit {A B : List S38} {x : S38} (hl : (A ++ x :: B).length ≤ 5864062014700) {w : Int} (hR : Rt (A ++ x :: B)) (hw : 0 ≤ w) (hx : x.f2 ≤ 1000000000000000) {k : Nat} (hk : (A ++ x :: B).length + 2 < k) : larchref19_Exit.f k (A ++ x :: B) x.f0 w = some (if x.f1 = w then (if x.f2 = 1 then A ++ B else A ++ ⟨x.f0, x.f1, x.f2 - 1⟩ :: B, 0) else ([], 5)) := by
  obtain ⟨_, hA, hB, ho, _, h2⟩ := rt_mid.1 hR
  have hlen : (A.length : Int) < ((A ++ x :: B).length : Int) := by simp; omega
  rw [rexit_in hl hR ho hw (by omega)]
  obtain ⟨k, rfl⟩ : ∃ m, k = m + 1 + 1 := ⟨k - 2, by omega⟩
  have b1 : (0 : Int) ≤ (A.length : Int) := by omega
  rw [larchref19_Exit.j0, if_neg (by decide), at_f _ (by omega) (by omega), Option.bind_some]
  simp only
  rw [isAt_hit rfl hA, if_pos rfl, place_hit rfl hA, if_pos b1, if_pos hlen, rd_mid]
  by_cases h1 : x.f1 = w
  · rw [if_pos h1, show (x.f1 != w) = false by simp [h1]]
    exact rexit_j1 hl h2 hx k
  · rw [if_neg h1, show (x.f1 != w) = true by simp [h1]]
    exact rexit_j1_no _ _ k
theorem rexit_miss {A B : List S38} {o : Int} (hl : (A ++ B).length ≤ 5864062014700) {w : Int} (hR : Rt (A ++ B)) (hA : ∀ y ∈ A, y.f0 < o) (hB : ∀ y ∈ B, o < y.f0) (ho : 1 ≤ o) (hw : 0 ≤ w) {k : Nat} (hk : (A ++ B).length + 2 < k) : larchref19_Exit.f k (A ++ B) o w = some ([], 5) := by
  obtain ⟨k, rfl⟩ : ∃ m, k = m + 1 + 1 := ⟨k - 2, by omega⟩
  rw [rexit_in hl hR ho hw (by omega), larchref19_Exit.j0, if_neg (by decide), at_f _ (by omega) (by omega), Option.bind_some]
  simp only
  rw [isAt_miss hA hB, if_neg (by decide), larchref19_Exit.j1, if_pos rfl]
theorem owner_f {l : List S38} (hl : l.length ≤ 5864062014700) (o : Int) : lock_Owner.f l o = some (owner l o) := by
  unfold lock_Owner.f
  rw [if_pos hl]
theorem works_f {k : Nat} (hk : 5 < k) : larchlaw19_works.f k = some true := by
  unfold larchlaw19_works.f
  have e1 : lock_Enter.f k [] 5 0 1 = some ([⟨5, 0, 1⟩], 0) := enter_new (A := []) (B := []) (by simp) (by decide) (by simp) (by simp) (by decide) (by decide) (by decide) (by simp; omega)
  have hR : Rt ([] ++ (⟨5, 0, 1⟩ : S38) :: []) := by decide
  have e2 : lock_Enter.f k [⟨5, 0, 1⟩] 5 0 1 = some ([⟨5, 0, 2⟩], 0) := enter_hit (A := []) (B := []) (x := ⟨5, 0, 1⟩) (w := 0) (c := 1) (k := k) (by simp) hR (by decide) (by decide) (by simp; omega) |>.trans (by simp [wrap64])
  have hR2 : Rt ([] ++ (⟨5, 0, 2⟩ : S38) :: []) := by decide
  have e3 : lock_Enter.f k [⟨5, 0, 2⟩] 5 1 1 = some ([], 8) := enter_hit (A := []) (B := []) (x := ⟨5, 0, 2⟩) (w := 1) (c := 1) (k := k) (by simp) hR2 (by decide) (by decide) (by simp; omega) |>.trans (by decide)
  rw [e1, Option.bind_some]
  simp only
  rw [e2, Option.bind_some]
  simp only
  rw [e3, Option.bind_some]
  simp only
  rw [owner_f (by simp)]
  rfl
end Go.Proofs.Ytbhdodkkebgjcaa.Q
