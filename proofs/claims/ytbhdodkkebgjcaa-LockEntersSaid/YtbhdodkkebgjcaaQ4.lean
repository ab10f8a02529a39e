/- lock, plain: LockEnters. -/
import Derived.Test.YtbhdodkkebgjcaaQ3
import Derived.Test.YtbhdodkkebgjcaaAx8
namespace Go.Proofs.Ytbhdodkkebgjcaa.Q
open Go.RowKit Go.Proofs.YtbhdodkkebgjcaaW.PrintWords Go.Proofs.Ytbhdodkkebgjcaa.A.P
set_option linter.unusedVariables false
set_option linter.unusedSimpArgs false
theorem enter_same {l : List S38} (hl : l.length ≤ 5864062014700) (o w c : Int) {k : Nat} (hk : l.length + 2 < k) : ∃ e : List S38 × Int, lock_Enter.f k l o w c = some e ∧ larchref19_Enter.f k l o w c = some e ∧ e.1.length ≤ l.length + 1 := by
  by_cases h : Rt l ∧ 1 ≤ o ∧ 0 ≤ w ∧ 1 ≤ c
  · obtain ⟨hR, ho, hw, hc⟩ := h
    rcases split_at hR.1 o with ⟨A, x, B, rfl, rfl, hA, hB⟩ | ⟨A, B, rfl, hA, hB⟩
    · refine ⟨_, enter_hit hl hR hw hc (by omega), renter_hit hl hR hw hc (by omega), ?_⟩
      split <;> simp
    · refine ⟨_, enter_new hl hR hA hB ho hw hc (by omega), renter_new hl hR hA hB ho hw hc (by omega), ?_⟩
      simp; omega
  · exact ⟨_, enter_bad hl h (by omega), renter_bad hl h (by omega), by simp⟩
theorem exit_same {l : List S38} (hl : l.length ≤ 5864062014700) (o w : Int) (hs : ∀ x ∈ l, x.f2 ≤ 1000000000000000) {k : Nat} (hk : l.length + 2 < k) : ∃ e : List S38 × Int, lock_Exit.f k l o w = some e ∧ larchref19_Exit.f k l o w = some e ∧ e.1.length ≤ l.length + 1 := by
  by_cases h : Rt l ∧ 1 ≤ o ∧ 0 ≤ w
  · obtain ⟨hR, ho, hw⟩ := h
    rcases split_at hR.1 o with ⟨A, x, B, rfl, rfl, hA, hB⟩ | ⟨A, B, rfl, hA, hB⟩
    · have hx := hs x (by simp)
      refine ⟨_, exit_hit hl hR hw hx (by omega), rexit_hit hl hR hw hx (by omega), ?_⟩
      split
      · split <;> simp; omega
      · simp
    · exact ⟨_, exit_miss hl hR hA hB ho hw (by omega), rexit_miss hl hR hA hB ho hw (by omega), by simp⟩
  · exact ⟨_, exit_bad hl h (by omega), rexit_bad hl h (by omega), by simp⟩
theorem leave_same {l : List S38} (hl : l.length ≤ 5864062014700) (o w : Int) {k : Nat} (hk : l.length + 2 < k) : ∃ e : List S38 × Int × Int, lock_Leave.f k l o w = some e ∧ larchref19_Leave.f k l o w = some e ∧ e.1.length ≤ l.length + 1 := by
  by_cases h : Rt l ∧ 1 ≤ o ∧ 0 ≤ w
  · obtain ⟨hR, ho, hw⟩ := h
    rcases split_at hR.1 o with ⟨A, x, B, rfl, rfl, hA, hB⟩ | ⟨A, B, rfl, hA, hB⟩
    · refine ⟨_, leave_hit hl hR hw (by omega), rleave_hit hl hR hw (by omega), ?_⟩
      split
      · simp; omega
      · simp
    · exact ⟨_, leave_miss hl hR hA hB ho hw (by omega), rleave_miss hl hR hA hB ho hw (by omega), by simp⟩
  · exact ⟨_, leave_bad hl h (by omega), rleave_bad hl h (by omega), by simp⟩
theorem same_self {a : List S38} (hl : a.length ≤ 5864062014800) {k : Nat} (hk : a.length < k) : larchlaw19_same.f k a a = some true := by
  rw [same_f hl hk, decide_eq_true rfl]
theorem LockEnters_f {l : List S38} (hl : l.length ≤ 5864062014634) (o w c : Int) {k : Nat} (hk : l.length + 10 < k) : larchlaw19_LockEnters.f k l o w c = some true := by
  unfold larchlaw19_LockEnters.f
  rw [safe_f c (by omega) (by omega), Option.bind_some]
  by_cases hs : Safe l c
  · obtain ⟨ea, e1, r1, n1⟩ := enter_same (l := l) (by omega) o w c (k := k) (by omega)
    obtain ⟨eb, e2, r2, n2⟩ := exit_same (l := l) (by omega) o w (fun x hx => by have := hs.1 x hx; omega) (k := k) (by omega)
    obtain ⟨ed, e3, r3, n3⟩ := leave_same (l := l) (by omega) o w (k := k) (by omega)
    have h0 : ([] : List S38).length + l.length < 5864062014805 := by simp; omega
    rw [decide_eq_true hs, if_pos rfl, Option.bind_some, if_pos h0, Option.bind_some, List.nil_append, e1, Option.bind_some, r1, Option.bind_some, e2, Option.bind_some, r2, Option.bind_some, e3, Option.bind_some, r3, Option.bind_some,
      check_f (by omega) (by omega), Option.bind_some, rcheck_f (by omega) (by omega), Option.bind_some, if_pos rfl, same_self (by omega) (by omega), Option.bind_some, if_pos rfl, if_pos rfl,
      same_self (by omega) (by omega), Option.bind_some, if_pos rfl, if_pos rfl, same_self (by omega) (by omega), Option.bind_some, if_pos rfl, if_pos rfl, if_pos rfl, same_self (by omega) (by omega), Option.bind_some, if_pos rfl, works_f (by omega), Option.bind_some]
  · rw [decide_eq_false hs, if_neg (by decide), check_f (by omega) (by omega), Option.bind_some, rcheck_f (by omega) (by omega), Option.bind_some, beq_self_eq_true]
end Go.Proofs.Ytbhdodkkebgjcaa.Q
