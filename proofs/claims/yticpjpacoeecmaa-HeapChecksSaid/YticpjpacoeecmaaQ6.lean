/- heap, plain: the law HeapChecks, as a function. -/
import Derived.Test.YticpjpacoeecmaaQ4
import Derived.Test.YticpjpacoeecmaaAx14
namespace Go.Proofs.Yticpjpacoeecmaa.Q
open Go.RowKit Go.Proofs.YticpjpacoeecmaaW.PrintWords Go.Proofs.Yticpjpacoeecmaa.A.P
set_option linter.unusedVariables false
set_option linter.unusedSimpArgs false
theorem si_l0 (a : List Int) (ha : a.length ≤ 9000000) : ∀ (d k i : Nat), a.length - i = d → i ≤ a.length → d < k → larchbase_SameInts.l0 k a a i = some true := by
  intro d
  induction d with
  | zero =>
    intro k i hd hi hk
    obtain ⟨k, rfl⟩ : ∃ m, k = m + 1 := ⟨k - 1, by omega⟩
    simp only [larchbase_SameInts.l0]
    rw [if_neg (by omega)]
  | succ d ih =>
    intro k i hd hi hk
    obtain ⟨k, rfl⟩ : ∃ m, k = m + 1 := ⟨k - 1, by omega⟩
    have h := ih k (i + 1) (by omega) (by omega) (by omega)
    simp only [larchbase_SameInts.l0]
    rw [if_pos (by omega), if_pos (by omega), if_pos (by omega), if_pos trivial, wr (by omega) (by omega)]
    simpa using h
theorem si_f (a : List Int) (ha : a.length ≤ 9000000) {k : Nat} (hk : a.length < k) : larchbase_SameInts.f k a a = some true := by
  unfold larchbase_SameInts.f
  rw [if_pos rfl]
  exact si_l0 a ha a.length k 0 (by omega) (by omega) hk
theorem live_len (l : List S40) : (live l).length ≤ l.length := liveFrom_len l 0
theorem getS_small {l : List S40} (n : Int) : Small [(⟨(getS l n).1, (getS l n).2.1⟩ : S40)] := by
  refine Small.one ?_
  unfold getS
  by_cases h : there l n = true
  · rw [if_pos h]; have := there_words h; simp only; omega
  · rw [if_neg h]; simp
theorem HeapChecks_f {l : List S40} (hg : Good l) {n j : Int} (hn : I64 n) {k : Nat} (hk : 500000 + l.length < k) : larchlaw15_HeapChecks.f k l n j = some true := by
  unfold larchlaw15_HeapChecks.f
  rw [light_f hg (by omega)]
  simp only [Option.bind_some]
  by_cases h : l.length ≤ 5000 ∧ wsum l ≤ 70000
  · rw [if_pos (decide_eq_true h), copy_f hg (by omega)]
    simp only [Option.bind_some]
    rw [get_f hg hn]
    simp only [Option.bind_some]
    rw [rget_f hg hn (by omega)]
    simp only [Option.bind_some]
    rw [word_f hg hn]
    simp only [Option.bind_some]
    rw [rword_f hg hn (by omega)]
    simp only [Option.bind_some]
    rw [check_f hg]
    simp only [Option.bind_some]
    rw [rcheck_f hg (by omega)]
    simp only [Option.bind_some, if_true]
    rw [words_f hg h.1 (by omega)]
    simp only [Option.bind_some]
    rw [rwords_f hg h.1 (by omega)]
    simp only [Option.bind_some, if_true]
    rw [live_f hg (by omega)]
    simp only [Option.bind_some]
    rw [rlive_f hg (by omega)]
    simp only [Option.bind_some]
    have hl := live_len l
    rw [si_f (live l) (by omega) (by omega)]
    simp only [Option.bind_some, if_true]
    rw [(getS_small n).so (by omega)]
    simp only [Option.bind_some, if_true, beq_self_eq_true, Bool.and_self]
    rw [works_f (by omega)]
    rfl
  · rw [if_neg (by simpa using h), check_f hg]
    have : chk l = 150 := by
      rcases chk_cases l with h2 | h2
      · obtain ⟨h3, h4, _⟩ := chk_zero h2.1
        omega
      · exact h2.1
    rw [this]
    rfl
end Go.Proofs.Yticpjpacoeecmaa.Q
