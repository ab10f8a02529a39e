/- heap, plain: the fixed whole, and what is small enough to be compared. -/
import Derived.Test.YticpjpacoeecmaaQ2
import Derived.Test.YticpjpacoeecmaaAx10
namespace Go.Proofs.Yticpjpacoeecmaa.Q
open Go.RowKit Go.Proofs.YticpjpacoeecmaaW.PrintWords Go.Proofs.Yticpjpacoeecmaa.A.P
set_option linter.unusedVariables false
set_option linter.unusedSimpArgs false
theorem works_10 : larchlaw15_works.f 10 = some true := by decide +kernel
theorem works_f {k : Nat} (hk : 10 ≤ k) : larchlaw15_works.f k = some true := by
  obtain ⟨m, rfl⟩ : ∃ m, k = 10 + m := ⟨k - 10, by omega⟩
  clear hk
  induction m with
  | zero => exact works_10
  | succ m ih => exact larchlaw15_works.mono _ _ ih
/-- What is small enough to be compared. -/
structure Small (l : List S40) : Prop where
  len : l.length ≤ 70000
  each : ∀ x ∈ l, x.f1.length ≤ 70000
theorem Small.so {l : List S40} (h : Small l) {k : Nat} (hk : 140000 < k) : larchbase_SameObjects.f k l l = some true := so_f l h.len h.each (by omega) (by omega)
theorem small_of {l : List S40} (h1 : l.length ≤ 5000) (h2 : wsum l ≤ 70000) : Small l := ⟨by omega, fun x hx => by have := wsum_mem hx; omega⟩
theorem Small.nil : Small [] := ⟨by simp, by simp⟩
theorem Small.one {x : S40} (h : x.f1.length ≤ 70000) : Small [x] := ⟨by simp, fun y hy => by rw [List.mem_singleton.1 hy]; exact h⟩
theorem Small.set {l : List S40} (h : Small l) (i : Nat) {x : S40} (hx : x.f1.length ≤ 70000) : Small (l.set i x) := ⟨by simpa using h.len, fun y hy => by
  rcases List.mem_or_eq_of_mem_set hy with h1 | h1
  · exact h.each y h1
  · rw [h1]; exact hx⟩
theorem mem_trim {l : List S40} {x : S40} (h : x ∈ trim l) : x ∈ l := by
  unfold trim at h
  rw [List.mem_reverse] at h
  exact List.mem_reverse.1 ((List.dropWhile_suffix _).subset h)
theorem trim_len (l : List S40) : (trim l).length ≤ l.length := by
  unfold trim
  rw [List.length_reverse]
  have := (List.dropWhile_suffix (l := l.reverse) isFree).length_le
  simpa using this
theorem Small.trim {l : List S40} (h : Small l) : Small (trim l) := ⟨by have := trim_len l; have := h.len; omega, fun x hx => h.each x (mem_trim hx)⟩
theorem rd_small {l : List S40} (h : Small l) (i : Int) : (rd_T40 l i).f1.length ≤ 70000 := by
  unfold rd_T40
  rcases Nat.lt_or_ge i.toNat l.length with h1 | h1
  · rw [List.getD_eq_getElem?_getD, List.getElem?_eq_getElem h1]
    exact h.each _ (List.getElem_mem _)
  · rw [List.getD_eq_getElem?_getD, List.getElem?_eq_none h1]
    simp [z40]
theorem setS_small {l : List S40} (h : Small l) (n j v0 v1 : Int) : Small (setS l n j v0 v1).1 := by
  unfold setS
  split
  · exact h.set _ (by simpa using rd_small h (n - 1))
  · exact Small.nil
theorem freeS_small {l : List S40} (h : Small l) (n : Int) : Small (freeS l n).1 := by
  unfold freeS
  split
  · exact (h.set _ (by simp [z40])).trim
  · exact Small.nil
end Go.Proofs.Yticpjpacoeecmaa.Q
