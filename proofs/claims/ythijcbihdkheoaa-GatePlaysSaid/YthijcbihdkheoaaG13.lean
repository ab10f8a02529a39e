/- The document's put: it answers as 'putP'. -/
import Derived.Test.YthijcbihdkheoaaG10
import Derived.Test.YthijcbihdkheoaaPGatePlaysx2
namespace Go.Proofs.Ythijcbihdkheoaa.G
open Go.RowKit Go.Proofs.YthijcbihdkheoaaW.PrintWords Go.Proofs.YthijcbihdkheoaaW.PrintLast Go.Proofs.YthijcbihdkheoaaW.PrintMore
set_option linter.unusedSimpArgs false
set_option linter.unusedVariables false
open PGatePlays in
theorem ref_l1 (ls : List Int) (p : Nat) (hp : p ≤ 1000000000) (hl : ls.length ≤ 1000000000) : ∀ (d i : Nat) (out : List Int) (n : Int), ls.length - i = d → i ≤ ls.length → p + i ≤ out.length → out.length + ls.length ≤ 1000000000 + i → 0 ≤ n → n ≤ i →
    ∃ k, larchref22_Put.l1 k (p : Int) ls out n (i : Int) = some (out ++ ls.drop (out.length - p), n + ((ls.length - (out.length - p) : Nat) : Int), 0) := by
  intro d
  induction d with
  | zero =>
    intro i out n hd hi hpi hb h0 hn
    refine ⟨1, ?_⟩
    rw [larchref22_Put.l1, if_neg (by omega), List.drop_eq_nil_of_le (by omega), List.append_nil, show ls.length - (out.length - p) = 0 by omega]
    simp
  | succ d ih =>
    intro i out n hd hi hpi hb h0 hn
    have hlt : i < ls.length := by omega
    have w1 : wrap64 ((p : Int) + i) = (p : Int) + i := by unfold wrap64; omega
    have w2 : wrap64 ((i : Int) + 1) = ((i + 1 : Nat) : Int) := by unfold wrap64; omega
    have w3 : wrap64 (n + 1) = n + 1 := by unfold wrap64; omega
    by_cases h : p + i = out.length
    · obtain ⟨k, hk⟩ := ih (i + 1) (out ++ [rd ls i]) (n + 1) (by omega) (by omega) (by rw [List.length_append, List.length_singleton]; omega) (by rw [List.length_append, List.length_singleton]; omega) (by omega) (by omega)
      refine ⟨k + 1, ?_⟩
      rw [larchref22_Put.l1, if_pos (by omega), w1, if_pos (by omega), if_pos (by omega), if_pos (by omega), w2, w3, hk]
      have e1 : (out ++ [rd ls i]).length - p = i + 1 := by rw [List.length_append, List.length_singleton]; omega
      have e2 : out.length - p = i := by omega
      rw [e1, e2, drop_eq_cons ls i hlt, List.append_assoc, List.singleton_append]
      simp only [Option.some.injEq, Prod.mk.injEq, and_true, true_and]
      omega
    · obtain ⟨k, hk⟩ := ih (i + 1) out n (by omega) (by omega) (by omega) (by omega) h0 (by omega)
      refine ⟨k + 1, ?_⟩
      rw [larchref22_Put.l1, if_pos (by omega), w1, if_neg (by omega), w2, hk]
theorem take_rd (xs ls : List Int) (p t : Nat) (h1 : p + t ≤ xs.length) (h2 : t ≤ ls.length) : (xs.drop p).take t = ls.take t ↔ ∀ j : Nat, j < t → rd xs ((p : Int) + j) = rd ls j := by
  have e1 : ∀ j : Nat, rd xs ((p : Int) + j) = xs.getD (p + j) 0 := fun j => by unfold rd; congr 1
  have e2 : ∀ j : Nat, rd ls (j : Int) = ls.getD j 0 := fun j => by unfold rd; congr 1
  constructor
  · intro h j hj
    have := congrArg (fun l => l.getD j 0) h
    simp only [List.getD_eq_getElem?_getD, List.getElem?_take, hj, if_true, List.getElem?_drop] at this
    rw [e1, e2, List.getD_eq_getElem?_getD, List.getD_eq_getElem?_getD]
    exact this
  · intro h
    apply List.ext_getElem (by simp only [List.length_take, List.length_drop]; omega)
    intro j h3 h4
    simp only [List.length_take, List.length_drop] at h3 h4
    have hj := h j (by omega)
    rw [e1, e2, List.getD_eq_getElem?_getD, List.getD_eq_getElem?_getD, List.getElem?_eq_getElem (by omega), List.getElem?_eq_getElem (by omega)] at hj
    simpa using hj
open PGatePlays in
theorem ref_l0 (xs ls : List Int) (p : Nat) (hp : p ≤ xs.length) (hb : xs.length + ls.length ≤ 1000000000) (t : Nat) (ht : t = min ls.length (xs.length - p)) : ∀ (d i : Nat), t - i = d → i ≤ t → (∀ j : Nat, j < i → rd xs ((p : Int) + j) = rd ls j) →
    ∃ k, larchref22_Put.l0 k xs (p : Int) ls (i : Int) = some (if (xs.drop p).take t = ls.take t then (xs ++ ls.drop t, ((ls.length - t : Nat) : Int), 0) else (xs, 0, 6)) := by
  intro d
  induction d with
  | zero =>
    intro i hd hi hm
    obtain rfl : i = t := by omega
    obtain ⟨k, hk⟩ := ref_l1 ls p (by omega) (by omega) _ 0 ([] ++ xs) 0 rfl (by omega) (by simp; omega) (by simp; omega) (by omega) (by omega)
    have hw : wrap64 ((p : Int) + i) = (p : Int) + i := by unfold wrap64; omega
    refine ⟨k + 2, ?_⟩
    rw [if_pos ((take_rd xs ls p i (by omega) (by omega)).2 hm)]
    have e : larchref22_Put.j2 (k + 1) xs (p : Int) ls (i : Int) false = some (xs ++ ls.drop i, ((ls.length - i : Nat) : Int), 0) := by
      rw [larchref22_Put.j2, if_neg (by simp)]
      simp only [Option.bind_some]
      rw [if_pos (by simp; omega)]
      rw [show ((0 : Nat) : Int) = 0 from rfl] at hk
      rw [hk]
      have e4 : ls.drop (([] ++ xs : List Int).length - p) = ls.drop i := by
        rw [List.nil_append]
        by_cases h : ls.length ≤ xs.length - p
        · rw [List.drop_eq_nil_of_le h, List.drop_eq_nil_of_le (by omega)]
        · congr 1; omega
      rw [e4, List.nil_append]
      simp only [Option.some.injEq, Prod.mk.injEq, and_true, true_and]
      omega
    rw [larchref22_Put.l0, hw]
    by_cases h : (i : Int) < ls.length
    · rw [if_pos h, decide_eq_false (by omega), e]
    · rw [if_neg h, e]
  | succ d ih =>
    intro i hd hi hm
    have hw : wrap64 ((p : Int) + i) = (p : Int) + i := by unfold wrap64; omega
    have w2 : wrap64 ((i : Int) + 1) = ((i + 1 : Nat) : Int) := by unfold wrap64; omega
    by_cases h : rd xs ((p : Int) + i) = rd ls i
    · obtain ⟨k, hk⟩ := ih (i + 1) (by omega) (by omega) (fun j hj => by
        by_cases e : j = i
        · rw [e]; exact h
        · exact hm j (by omega))
      refine ⟨k + 2, ?_⟩
      rw [larchref22_Put.l0, hw, if_pos (by omega), decide_eq_true (by omega), larchref22_Put.j2, if_pos rfl, hw, if_pos (by omega), if_pos (by omega), if_pos (by omega), if_pos (by omega), if_pos h, w2, hk]
    · refine ⟨2, ?_⟩
      rw [larchref22_Put.l0, hw, if_pos (by omega), decide_eq_true (by omega), larchref22_Put.j2, if_pos rfl, hw, if_pos (by omega), if_pos (by omega), if_pos (by omega), if_pos (by omega), if_neg h, if_neg (fun hc => h ((take_rd xs ls p t (by omega) (by omega)).1 hc i (by omega)))]
open PGatePlays in
theorem ref_f (xs ls : List Int) (p : Int) (hb : xs.length + ls.length ≤ 1000000000) : ∃ k, larchref22_Put.f k xs p ls = some (putP xs p ls) := by
  unfold putP
  by_cases h : p < 0 ∨ (xs.length : Int) < p
  · rw [if_pos h]
    refine ⟨1, ?_⟩
    unfold larchref22_Put.f
    by_cases h1 : p < 0
    · rw [if_pos h1, larchref22_Put.j0, if_pos rfl]
    · rw [if_neg h1, decide_eq_true (by omega), larchref22_Put.j0, if_pos rfl]
  · rw [if_neg h]
    obtain ⟨k, hk⟩ := ref_l0 xs ls p.toNat (by omega) hb _ rfl _ 0 rfl (by omega) (fun j hj => by omega)
    refine ⟨k + 1, ?_⟩
    unfold larchref22_Put.f
    rw [if_neg (by omega), decide_eq_false (by omega), larchref22_Put.j0, if_neg (by simp)]
    rw [show ((p.toNat : Nat) : Int) = p by omega, show ((0 : Nat) : Int) = 0 from rfl] at hk
    rw [hk]
    split
    · simp only [Option.some.injEq, Prod.mk.injEq, and_true, true_and]
      omega
    · rfl
end Go.Proofs.Ythijcbihdkheoaa.G
