/- gc, plain: the reference's Get and Live. -/
import Derived.Test.YtonkfcfpfpaceaaQ1
import Derived.Test.YtonkfcfpfpaceaaMA5
namespace Go.Proofs.Ytonkfcfpfpaceaa.Q
open Go.RowKit Go.Proofs.YtonkfcfpfpaceaaW.PrintWords Go.Proofs.Ytonkfcfpfpaceaa.A.P
set_option linter.unusedVariables false
set_option linter.unusedSimpArgs false
theorem cut_one {l : List S37} {n : Int} (h0 : 1 ≤ n) (h1 : n ≤ l.length) : (l.take n.toNat).drop (n - 1).toNat = [rd_T37 l (n - 1)] := by
  obtain ⟨i, rfl⟩ : ∃ i : Nat, n = i + 1 := ⟨(n - 1).toNat, by omega⟩
  have hi : i < l.length := by omega
  rw [show ((i : Int) + 1 - 1) = i by omega, show ((i : Int) + 1).toNat = i + 1 by omega, rdi l i hi, Int.toNat_natCast, List.take_succ_eq_append_getElem hi, List.drop_left' (by rw [List.length_take]; omega)]
theorem good_one {l : List S37} (hg : Good l) {x : S37} (h : x ∈ l) : Good [x] := ⟨by simp, fun y hy => by rw [List.mem_singleton.1 hy]; exact hg.each _ h⟩
theorem rlive_l0 (l : List S37) (hl : l.length ≤ 3518437208830) : ∀ (d k i : Nat) (acc : List Int), l.length - i = d → i ≤ l.length → d < k → acc.length ≤ i → larchref15_Live.l0 k l acc i = some (acc ++ liveFrom i (l.drop i)) := by
  intro d
  induction d with
  | zero =>
    intro k i acc hd hi hk ha
    obtain ⟨k, rfl⟩ : ∃ m, k = m + 1 := ⟨k - 1, by omega⟩
    simp only [larchref15_Live.l0]
    rw [if_neg (by omega), List.drop_of_length_le (by omega)]
    simp [liveFrom]
  | succ d ih =>
    intro k i acc hd hi hk ha
    obtain ⟨k, rfl⟩ : ∃ m, k = m + 1 := ⟨k - 1, by omega⟩
    have hlt : i < l.length := by omega
    have hdr : l.drop i = l[i] :: l.drop (i + 1) := List.drop_eq_getElem_cons hlt
    simp only [larchref15_Live.l0]
    rw [if_pos (by omega), if_pos (by omega), rdi l i hlt, hdr, wr (by omega) (by omega)]
    unfold liveFrom
    by_cases h : isFree l[i] = true
    · rw [if_pos ((isFree_iff _).1 h), if_pos h]
      exact ih k (i + 1) acc (by omega) (by omega) (by omega) (by omega)
    · rw [if_neg (fun h' => h ((isFree_iff _).2 h')), if_neg h, if_pos (by omega)]
      have := ih k (i + 1) (acc ++ [(i : Int) + 1]) (by omega) (by omega) (by omega) (by simp; omega)
      rw [show (((i + 1 : Nat) : Int)) = (i : Int) + 1 by omega] at this
      rw [this]
      simp
theorem rlive_f {l : List S37} (hg : Good l) {k : Nat} (hk : l.length < k) : larchref15_Live.f k l = some (live l) := by
  have := rlive_l0 l hg.len l.length k 0 [] (by omega) (by omega) hk (by simp)
  simpa [larchref15_Live.f, live] using this
end Go.Proofs.Ytonkfcfpfpaceaa.Q
