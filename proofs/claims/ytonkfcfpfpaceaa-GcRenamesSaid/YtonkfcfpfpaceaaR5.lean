/- gc, plain: the chapter's example, light heaps, whether two canons are alike. -/
import Derived.Test.YtonkfcfpfpaceaaR4
import Derived.Test.YtonkfcfpfpaceaaMB
namespace Go.Proofs.Ytonkfcfpfpaceaa.Q
open Go.RowKit Go.Proofs.YtonkfcfpfpaceaaW.PrintWords Go.Proofs.YtonkfcfpfpaceaaW.PrintMore Go.Proofs.Ytonkfcfpfpaceaa.A.P
set_option linter.unusedVariables false
set_option linter.unusedSimpArgs false
theorem works_f {k : Nat} (hk : 20 ≤ k) : larchlaw16_works.f k = some true := larchlaw16_works.isTrue hk
/-- What a light heap is bounded by. -/
structure Light (l : List S37) : Prop where
  len : l.length < 1000
  sum : wsum l < 1000
theorem Light.of {l : List S37} (h : wsum l + l.length < 1000) : Light l := ⟨by omega, by omega⟩
theorem Light.each {l : List S37} (h : Light l) {x : S37} (hx : x ∈ l) : x.f1.length < 1000 := by have := wsum_mem hx; have := h.sum; omega
theorem Light.ok {l : List S37} (h : Light l) (hw : WfH l) {vs : List S41} (hv : WfV vs) (hvl : vs.length ≤ 1000000) : okIn l vs = true :=
  okIn_of (by have := h.len; omega) (fun x hx => by have := h.each hx; omega) hw hv hvl
theorem Light.small {l : List S37} (h : Light l) : Small l := ⟨by have := h.len; omega, fun x hx => by have := h.each hx; omega⟩
theorem swept_mem {H : List S37} {o : List Int} (ho : InH H o) {x : S37} (hx : x ∈ sweptH H o) : x.f1.length = 0 ∨ x ∈ H := by
  have h1 := mem_trim hx
  simp only [swept, List.mem_map, List.mem_range] at h1
  obtain ⟨i, hi, rfl⟩ := h1
  unfold keepAt
  split
  · right
    rw [rdi H i hi]
    exact List.getElem_mem _
  · exact .inl rfl
theorem swept_small {H : List S37} {o : List Int} (h : Light H) (ho : InH H o) : Small (sweptH H o) := by
  refine ⟨?_, fun x hx => ?_⟩
  · have := trim_len (swept H o)
    rw [swept_len] at this
    have := h.len
    unfold sweptH
    omega
  · rcases swept_mem ho hx with h1 | h1
    · omega
    · have := h.each h1; omega
theorem canon_small {H : List S37} {o : List Int} (h : Light H) (ho : InH H o) : (canonH H o).length ≤ 5000 ∧ ∀ x, x ∈ canonH H o → x.f1.length ≤ 1000 := by
  have := ho.len
  have := h.len
  refine ⟨by simp [canonH]; omega, fun x hx => ?_⟩
  simp only [canonH, List.mem_map] at hx
  obtain ⟨n, hn, rfl⟩ := hx
  have hlv := ho.2 _ hn
  have := h.each (rd_mem hlv.1 hlv.2.1)
  simp only [objOf, List.length_map, wordsOf]
  omega
theorem same_f {l m : List S37} {a b : List S41} (hg : Good l) (hw : WfH l) (hL : Light l) (ha : WfV a) (hal : a.length ≤ 1000) (hg2 : Good m) (hw2 : WfH m) (hL2 : Light m) (hb : WfV b) (hbl : b.length ≤ 1000) {k : Nat} (hk : 3000000 < k) :
    ∃ r, gc_Same.f k l a m b = some (r, if chk l = 0 then chk m else chk l) ∧ (r = true ↔ chk l = 0 ∧ chk m = 0 ∧ canonH l (trO l a) = canonH m (trO m b) ∧ canonV l (trO l a) a = canonV m (trO m b) b) := by
  unfold gc_Same.f
  rw [canon_f hg hw ha (by omega) (hL.ok hw ha (by omega)), canon_f hg2 hw2 hb (by omega) (hL2.ok hw2 hb (by omega))]
  simp only [Option.bind_some]
  by_cases hc : chk l = 0
  · rw [if_pos hc, if_pos hc]
    simp only
    rw [if_pos trivial]
    by_cases hc2 : chk m = 0
    · rw [if_pos hc2]
      simp only
      rw [if_pos trivial]
      have h1 := canon_small hL (trO_post hw ha).1
      obtain ⟨r1, e1, i1⟩ := eos_f (canonH l (trO l a)) (canonH m (trO m b)) 7777037 (by omega) (fun x hx => by have := h1.2 x hx; omega) (k := k) (by omega)
      obtain ⟨r2, e2, i2⟩ := evs_f (canonV l (trO l a) a) (canonV m (trO m b) b) (by simp [canonV]; omega) (k := k) (by simp [canonV]; omega)
      rw [e1]
      simp only [Option.bind_some]
      cases r1 with
      | true =>
        rw [if_pos rfl, e2]
        refine ⟨r2, by simp [hc2], ?_⟩
        rw [i2]
        exact ⟨fun h => ⟨hc, hc2, i1.1 rfl, h⟩, fun h => h.2.2.2⟩
      | false =>
        rw [if_neg (by simp)]
        refine ⟨false, by simp [hc2], ?_⟩
        simp only [Bool.false_eq_true, false_iff]
        intro h
        have := i1.2 h.2.2.1
        cases this
    · rw [if_neg hc2]
      simp only
      rw [if_neg hc2]
      exact ⟨false, rfl, by simp [hc2]⟩
  · rw [if_neg hc, if_neg hc]
    simp only
    rw [if_neg hc]
    exact ⟨false, rfl, by simp [hc]⟩
end Go.Proofs.Ytonkfcfpfpaceaa.Q
