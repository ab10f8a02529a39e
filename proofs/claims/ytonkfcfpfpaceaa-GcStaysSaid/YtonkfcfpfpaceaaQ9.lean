/- gc, plain: the law GcStays: the canon of a canon. -/
import Derived.Test.YtonkfcfpfpaceaaQ8
import Derived.Test.YtonkfcfpfpaceaaME
namespace Go.Proofs.Ytonkfcfpfpaceaa.Q
open Go.RowKit Go.Proofs.YtonkfcfpfpaceaaW.PrintWords Go.Proofs.YtonkfcfpfpaceaaW.PrintMore Go.Proofs.Ytonkfcfpfpaceaa.A.P
set_option linter.unusedVariables false
set_option linter.unusedSimpArgs false
theorem canon_len (H : List S37) (o : List Int) : (canonH H o).length = o.length := by simp [canonH]
theorem canon_get {H : List S37} {o : List Int} {x : Int} (h : x ∈ o) : rd_T37 (canonH H o) (placeOf o x - 1) = objOf H o x := by
  obtain ⟨i, hi, e1, e2⟩ := place_get h
  rw [e1, show ((i : Int) + 1 - 1) = (i : Int) by omega, rdi _ i (by rw [canon_len]; exact hi)]
  simp [canonH, e2]
theorem canon_free {H : List S37} {o : List Int} (ho : InH H o) {x : Int} (h : x ∈ o) : isFree (objOf H o x) = false := by
  have := (ho.2 x h).2.2
  unfold isFree objOf at *
  exact this
theorem canon_ld {H : List S37} {o : List Int} (ho : InH H o) {v : S41} (h : ∀ y, ldTo H v = some y → y ∈ o) : ldTo (canonH H o) (anewV H o v) = (ldTo H v).map (placeOf o) := by
  cases hl : ldTo H v with
  | none => rw [anewV_none hl, ld_z1']; rfl
  | some y =>
    have hy := h y hl
    have hb := place_bounds hy
    rw [anewV_some hl, ldTo_eq, if_pos ⟨rfl, hb.1, by rw [canon_len]; exact hb.2, by simp only; rw [canon_get hy]; exact canon_free ho hy⟩]
    rfl
theorem canon_words {H : List S37} {o : List Int} {x : Int} (h : x ∈ o) : wordsOf (canonH H o) (placeOf o x) = (wordsOf H x).map (anewV H o) := by
  unfold wordsOf
  rw [canon_get h]
  rfl
theorem canon_sim {H : List S37} {o : List Int} (hw : WfH H) (ho : InH H o) (hol : o.length ≤ 9000000) (hc : ∀ x, x ∈ o → ∀ y, y ∈ leadsL H (wordsOf H x) → y ∈ o) : Sim H (canonH H o) (placeOf o) (· ∈ o) where
  inj := fun x y hx hy h => place_inj hx hy h
  wf1 := fun x hx => wordsOf_wf hw (ho.2 x hx)
  wf2 := fun x hx => by rw [canon_words hx]; exact wfV_anew hol (wordsOf_wf hw (ho.2 x hx))
  step := fun x hx => by
    refine ⟨?_, hc x hx⟩
    rw [canon_words hx]
    exact leads_map _ (fun v hv => canon_ld ho (fun y hy => hc x hx y (leads_mem hv hy)))
theorem places {o : List Int} (hn : o.Nodup) : o.map (placeOf o) = nums1 o.length := by
  refine List.ext_getElem (by simp [nums1]) fun i h1 h2 => ?_
  rw [List.getElem_map, place_at hn]
  simp [nums1]
theorem place_nums {n : Nat} {p : Int} (h0 : 1 ≤ p) (h1 : p ≤ n) : placeOf (nums1 n) p = p := by
  have hl : (nums1 n).length = n := by simp [nums1]
  have hp : (p - 1).toNat < (nums1 n).length := by omega
  have e : (nums1 n)[(p - 1).toNat] = p := by
    simp only [nums1, List.getElem_map, List.getElem_range]
    omega
  have := place_at (nums1_nodup n) hp
  rw [e] at this
  omega
theorem canon_anew {H : List S37} {o : List Int} (ho : InH H o) {v : S41} (h : ∀ y, ldTo H v = some y → y ∈ o) : anewV (canonH H o) (nums1 o.length) (anewV H o v) = anewV H o v := by
  have e := canon_ld ho h
  cases hl : ldTo H v with
  | none =>
    rw [hl] at e
    rw [anewV_none e, anewV_none hl, z1_z1]
  | some y =>
    rw [hl] at e
    have hb := place_bounds (h y hl)
    rw [anewV_some e, anewV_some hl, place_nums hb.1 hb.2]
theorem canon_again {H : List S37} {o : List Int} (ho : InH H o) (hc : ∀ x, x ∈ o → ∀ y, y ∈ leadsL H (wordsOf H x) → y ∈ o) : canonH (canonH H o) (nums1 o.length) = canonH H o := by
  rw [← places ho.1]
  unfold canonH
  rw [List.map_map]
  refine List.map_congr_left fun x hx => ?_
  show objOf (canonH H o) (o.map (placeOf o)) (placeOf o x) = objOf H o x
  unfold objOf
  rw [canon_get hx, canon_words hx, places ho.1, List.map_map]
  unfold objOf
  congr 1
  refine List.map_congr_left fun v hv => ?_
  exact canon_anew ho (fun y hy => hc x hx y (leads_mem hv hy))
theorem wsum_map (f : Int → S37) : ∀ o : List Int, wsum (o.map f) = (o.map fun x => (f x).f1.length).sum
  | [] => rfl
  | x :: t => by
    have := wsum_map f t
    unfold wsum at *
    simp only [List.map_cons, List.sum_cons, this]
theorem heap_map (H : List S37) : (nums1 H.length).map (fun x => rd_T37 H (x - 1)) = H := by
  refine List.ext_getElem (by simp [nums1]) fun i h1 h2 => ?_
  simp only [nums1, List.getElem_map, List.getElem_range]
  rw [show ((i : Int) + 1 - 1) = (i : Int) by omega, rdi H i h2]
theorem canon_light {H : List S37} {o : List Int} (h : Light H) (ho : InH H o) : Light (canonH H o) := by
  refine ⟨by rw [canon_len]; have := ho.len; have := h.len; omega, ?_⟩
  have e1 : wsum (canonH H o) = (o.map fun x => (rd_T37 H (x - 1)).f1.length).sum := by
    unfold canonH
    rw [wsum_map]
    congr 1
    refine List.map_congr_left fun x hx => ?_
    simp [objOf, wordsOf]
  have e2 := wsum_map (fun x => rd_T37 H (x - 1)) (nums1 H.length)
  rw [heap_map] at e2
  have := sum_sub (fun x => (rd_T37 H (x - 1)).f1.length) o (nums1 H.length) ho.1 (fun x hx => (nums1_mem _ _).2 ⟨(ho.2 x hx).1, (ho.2 x hx).2.1⟩)
  have := h.sum
  omega
theorem canon_chk {H : List S37} {o : List Int} (h : Light H) (ho : InH H o) : chk (canonH H o) = 0 := by
  have hL := canon_light h ho
  refine chk_of (by have := hL.len; omega) (by have := hL.sum; omega) (fun hp => ?_) (any_of' fun x hx => ?_)
  · have hm := rd_mem (l := canonH H o) (n := ((canonH H o).length : Int)) (by omega) (by omega)
    simp only [canonH, List.mem_map] at hm
    obtain ⟨x, hx, e⟩ := hm
    have e' : rd_T37 (canonH H o) (((canonH H o).length : Int) - 1) = objOf H o x := e.symm
    rw [e']
    exact canon_free ho hx
  · simp only [canonH, List.mem_map] at hx
    obtain ⟨y, hy, rfl⟩ := hx
    exact odd_of_not_free (canon_free ho hy)
theorem canon_wf {H : List S37} {o : List Int} (hw : WfH H) (ho : InH H o) (hol : o.length ≤ 9000000) : WfH (canonH H o) := fun x hx => by
  simp only [canonH, List.mem_map] at hx
  obtain ⟨y, hy, rfl⟩ := hx
  exact wfV_anew hol (wordsOf_wf hw (ho.2 y hy))
theorem Light.good {l : List S37} (h : Light l) : Good l := ⟨by have := h.len; omega, fun x hx => by have := h.each hx; omega⟩
theorem GcStays_f {l : List S37} {vs : List S41} (hg : Good l) (hw : WfH l) (hv : WfV vs) {k : Nat} (hk : 100000000000 + l.length < k) : larchlaw16_GcStays.f k l vs = some true := by
  obtain ⟨k', rfl⟩ : ∃ m, k = m + 1 := ⟨k - 1, by omega⟩
  unfold larchlaw16_GcStays.f
  rw [works_f (by omega)]
  simp only [Option.bind_some, if_true]
  obtain ⟨r, h1, h2⟩ := light_f hg (k := k' + 1) (by omega)
  rw [h1]
  simp only [Option.bind_some, larchlaw16_GcStays.j0]
  cases r with
  | false => rfl
  | true =>
    have hL := Light.of (h2 rfl)
    simp only [if_true]
    by_cases h3 : (vs.length : Int) > 300
    · rw [decide_eq_true h3]; rfl
    · rw [decide_eq_false h3]
      have hlen := hL.len
      simp only [Bool.false_eq_true, if_false]
      rw [canon_f hg hw hv (by omega) (hL.ok hw hv (by omega))]
      simp only [Option.bind_some]
      by_cases hc : chk l = 0
      · obtain ⟨hin, hr, hcl⟩ := trO_post hw hv
        have hil := hin.len
        have hLC := canon_light hL hin
        have hgC := hLC.good
        have hwC := canon_wf hw hin (by omega)
        have hvC : WfV (canonV l (trO l vs) vs) := wfV_anew (by omega) hv
        have hs := canon_sim hw hin (by omega) hcl
        have hvr : VRel l (canonH l (trO l vs)) (placeOf (trO l vs)) (· ∈ trO l vs) vs (canonV l (trO l vs) vs) := ⟨leads_map _ (fun v hm => canon_ld hin (fun y hy => hr y (leads_mem hm hy))), hr⟩
        have ho2 := (trO_sim hs hv hvC hvr).1
        rw [places hin.1] at ho2
        have hvl : (canonV l (trO l vs) vs).length ≤ 1000000 := by simp [canonV]; omega
        rw [if_pos hc]
        simp only
        rw [if_pos trivial, canon_f hgC hwC hvC hvl (hLC.ok hwC hvC hvl), if_pos (canon_chk hL hin), ho2, canon_again hin hcl]
        simp only [Option.bind_some]
        have ev : canonV (canonH l (trO l vs)) (nums1 (trO l vs).length) (canonV l (trO l vs) vs) = canonV l (trO l vs) vs := by
          unfold canonV
          rw [List.map_map]
          exact List.map_congr_left fun v hm => canon_anew hin (fun y hy => hr y (leads_mem hm hy))
        rw [if_pos trivial, ev, hLC.small.so (by omega)]
        simp only [Option.bind_some, if_true]
        rw [sv_f _ (by simp [canonV]; omega) (by simp [canonV]; omega)]
        rfl
      · rw [if_neg hc]
        simp only
        rw [if_neg hc]
        simp [wrap64]
end Go.Proofs.Ytonkfcfpfpaceaa.Q
