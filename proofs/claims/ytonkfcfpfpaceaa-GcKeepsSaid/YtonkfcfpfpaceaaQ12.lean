/- gc, plain: what a swept heap leads to. -/
import Derived.Test.YtonkfcfpfpaceaaQ8
namespace Go.Proofs.Ytonkfcfpfpaceaa.Q
open Go.RowKit Go.Proofs.YtonkfcfpfpaceaaW.PrintWords Go.Proofs.YtonkfcfpfpaceaaW.PrintMore Go.Proofs.Ytonkfcfpfpaceaa.A.P
set_option linter.unusedVariables false
set_option linter.unusedSimpArgs false
theorem sw_len {H : List S37} {o : List Int} (ho : InH H o) : (sweptH H o).length = (topO o).toNat ∧ (topO o).toNat ≤ H.length := by
  obtain ⟨t1, t2, t3⟩ := topO_post o (fun x hx => (ho.2 x hx).1)
  have hle : (topO o).toNat ≤ H.length := by
    rcases t3 with t3 | t3
    · omega
    · have := (ho.2 _ t3).2.1; omega
  refine ⟨?_, hle⟩
  rw [← sweep_take ho, List.length_take, swept_len]
  omega
theorem sw_get {H : List S37} {o : List Int} (ho : InH H o) {i : Nat} (h : i < (sweptH H o).length) : (sweptH H o)[i] = keepAt H o i := by
  have e := sweep_take ho
  have hl := sw_len ho
  rw [List.getElem_of_eq e.symm h, List.getElem_take, swept_get]
theorem sw_rd {H : List S37} {o : List Int} (ho : InH H o) {x : Int} (hx : x ∈ o) : x ≤ (sweptH H o).length ∧ rd_T37 (sweptH H o) (x - 1) = rd_T37 H (x - 1) := by
  obtain ⟨t1, t2, t3⟩ := topO_post o (fun x hx => (ho.2 x hx).1)
  have hl := sw_len ho
  have h1 := (ho.2 x hx).1
  have h2 := t2 x hx
  refine ⟨by omega, ?_⟩
  obtain ⟨i, rfl⟩ : ∃ i : Nat, x = i + 1 := ⟨(x - 1).toNat, by omega⟩
  rw [show ((i : Int) + 1 - 1) = (i : Int) by omega, rdi _ i (by omega), sw_get ho (by omega), keepAt, if_pos hx]
theorem sw_ld {H : List S37} {o : List Int} (ho : InH H o) {v : S41} (h : ∀ y, ldTo H v = some y → y ∈ o) : ldTo (sweptH H o) v = ldTo H v := by
  have hl := sw_len ho
  cases hld : ldTo H v with
  | some y =>
    have hy := h y hld
    obtain ⟨hlv, h4, h5⟩ := ldTo_live hld
    obtain ⟨g1, g2⟩ := sw_rd ho hy
    rw [ldTo_eq, h5, if_pos ⟨h4, hlv.1, g1, by rw [g2]; exact hlv.2.2⟩]
  | none =>
    cases hld2 : ldTo (sweptH H o) v with
    | none => rfl
    | some y =>
      obtain ⟨hlv, h4, h5⟩ := ldTo_live hld2
      obtain ⟨i, rfl⟩ : ∃ i : Nat, y = i + 1 := ⟨(y - 1).toNat, by have := hlv.1; omega⟩
      have e2 := hlv.2.1
      have e3 := hlv.2.2
      rw [show ((i : Int) + 1 - 1) = (i : Int) by omega, rdi _ i (by omega), sw_get ho (by omega)] at e3
      have hm : ((i : Int) + 1) ∈ o := Classical.byContradiction fun hn => by
        rw [(keep_free ho (by omega)).2 hn] at e3
        cases e3
      have hl2 := ho.2 _ hm
      rw [ldTo_eq, h5, if_pos ⟨h4, hl2.1, hl2.2.1, hl2.2.2⟩] at hld
      cases hld
theorem sw_words {H : List S37} {o : List Int} (ho : InH H o) {x : Int} (hx : x ∈ o) : wordsOf (sweptH H o) x = wordsOf H x := by unfold wordsOf; rw [(sw_rd ho hx).2]
theorem sw_sim {H : List S37} {o : List Int} (hw : WfH H) (ho : InH H o) (hc : ∀ x, x ∈ o → ∀ y, y ∈ leadsL H (wordsOf H x) → y ∈ o) : Sim H (sweptH H o) id (· ∈ o) where
  inj := fun x y _ _ h => h
  wf1 := fun x hx => wordsOf_wf hw (ho.2 x hx)
  wf2 := fun x hx => by rw [id, sw_words ho hx]; exact wordsOf_wf hw (ho.2 x hx)
  step := fun x hx => by
    refine ⟨?_, hc x hx⟩
    rw [id, sw_words ho hx]
    have := leads_map (H1 := H) (H2 := sweptH H o) (f := id) (g := id) (wordsOf H x) (fun v hv => by rw [id, sw_ld ho (fun y hy => hc x hx y (leads_mem hv hy))]; simp)
    rwa [List.map_id] at this
theorem sw_inH {H : List S37} {o : List Int} (ho : InH H o) : InH (sweptH H o) o := ⟨ho.1, fun x hx => ⟨(ho.2 x hx).1, (sw_rd ho hx).1, by rw [(sw_rd ho hx).2]; exact (ho.2 x hx).2.2⟩⟩
theorem trim_trim (L : List S37) : trim (trim L) = trim L := by
  have h := trim_take (L := trim L) (m := (trim L).length) (Nat.le_refl _) (fun hp => trim_last L hp) (fun i hi hm => by omega)
  rw [h, List.take_length]
theorem sw_again {H : List S37} {o : List Int} (ho : InH H o) : sweptH (sweptH H o) o = sweptH H o := by
  have e : swept (sweptH H o) o = sweptH H o := by
    refine List.ext_getElem (by rw [swept_len]) fun i h1 h2 => ?_
    rw [swept_get, sw_get ho h2]
    unfold keepAt
    by_cases hm : ((i : Int) + 1) ∈ o
    · rw [if_pos hm, if_pos hm]
      have := (sw_rd ho hm).2
      rw [show ((i : Int) + 1 - 1) = (i : Int) by omega] at this
      exact this
    · rw [if_neg hm, if_neg hm]
  show trim (swept (sweptH H o) o) = _
  rw [e]
  exact trim_trim _
theorem nf_trim (L : List S37) : nf (trim L) = nf L := by
  obtain ⟨t, ht, hf⟩ := trim_prefix L
  conv => rhs; rw [ht]
  rw [nf_app]
  have : nf t = 0 := by
    unfold nf
    rw [List.countP_eq_zero]
    intro x hx
    simp [hf x hx]
  omega
theorem sw_nf {H : List S37} {o : List Int} (ho : InH H o) : nf (sweptH H o) = o.length := by
  unfold sweptH
  rw [nf_trim, nf_swept ho]
theorem wsum_swept {H : List S37} {o : List Int} : wsum (swept H o) ≤ wsum H := by
  have key : ∀ i, i ≤ H.length → wsum ((swept H o).take i) ≤ wsum (H.take i) := by
    intro i
    induction i with
    | zero => intro _; simp [wsum]
    | succ i ih =>
      intro hi
      have h1 := ih (by omega)
      rw [wsum_succ (swept H o) i (by rw [swept_len]; omega), wsum_succ H i (by omega), swept_get]
      unfold keepAt
      split
      · rw [rdi H i (by omega)]; omega
      · simp only [z37, List.length_nil]; omega
  have := key H.length (Nat.le_refl _)
  rw [List.take_of_length_le (by rw [swept_len]; omega), List.take_of_length_le (Nat.le_refl _)] at this
  exact this
theorem sw_light {H : List S37} {o : List Int} (h : Light H) (ho : InH H o) : Light (sweptH H o) := by
  have hl := sw_len ho
  refine ⟨by have := h.len; omega, ?_⟩
  have h1 := wsum_trim (swept H o)
  have h2 := wsum_swept (H := H) (o := o)
  have := h.sum
  unfold sweptH
  omega
theorem sw_chk {H : List S37} {o : List Int} (h : Light H) (hc : chk H = 0) (ho : InH H o) : chk (sweptH H o) = 0 := by
  have hL := sw_light h ho
  refine chk_of (by have := hL.len; omega) (by have := hL.sum; omega) (fun hp => trim_last _ hp) (any_of' fun x hx => ?_)
  have h1 := mem_trim hx
  simp only [swept, List.mem_map, List.mem_range] at h1
  obtain ⟨i, hi, rfl⟩ := h1
  unfold keepAt
  split
  · rw [rdi H i hi]
    exact any_mem (chk_zero hc).2.2.2 (List.getElem_mem _)
  · exact z37_odd
theorem sw_wf {H : List S37} {o : List Int} (hw : WfH H) (ho : InH H o) : WfH (sweptH H o) := fun x hx => by
  rcases swept_mem ho hx with h | h
  · have : x.f1 = [] := List.eq_nil_of_length_eq_zero h
    intro v hv
    rw [this] at hv
    cases hv
  · exact hw x h
theorem sw_anew {H : List S37} {o : List Int} (ho : InH H o) {v : S41} (h : ∀ y, ldTo H v = some y → y ∈ o) : anewV (sweptH H o) o v = anewV H o v := by
  unfold anewV newN
  rw [sw_ld ho h]
theorem sw_canon {H : List S37} {o : List Int} (ho : InH H o) (hc : ∀ x, x ∈ o → ∀ y, y ∈ leadsL H (wordsOf H x) → y ∈ o) : canonH (sweptH H o) o = canonH H o := by
  unfold canonH
  refine List.map_congr_left fun x hx => ?_
  unfold objOf
  rw [(sw_rd ho hx).2, sw_words ho hx]
  congr 1
  exact List.map_congr_left fun v hv => sw_anew ho (fun y hy => hc x hx y (leads_mem hv hy))
theorem Light.good' {l : List S37} (h : Light l) : Good l := ⟨by have := h.len; omega, fun x hx => by have := h.each hx; omega⟩
theorem sw_order {H : List S37} {vs : List S41} (hw : WfH H) (hv : WfV vs) : trO (sweptH H (trO H vs)) vs = trO H vs := by
  obtain ⟨hin, hr, hcl⟩ := trO_post hw hv
  have hvr : VRel H (sweptH H (trO H vs)) id (· ∈ trO H vs) vs vs := by
    refine ⟨?_, hr⟩
    have := leads_map (H1 := H) (H2 := sweptH H (trO H vs)) (f := id) (g := id) vs (fun v hm => by rw [id, sw_ld hin (fun y hy => hr y (leads_mem hm hy))]; simp)
    rwa [List.map_id] at this
  have h := (trO_sim (sw_sim hw hin hcl) hv hv hvr).1
  rwa [List.map_id] at h
end Go.Proofs.Ytonkfcfpfpaceaa.Q
