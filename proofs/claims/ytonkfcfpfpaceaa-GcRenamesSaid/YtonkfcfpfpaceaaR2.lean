/- gc, plain: what values lead to, and what is reached. -/
import Derived.Test.YtonkfcfpfpaceaaQ1
import Derived.Test.YtonkfcfpfpaceaaG9
import Derived.Test.YtonkfcfpfpaceaaMA4
namespace Go.Proofs.Ytonkfcfpfpaceaa.Q
open Go.RowKit Go.Proofs.YtonkfcfpfpaceaaW.PrintWords Go.Proofs.Ytonkfcfpfpaceaa.A.P
set_option linter.unusedVariables false
set_option linter.unusedSimpArgs false
def WfV (vs : List S41) : Prop := ∀ v, v ∈ vs → (Lit.int .i64 v.f1).wf = true
def WfH (H : List S37) : Prop := ∀ x, x ∈ H → WfV x.f1
def leadsL (H : List S37) (vs : List S41) : List Int := vs.filterMap (ldTo H)
theorem rd41i {vs : List S41} {j : Nat} (h : j < vs.length) : rd_T41 vs (j : Int) = vs[j] := rd41_get h
theorem lds_take {H : List S37} {vs : List S41} (hw : WfV vs) : ∀ k, k ≤ vs.length → lds (ldUp H vs k) = (vs.take k).filterMap (ldTo H)
  | 0, _ => by simp [lds, ldUp]
  | k + 1, hk => by
    have hlt : k < vs.length := by omega
    have ih := lds_take (H := H) hw k (by omega)
    rw [ldUp_succ, List.take_succ_eq_append_getElem hlt, List.filterMap_append, ← ih]
    have e : lds (ldUp H vs k ++ (ldAt H vs k).toList) = lds (ldUp H vs k) ++ lds (ldAt H vs k).toList := by simp [lds]
    rw [e]
    congr 1
    unfold ldAt
    rw [rd41i hlt]
    cases hl : ldTo H vs[k] with
    | none => simp [lds, hl]
    | some n =>
      have hv : vs[k].f1 = n := (ldTo_live hl).2.2
      have hwn : (Lit.int .i64 n).wf = true := by rw [← hv]; exact hw _ (List.getElem_mem _)
      simp [lds, hl, hwn, hlt]
theorem lds_eq {H : List S37} {vs : List S41} (hw : WfV vs) : lds (ldUp H vs vs.length) = leadsL H vs := by
  rw [lds_take hw _ (Nat.le_refl _), List.take_length]
  rfl
theorem addL_eq {H : List S37} {o : List Int} {vs : List S41} (hw : WfV vs) : addL H o vs = addAll o (leadsL H vs) := by unfold addL; rw [lds_eq hw]
theorem addAll_mem {o : List Int} : ∀ (xs : List Int) (y : Int), y ∈ addAll o xs ↔ y ∈ o ∨ y ∈ xs := by
  intro xs
  induction xs generalizing o with
  | nil => intro y; simp [addAll]
  | cons x t ih =>
    intro y
    have h := ih (o := addOne o x) y
    have e : addAll o (x :: t) = addAll (addOne o x) t := rfl
    rw [e, h]
    unfold addOne
    split
    · rename_i hx
      constructor
      · rintro (h1 | h1)
        · exact .inl h1
        · exact .inr (List.mem_cons_of_mem _ h1)
      · rintro (h1 | h1)
        · exact .inl h1
        · rcases List.mem_cons.1 h1 with rfl | h1
          · exact .inl hx
          · exact .inr h1
    · simp only [List.mem_append, List.mem_cons, List.not_mem_nil, or_false]
      constructor
      · rintro ((h1 | h1) | h1)
        · exact .inl h1
        · exact .inr (.inl h1)
        · exact .inr (.inr h1)
      · rintro (h1 | h1 | h1)
        · exact .inl (.inl h1)
        · exact .inl (.inr h1)
        · exact .inr h1
theorem addAll_app {o : List Int} : ∀ (xs : List Int), ∃ t, addAll o xs = o ++ t := by
  intro xs
  induction xs generalizing o with
  | nil => exact ⟨[], by simp [addAll]⟩
  | cons x t ih =>
    obtain ⟨u, hu⟩ := ih (o := addOne o x)
    have e : addAll o (x :: t) = addAll (addOne o x) t := rfl
    rw [e, hu]
    unfold addOne
    split
    · exact ⟨u, rfl⟩
    · exact ⟨[x] ++ u, by simp⟩
/-- The words of a number's object. -/
def wordsOf (H : List S37) (x : Int) : List S41 := (rd_T37 H (x - 1)).f1
theorem wordsOf_wf {H : List S37} (hw : WfH H) {x : Int} (h : Live H x) : WfV (wordsOf H x) := hw _ (rd_mem h.1 h.2.1)
theorem rd_nat (o : List Int) (i : Nat) (h : i < o.length) : rd o (i : Int) = o[i] := by
  simp [rd, List.getD_eq_getElem?_getD, List.getElem?_eq_getElem h]
theorem reachF_some {H : List S37} : ∀ (k : Nat) (o : List Int) (i : Nat), InH H o → i ≤ o.length → H.length < k + i → ∃ p, reachF k H o i = some p
  | 0, o, i, hi, hl, hk => by have := hi.len; omega
  | k + 1, o, i, hi, hl, hk => by
    simp only [reachF]
    by_cases h : i < o.length
    · rw [if_pos h]
      have h2 := addL_inH hi (rd_T37 H (rd o i - 1)).f1
      refine reachF_some k _ (i + 1) h2 ?_ (by omega)
      obtain ⟨t, ht⟩ := addAll_app (o := o) (lds (ldUp H (rd_T37 H (rd o i - 1)).f1 (rd_T37 H (rd o i - 1)).f1.length))
      unfold addL
      rw [ht, List.length_append]
      omega
    · rw [if_neg h]
      exact ⟨o, rfl⟩
theorem inH_nil (H : List S37) : InH H [] := ⟨List.nodup_nil, fun _ h => by cases h⟩
theorem traceO_some (H : List S37) (vs : List S41) : ∃ p, traceO H vs = some p := reachF_some _ _ _ (addL_inH (inH_nil H) vs) (Nat.zero_le _) (by omega)
def trO (H : List S37) (vs : List S41) : List Int := (traceO H vs).getD []
theorem traceO_eq (H : List S37) (vs : List S41) : traceO H vs = some (trO H vs) := by
  obtain ⟨p, hp⟩ := traceO_some H vs
  simp [trO, hp]
/-- What the walk ends with: all it holds, and what its objects lead to. -/
theorem reachF_post {H : List S37} (hw : WfH H) : ∀ (k : Nat) (o : List Int) (i : Nat) (p : List Int), InH H o → i ≤ o.length → (∀ j (hj : j < o.length), j < i → ∀ y, y ∈ leadsL H (wordsOf H o[j]) → y ∈ o) → reachF k H o i = some p →
    InH H p ∧ (∃ t, p = o ++ t) ∧ ∀ x, x ∈ p → ∀ y, y ∈ leadsL H (wordsOf H x) → y ∈ p
  | 0, o, i, p, hi, hl, hc, h => by cases h
  | k + 1, o, i, p, hi, hl, hc, h => by
    simp only [reachF] at h
    by_cases hlt : i < o.length
    · rw [if_pos hlt, rd_nat o i hlt] at h
      have hlv := hi.2 _ (List.getElem_mem hlt)
      change reachF k H (addL H o (wordsOf H o[i])) (i + 1) = some p at h
      rw [addL_eq (wordsOf_wf hw hlv)] at h
      have h2 : InH H (addAll o (leadsL H (wordsOf H o[i]))) := by rw [← addL_eq (wordsOf_wf hw hlv)]; exact addL_inH hi _
      obtain ⟨t, ht⟩ := addAll_app (o := o) (leadsL H (wordsOf H o[i]))
      have hmem := addAll_mem (o := o) (leadsL H (wordsOf H o[i]))
      obtain ⟨g1, ⟨u, g2⟩, g3⟩ := reachF_post hw k _ (i + 1) p h2 (by rw [ht, List.length_append]; omega) (fun j hj hji y hy => by
        have hjo : j < o.length := by omega
        have e : (addAll o (leadsL H (wordsOf H o[i])))[j] = o[j] := by
          simp only [ht]
          exact List.getElem_append_left hjo
        rw [e] at hy
        rw [hmem]
        by_cases hje : j = i
        · subst hje
          exact .inr hy
        · exact .inl (hc j hjo (by omega) y hy)) h
      exact ⟨g1, ⟨t ++ u, by rw [g2, ht, List.append_assoc]⟩, g3⟩
    · rw [if_neg hlt] at h
      cases h
      refine ⟨hi, ⟨[], by simp⟩, fun x hx y hy => ?_⟩
      obtain ⟨j, hj, rfl⟩ := List.mem_iff_getElem.1 hx
      exact hc j hj (by omega) y hy
theorem trO_post {H : List S37} {vs : List S41} (hw : WfH H) (hv : WfV vs) : InH H (trO H vs) ∧ (∀ y, y ∈ leadsL H vs → y ∈ trO H vs) ∧ ∀ x, x ∈ trO H vs → ∀ y, y ∈ leadsL H (wordsOf H x) → y ∈ trO H vs := by
  have h := traceO_eq H vs
  unfold traceO at h
  obtain ⟨g1, ⟨t, g2⟩, g3⟩ := reachF_post hw _ _ 0 _ (addL_inH (inH_nil H) vs) (Nat.zero_le _) (fun j hj hji => by omega) h
  refine ⟨g1, fun y hy => ?_, g3⟩
  rw [g2]
  refine List.mem_append_left _ ?_
  rw [addL_eq hv, addAll_mem]
  exact .inr hy
/-! ### the reference -/
theorem ldTo_eq (H : List S37) (v : S41) : ldTo H v = if v.f0 = 4 ∧ 1 ≤ v.f1 ∧ v.f1 ≤ H.length ∧ isFree (rd_T37 H (v.f1 - 1)) = false then some v.f1 else none := by
  unfold ldTo
  by_cases h : isFree (rd_T37 H (v.f1 - 1)) = true
  · simp [h]
  · simp [h]
theorem wf_I64 {x : Int} (h : (Lit.int .i64 x).wf = true) : I64 x := by
  simp only [Lit.wf, Bool.and_eq_true, decide_eq_true_eq] at h
  exact h
theorem leads_none {H : List S37} {v : S41} {t : List S41} (h : ldTo H v = none) : leadsL H (v :: t) = leadsL H t := by simp [leadsL, h]
theorem leads_some {H : List S37} {v : S41} {t : List S41} {n : Int} (h : ldTo H v = some n) : leadsL H (v :: t) = n :: leadsL H t := by simp [leadsL, h]
theorem chk_small {H : List S37} (h : chk H = 0) : H.length ≤ 4096 ∧ ∀ x, x ∈ H → x.f1.length ≤ 65536 := by
  have := chk_zero h
  exact ⟨this.1, fun x hx => by have := wsum_mem hx; omega⟩
theorem okIn_of {H : List S37} (hg : H.length ≤ 100000000) (he : ∀ x, x ∈ H → x.f1.length ≤ 100000000) (hw : WfH H) {vs : List S41} (hv : WfV vs) (hvl : vs.length ≤ 1000000) : okIn H vs = true := by
  simp only [okIn, Bool.and_eq_true, decide_eq_true_eq]
  refine ⟨⟨⟨hg, List.all_eq_true.2 fun x hx => ?_⟩, by omega⟩, List.all_eq_true.2 fun v h => hv v h⟩
  simp only [okX, Bool.and_eq_true, decide_eq_true_eq]
  exact ⟨he x hx, List.all_eq_true.2 fun v h => hw x hx v h⟩
theorem reach_f {H : List S37} (hg : Good H) {vs : List S41} (hok : okIn H vs = true) : gc_Reach.f H vs = some (if chk H = 0 then (trO H vs, 0) else ([], chk H)) := by
  unfold gc_Reach.f
  rw [if_pos hok, check_f hg]
  simp only [Option.bind_some]
  by_cases hc : chk H = 0
  · rw [if_pos hc, if_pos hc, traceO_eq]
    rfl
  · rw [if_neg hc, if_neg hc]
end Go.Proofs.Ytonkfcfpfpaceaa.Q
