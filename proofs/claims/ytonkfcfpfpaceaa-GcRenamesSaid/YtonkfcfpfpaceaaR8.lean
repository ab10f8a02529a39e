/- gc, plain: two heaps that lead alike are reached alike; canons. -/
import Derived.Test.YtonkfcfpfpaceaaR5
namespace Go.Proofs.Ytonkfcfpfpaceaa.Q
open Go.RowKit Go.Proofs.YtonkfcfpfpaceaaW.PrintWords Go.Proofs.YtonkfcfpfpaceaaW.PrintMore Go.Proofs.Ytonkfcfpfpaceaa.A.P
set_option linter.unusedVariables false
set_option linter.unusedSimpArgs false
/-- Values that lead alike. -/
def VRel (H1 H2 : List S37) (f : Int → Int) (P : Int → Prop) (v1 v2 : List S41) : Prop := leadsL H2 v2 = (leadsL H1 v1).map f ∧ ∀ y, y ∈ leadsL H1 v1 → P y
structure Sim (H1 H2 : List S37) (f : Int → Int) (P : Int → Prop) : Prop where
  inj : ∀ x y, P x → P y → f x = f y → x = y
  wf1 : ∀ x, P x → WfV (wordsOf H1 x)
  wf2 : ∀ x, P x → WfV (wordsOf H2 (f x))
  step : ∀ x, P x → VRel H1 H2 f P (wordsOf H1 x) (wordsOf H2 (f x))
theorem addAll_map {f : Int → Int} {P : Int → Prop} (hi : ∀ x y, P x → P y → f x = f y → x = y) : ∀ (xs o : List Int), (∀ x, x ∈ o → P x) → (∀ x, x ∈ xs → P x) → addAll (o.map f) (xs.map f) = (addAll o xs).map f ∧ ∀ x, x ∈ addAll o xs → P x
  | [], o, h1, _ => ⟨rfl, h1⟩
  | x :: xs, o, h1, h2 => by
    have hx := h2 x (by simp)
    have e : addOne (o.map f) (f x) = (addOne o x).map f := by
      unfold addOne
      by_cases hm : x ∈ o
      · rw [if_pos hm, if_pos (List.mem_map.2 ⟨x, hm, rfl⟩)]
      · rw [if_neg hm, if_neg (fun h => by
          obtain ⟨y, hy, he⟩ := List.mem_map.1 h
          exact hm (hi y x (h1 y hy) hx he ▸ hy)), List.map_append]
        rfl
    have hp : ∀ y, y ∈ addOne o x → P y := fun y hy => by
      unfold addOne at hy
      split at hy
      · exact h1 y hy
      · rcases List.mem_append.1 hy with hy | hy
        · exact h1 y hy
        · rw [List.mem_singleton.1 hy]; exact hx
    have h := addAll_map hi xs (addOne o x) hp (fun y hy => h2 y (by simp [hy]))
    rw [show addAll (o.map f) ((x :: xs).map f) = addAll (addOne (o.map f) (f x)) (xs.map f) from rfl, show addAll o (x :: xs) = addAll (addOne o x) xs from rfl, e]
    exact h
theorem reachF_sim {H1 H2 : List S37} {f : Int → Int} {P : Int → Prop} (hs : Sim H1 H2 f P) : ∀ (k : Nat) (o : List Int) (i : Nat) (p : List Int), (∀ x, x ∈ o → P x) → reachF k H1 o i = some p → reachF k H2 (o.map f) i = some (p.map f) ∧ ∀ x, x ∈ p → P x
  | 0, o, i, p, _, h => by cases h
  | k + 1, o, i, p, hP, h => by
    simp only [reachF] at h ⊢
    rw [List.length_map]
    by_cases hlt : i < o.length
    · rw [if_pos hlt] at h ⊢
      have hx := hP _ (List.getElem_mem hlt)
      rw [rd_nat o i hlt] at h
      rw [rd_nat (o.map f) i (by simpa using hlt), List.getElem_map]
      change reachF k H1 (addL H1 o (wordsOf H1 o[i])) (i + 1) = some p at h
      show reachF k H2 (addL H2 (o.map f) (wordsOf H2 (f o[i]))) (i + 1) = _ ∧ _
      obtain ⟨e1, e2⟩ := hs.step _ hx
      rw [addL_eq (hs.wf1 _ hx)] at h
      rw [addL_eq (hs.wf2 _ hx), e1]
      obtain ⟨g1, g2⟩ := addAll_map hs.inj (leadsL H1 (wordsOf H1 o[i])) o hP e2
      rw [g1]
      exact reachF_sim hs k _ (i + 1) p g2 h
    · rw [if_neg hlt] at h ⊢
      cases h
      exact ⟨rfl, hP⟩
theorem reachF_mono {H : List S37} : ∀ (k : Nat) (o : List Int) (i : Nat) (p : List Int), reachF k H o i = some p → ∀ j, reachF (k + j) H o i = some p
  | 0, o, i, p, h, j => by cases h
  | k + 1, o, i, p, h, j => by
    rw [show k + 1 + j = (k + j) + 1 by omega]
    simp only [reachF] at h ⊢
    split at h
    · rename_i hl
      rw [if_pos hl]
      exact reachF_mono k _ _ p h j
    · rename_i hl
      rw [if_neg hl]
      exact h
theorem reachF_one {H : List S37} {k1 k2 : Nat} {o p q : List Int} {i : Nat} (h1 : reachF k1 H o i = some p) (h2 : reachF k2 H o i = some q) : p = q := by
  have g1 := reachF_mono k1 o i p h1 k2
  have g2 := reachF_mono k2 o i q h2 k1
  rw [Nat.add_comm] at g2
  exact Option.some.inj (g1.symm.trans g2)
theorem trO_sim {H1 H2 : List S37} {f : Int → Int} {P : Int → Prop} (hs : Sim H1 H2 f P) {v1 v2 : List S41} (w1 : WfV v1) (w2 : WfV v2) (hv : VRel H1 H2 f P v1 v2) : trO H2 v2 = (trO H1 v1).map f ∧ ∀ x, x ∈ trO H1 v1 → P x := by
  have h1 := traceO_eq H1 v1
  have h2 := traceO_eq H2 v2
  unfold traceO at h1 h2
  obtain ⟨e1, e2⟩ := hv
  rw [addL_eq w1] at h1
  rw [addL_eq w2, e1] at h2
  obtain ⟨g1, g2⟩ := addAll_map hs.inj (leadsL H1 v1) [] (fun _ h => by cases h) e2
  rw [List.map_nil] at g1
  rw [g1] at h2
  obtain ⟨k1, k2⟩ := reachF_sim hs _ _ 0 _ g2 h1
  exact ⟨reachF_one h2 k1, k2⟩
theorem leads_map {H1 H2 : List S37} {f : Int → Int} {g : S41 → S41} : ∀ (vs : List S41), (∀ v, v ∈ vs → ldTo H2 (g v) = (ldTo H1 v).map f) → leadsL H2 (vs.map g) = (leadsL H1 vs).map f
  | [], _ => rfl
  | v :: vs, h => by
    have ih := leads_map vs (fun u hu => h u (by simp [hu]))
    have hv := h v (by simp)
    rw [List.map_cons]
    cases hl : ldTo H1 v with
    | none => rw [hl] at hv; rw [leads_none hl, leads_none hv, ih]
    | some y => rw [hl] at hv; rw [leads_some hl, leads_some hv, ih]; rfl
theorem leads_mem {H : List S37} {vs : List S41} {v : S41} {y : Int} (hv : v ∈ vs) (h : ldTo H v = some y) : y ∈ leadsL H vs := List.mem_filterMap.2 ⟨v, hv, h⟩
theorem place_bounds {o : List Int} {x : Int} (h : x ∈ o) : 1 ≤ placeOf o x ∧ placeOf o x ≤ o.length := by
  unfold placeOf
  rw [if_pos h]
  have := List.idxOf_lt_length_of_mem h
  omega
theorem place_inj {o : List Int} {x y : Int} (hx : x ∈ o) (hy : y ∈ o) (h : placeOf o x = placeOf o y) : x = y := by
  unfold placeOf at h
  rw [if_pos hx, if_pos hy] at h
  have hx1 := List.idxOf_lt_length_of_mem hx
  have hy1 := List.idxOf_lt_length_of_mem hy
  have e : o.idxOf x = o.idxOf y := by omega
  have g1 := List.getElem_idxOf hx1
  have g2 := List.getElem_idxOf hy1
  rw [← g1, ← g2]
  congr 1
theorem place_get {o : List Int} {x : Int} (h : x ∈ o) : ∃ (i : Nat) (hi : i < o.length), placeOf o x = (i : Int) + 1 ∧ o[i] = x := by
  have h1 := List.idxOf_lt_length_of_mem h
  refine ⟨o.idxOf x, h1, ?_, List.getElem_idxOf h1⟩
  unfold placeOf
  rw [if_pos h]
theorem z1_z1 (v : S41) : z1 (z1 v) = z1 v := by
  unfold z1
  by_cases h : v.f0 = 4
  · rw [if_pos h]; simp [h]
  · rw [if_neg h, if_neg h]
theorem ld_z1 (H : List S37) {v : S41} : ldTo H (z1 v) = if v.f0 = 4 then none else none := by
  unfold z1
  by_cases h : v.f0 = 4
  · rw [if_pos h, if_pos h]
    unfold ldTo
    rw [if_neg (fun g => by have := g.2.1; simp only at this; omega)]
  · rw [if_neg h, if_neg h]
    unfold ldTo
    rw [if_neg (fun g => h g.1)]
theorem ld_z1' (H : List S37) (v : S41) : ldTo H (z1 v) = none := by rw [ld_z1]; split <;> rfl
theorem wf_z1 {v : S41} (h : (Lit.int .i64 v.f1).wf = true) : (Lit.int .i64 (z1 v).f1).wf = true := by
  unfold z1
  split
  · exact (by decide : (Lit.int .i64 0).wf = true)
  · exact h
theorem wf_small {n : Int} (h0 : 0 ≤ n) (h1 : n ≤ 9000000000) : (Lit.int .i64 n).wf = true := by
  simp only [Lit.wf, Bool.and_eq_true, decide_eq_true_eq]
  have e1 : IntKind.i64.min = -9223372036854775808 := rfl
  have e2 : IntKind.i64.max = 9223372036854775807 := rfl
  omega
theorem wf_anew {H : List S37} {o : List Int} (ho : o.length ≤ 9000000) {v : S41} (hv : (Lit.int .i64 v.f1).wf = true) : (Lit.int .i64 (anewV H o v).f1).wf = true := by
  cases h : ldTo H v with
  | none => rw [anewV_none h]; exact wf_z1 hv
  | some y =>
    rw [anewV_some h]
    refine wf_small ?_ ?_
    · unfold placeOf; split <;> (simp only; omega)
    · unfold placeOf
      split
      · rename_i hm
        have := List.idxOf_lt_length_of_mem hm
        simp only
        omega
      · simp only; omega
theorem wfV_anew {H : List S37} {o : List Int} (ho : o.length ≤ 9000000) {vs : List S41} (hv : WfV vs) : WfV (vs.map (anewV H o)) := fun u hu => by
  obtain ⟨v, hm, rfl⟩ := List.mem_map.1 hu
  exact wf_anew ho (hv v hm)
end Go.Proofs.Ytonkfcfpfpaceaa.Q
