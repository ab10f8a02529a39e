/- heap, plain: the laws HeapChanges and HeapSets, as functions. -/
import Derived.Test.YticpjpacoeecmaaQ2
import Derived.Test.YticpjpacoeecmaaAx12
import Derived.Test.YticpjpacoeecmaaAx13
namespace Go.Proofs.Yticpjpacoeecmaa.Q
open Go.RowKit Go.Proofs.YticpjpacoeecmaaW.PrintWords Go.Proofs.Yticpjpacoeecmaa.A.P
set_option linter.unusedVariables false
set_option linter.unusedSimpArgs false
theorem works_10 : larchlaw15_works.f 10 = some true := by decide +kernel
theorem works_f {k : Nat} (hk : 10 ≤ k) : larchlaw15_works.f k = some true := by
  obtain ⟨m, rfl⟩ : ∃ m, k = 10 + m := ⟨k - 10, by omega⟩
  clear hk
  induction m with
  | zero => exact works_10
  | succ m ih => exact larchlaw15_works.mono _ _ ih
/-- What is small enough to be compared. -/
structure Small (l : List S40) : Prop where
  len : l.length ≤ 70000
  each : ∀ x ∈ l, x.f1.length ≤ 70000
theorem Small.so {l : List S40} (h : Small l) {k : Nat} (hk : 140000 < k) : larchbase_SameObjects.f k l l = some true := so_f l h.len h.each (by omega) (by omega)
theorem small_of {l : List S40} (h1 : l.length ≤ 5000) (h2 : wsum l ≤ 70000) : Small l := ⟨by omega, fun x hx => by have := wsum_mem hx; omega⟩
theorem Small.nil : Small [] := ⟨by simp, by simp⟩
theorem Small.one {x : S40} (h : x.f1.length ≤ 70000) : Small [x] := ⟨by simp, fun y hy => by rw [List.mem_singleton.1 hy]; exact h⟩
theorem Small.set {l : List S40} (h : Small l) (i : Nat) {x : S40} (hx : x.f1.length ≤ 70000) : Small (l.set i x) := ⟨by simpa using h.len, fun y hy => by
  rcases List.mem_or_eq_of_mem_set hy with h1 | h1
  · exact h.each y h1
  · rw [h1]; exact hx⟩
theorem mem_trim {l : List S40} {x : S40} (h : x ∈ trim l) : x ∈ l := by
  unfold trim at h
  rw [List.mem_reverse] at h
  exact List.mem_reverse.1 ((List.dropWhile_suffix _).subset h)
theorem trim_len (l : List S40) : (trim l).length ≤ l.length := by
  unfold trim
  rw [List.length_reverse]
  have := (List.dropWhile_suffix (l := l.reverse) isFree).length_le
  simpa using this
theorem Small.trim {l : List S40} (h : Small l) : Small (trim l) := ⟨by have := trim_len l; have := h.len; omega, fun x hx => h.each x (mem_trim hx)⟩
theorem rd_small {l : List S40} (h : Small l) (i : Int) : (rd_T40 l i).f1.length ≤ 70000 := by
  unfold rd_T40
  rcases Nat.lt_or_ge i.toNat l.length with h1 | h1
  · rw [List.getD_eq_getElem?_getD, List.getElem?_eq_getElem h1]
    exact h.each _ (List.getElem_mem _)
  · rw [List.getD_eq_getElem?_getD, List.getElem?_eq_none h1]
    simp [z40]
theorem setS_small {l : List S40} (h : Small l) (n j v0 v1 : Int) : Small (setS l n j v0 v1).1 := by
  unfold setS
  split
  · exact h.set _ (by simpa using rd_small h (n - 1))
  · exact Small.nil
theorem freeS_small {l : List S40} (h : Small l) (n : Int) : Small (freeS l n).1 := by
  unfold freeS
  split
  · exact (h.set _ (by simp [z40])).trim
  · exact Small.nil
theorem HeapChanges_f {l : List S40} (hg : Good l) {n j v0 v1 : Int} (hn : I64 n) {k : Nat} (hk : 200000 + l.length < k) : larchlaw15_HeapChanges.f k l n j v0 v1 = some true := by
  unfold larchlaw15_HeapChanges.f
  rw [light_f hg (by omega)]
  simp only [Option.bind_some]
  by_cases h : l.length ≤ 5000 ∧ wsum l ≤ 70000
  · have hs := small_of h.1 h.2
    rw [if_pos (decide_eq_true h), copy_f hg (by omega)]
    simp only [Option.bind_some]
    rw [set_f hg hn]
    simp only [Option.bind_some]
    rw [rset_f hg hn (by omega)]
    simp only [Option.bind_some]
    rw [free_f hg hn (by omega)]
    simp only [Option.bind_some]
    rw [rfree_f hg hn (by omega)]
    simp only [Option.bind_some]
    rw [(setS_small hs n j v0 v1).so (by omega)]
    simp only [Option.bind_some, if_true]
    rw [(freeS_small hs n).so (by omega)]
    simp only [Option.bind_some, if_true]
    rw [hs.so (by omega)]
    simp only [Option.bind_some, if_true]
    rw [works_f (by omega)]
    rfl
  · rw [if_neg (by simpa using h)]
/-- A word is set, and no other thing is changed: what is set is again a right heap. -/
theorem wsum_set {l : List S40} {i : Nat} {x : S40} (hi : i < l.length) (hx : x.f1.length = l[i].f1.length) : wsum (l.set i x) = wsum l := by
  have hl : l = l.take i ++ (l[i] :: l.drop (i + 1)) := by rw [← List.drop_eq_getElem_cons hi, List.take_append_drop]
  have key : wsum l = wsum (l.take i) + (l[i].f1.length + wsum (l.drop (i + 1))) := by
    have e := congrArg wsum hl
    rw [wsum_append] at e
    rw [e]; simp only [wsum, List.map_cons, List.sum_cons]
  rw [List.set_eq_take_append_cons_drop, if_pos hi, key, wsum_append]
  simp only [wsum, List.map_cons, List.sum_cons, hx]
theorem setw_good {l : List S40} (hg : Good l) {i : Nat} (hi : i < l.length) {ws : List S24} (hw : ws.length = l[i].f1.length) : Good (l.set i ⟨l[i].f0, ws⟩) := ⟨by simpa using hg.len, fun y hy => by
  rcases List.mem_or_eq_of_mem_set hy with h1 | h1
  · exact hg.each y h1
  · rw [h1]; simp only; rw [hw]; exact hg.each _ (List.getElem_mem _)⟩
theorem any_set {l : List S40} {i : Nat} (hi : i < l.length) {ws : List S24} (hw : ws.length = l[i].f1.length) : (l.set i ⟨l[i].f0, ws⟩).any isOdd = l.any isOdd := by
  have hl : l = l.take i ++ (l[i] :: l.drop (i + 1)) := by rw [← List.drop_eq_getElem_cons hi, List.take_append_drop]
  have ho : isOdd ⟨l[i].f0, ws⟩ = isOdd l[i] := by unfold isOdd isFree; simp only [hw]
  have key : l.any isOdd = ((l.take i).any isOdd || (isOdd l[i] || (l.drop (i + 1)).any isOdd)) := by
    have e := congrArg (fun z => z.any isOdd) hl
    simp only [List.any_append, List.any_cons] at e
    exact e
  rw [List.set_eq_take_append_cons_drop, if_pos hi, key, List.any_append, List.any_cons, ho]
theorem last_set {l : List S40} {i : Nat} (hi : i < l.length) {ws : List S24} : isFree (rd_T40 (l.set i ⟨l[i].f0, ws⟩) ((l.length : Int) - 1)) = isFree (rd_T40 l ((l.length : Int) - 1)) := by
  obtain ⟨m, hm⟩ : ∃ m : Nat, l.length = m + 1 := ⟨l.length - 1, by omega⟩
  rw [show ((l.length : Int) - 1) = (m : Nat) by omega, rdi _ _ (by simp; omega), rdi _ _ (by omega)]
  by_cases h : i = m
  · subst h; simp [isFree]
  · rw [List.getElem_set_ne h]
theorem chk_set {l : List S40} {i : Nat} (hi : i < l.length) {ws : List S24} (hw : ws.length = l[i].f1.length) : chk (l.set i ⟨l[i].f0, ws⟩) = chk l := by
  unfold chk bad
  rw [any_set hi hw, wsum_set hi hw, List.length_set, last_set hi]
theorem HeapSets_f {l : List S40} (hg : Good l) {n j v : Int} (hn : I64 n) {k : Nat} (hk : 200000 + l.length < k) : larchlaw15_HeapSets.f k l n j v = some true := by
  obtain ⟨k, rfl⟩ : ∃ m, k = m + 1 := ⟨k - 1, by omega⟩
  have hj : ∀ b, b = true → larchlaw15_HeapSets.j0 (k + 1) l n j v b = some true := by
    rintro b rfl
    simp only [larchlaw15_HeapSets.j0, if_true]
  unfold larchlaw15_HeapSets.f
  rw [works_f (by omega)]
  simp only [Option.bind_some, if_true]
  rw [light_f hg (by omega)]
  simp only [Option.bind_some]
  by_cases h : l.length ≤ 5000 ∧ wsum l ≤ 70000
  · rw [if_pos (decide_eq_true h)]
    by_cases h3 : (l.length : Int) > 300
    · exact hj _ (decide_eq_true h3)
    · rw [decide_eq_false h3]
      have hs := small_of h.1 h.2
      simp only [larchlaw15_HeapSets.j0]
      rw [if_neg (by decide), word_f hg hn]
      simp only [Option.bind_some]
      rw [set_f hg hn]
      simp only [Option.bind_some]
      by_cases h0 : (wordS l n j).2.2 = 0
      · rw [if_pos h0]
        obtain ⟨ht, hj0, hj1⟩ := word_ok h0
        obtain ⟨hc, hn1, hf⟩ := (there_iff l n).1 ht
        have hS : setS l n j (wordS l n j).1 v = (l.set (n - 1).toNat ⟨(rd_T40 l (n - 1)).f0, (rd_T40 l (n - 1)).f1.set j.toNat ⟨(wordS l n j).1, v⟩⟩, 0) := by
          unfold setS; rw [if_pos ⟨h0, rfl⟩]
        obtain ⟨i, hi⟩ : ∃ i : Nat, n = i + 1 := ⟨(n - 1).toNat, by omega⟩
        have hil : i < l.length := by omega
        have hrd : rd_T40 l (n - 1) = l[i] := by rw [hi, show ((i : Int) + 1 - 1) = i by omega, rdi l i hil]
        have hnat : (n - 1).toNat = i := by omega
        have hW : wordS l n j = ((rd_T24 l[i].f1 j).f0, (rd_T24 l[i].f1 j).f1, 0) := by
          unfold wordS; rw [if_pos ⟨ht, hj0, hj1⟩, hrd]
        rw [hrd] at hj1 hf
        have hW0 : (wordS l n j).1 = (rd_T24 l[i].f1 j).f0 := by rw [hW]
        have hW1 : (wordS l n j).2.1 = (rd_T24 l[i].f1 j).f1 := by rw [hW]
        rw [hS, hrd, hnat, hW0, hW1]
        simp only
        generalize hws : l[i].f1.set j.toNat ⟨(rd_T24 l[i].f1 j).f0, v⟩ = ws
        have hwl : ws.length = l[i].f1.length := by rw [← hws]; simp
        have hg2 := setw_good hg hil hwl
        have hrd2 : rd_T40 (l.set i ⟨l[i].f0, ws⟩) (n - 1) = ⟨l[i].f0, ws⟩ := by
          rw [hi, show ((i : Int) + 1 - 1) = i by omega, rdi _ i (by simpa using hil)]; simp
        have ht2 : there (l.set i ⟨l[i].f0, ws⟩) n = true := by
          rw [there_iff, chk_set hil hwl, hrd2]
          exact ⟨hc, by simpa using hn1, hf⟩
        have hgw : rd_T24 ws j = ⟨(rd_T24 l[i].f1 j).f0, v⟩ := by
          rw [← hws]
          unfold rd_T24
          rw [List.getD_eq_getElem?_getD, List.getElem?_set_self (by omega)]
          rfl
        have hW2 : wordS (l.set i ⟨l[i].f0, ws⟩) n j = ((rd_T24 l[i].f1 j).f0, v, 0) := by
          unfold wordS
          rw [if_pos ⟨ht2, hj0, by rw [hrd2]; simp only; omega⟩, hrd2]
          simp only [hgw]
        rw [word_f hg2 hn, hW2]
        simp only [Option.bind_some]
        rw [set_f hg2 hn]
        have hS2 : setS (l.set i ⟨l[i].f0, ws⟩) n j (rd_T24 l[i].f1 j).f0 (rd_T24 l[i].f1 j).f1 = (l, 0) := by
          unfold setS
          rw [hW2, if_pos ⟨rfl, rfl⟩, hrd2, hnat, List.set_set, ← hws]
          simp only [List.set_set]
          have e1 : l[i].f1.set j.toNat ⟨(rd_T24 l[i].f1 j).f0, (rd_T24 l[i].f1 j).f1⟩ = l[i].f1 := by
            have hjl : j.toNat < l[i].f1.length := by omega
            have : rd_T24 l[i].f1 j = l[i].f1[j.toNat] := by unfold rd_T24; rw [List.getD_eq_getElem?_getD, List.getElem?_eq_getElem hjl]; rfl
            rw [this]
            exact List.set_getElem_self hjl
          rw [e1]
          have e2 : l.set i ⟨l[i].f0, l[i].f1⟩ = l := List.set_getElem_self hil
          rw [e2]
        rw [hS2]
        simp only [Option.bind_some, if_true, beq_self_eq_true, Bool.and_self]
        rw [hs.so (by omega)]
        rfl
      · rw [if_neg h0]
        have : setS l n j (wordS l n j).1 v = ([], 150) := by unfold setS; rw [if_neg (fun h => h0 h.1)]
        rw [this]
        rfl
  · rw [if_neg (by simpa using h)]
    exact hj _ rfl
end Go.Proofs.Yticpjpacoeecmaa.Q
