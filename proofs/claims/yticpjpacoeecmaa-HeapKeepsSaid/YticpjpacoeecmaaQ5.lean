/- heap, plain: what is put lies at the least free place; the law HeapFrees, as a function. -/
import Derived.Test.YticpjpacoeecmaaQ4
namespace Go.Proofs.Yticpjpacoeecmaa.Q
open Go.RowKit Go.Proofs.YticpjpacoeecmaaW.PrintWords Go.Proofs.Yticpjpacoeecmaa.A.P
set_option linter.unusedVariables false
set_option linter.unusedSimpArgs false
theorem least_le (l : List S40) : least l ≤ l.length := by
  unfold least
  cases h : l.findIdx? isFree with
  | none => simp
  | some i => have := (List.findIdx?_eq_some_iff_getElem.1 h).1; simp; omega
theorem least_le_of {l : List S40} {i : Nat} (hi : i < l.length) (hf : isFree l[i] = true) : least l ≤ i := by
  unfold least
  cases h : l.findIdx? isFree with
  | none => rw [List.findIdx?_eq_none_iff] at h; have := h _ (List.getElem_mem hi); rw [hf] at this; cases this
  | some j =>
    obtain ⟨h1, h2, h3⟩ := List.findIdx?_eq_some_iff_getElem.1 h
    simp only [Option.getD_some]
    rcases Nat.lt_or_ge i j with h4 | h4
    · exact absurd hf (by simpa using h3 i h4)
    · exact h4
/-- The list behind a put. -/
def putP (l : List S40) (x : S40) : List S40 := if least l < l.length then l.set (least l) x else l ++ [x]
theorem putS_ok {l : List S40} {a : ByteArray} {ws : List S24} (hc : chk l = 0) (hx : isFree ⟨a, ws⟩ = false) (hw : wsum l + ws.length ≤ 65536) (hl : least l < 4096) : putS l a ws = (putP l ⟨a, ws⟩, (least l : Int) + 1, 0) := by
  unfold putS putP
  rw [if_pos hc, if_neg (by rw [hx]; decide), if_neg (by omega)]
  unfold least at hl ⊢
  cases h : l.findIdx? isFree with
  | none =>
    rw [h] at hl
    simp only [Option.getD_none] at hl ⊢
    rw [if_neg (by omega), if_neg (by omega)]
  | some i =>
    have := (List.findIdx?_eq_some_iff_getElem.1 h).1
    simp only [Option.getD_some]
    rw [if_pos this]
theorem putP_len (l : List S40) (x : S40) : l.length ≤ (putP l x).length ∧ (putP l x).length ≤ l.length + 1 ∧ least l < (putP l x).length := by
  unfold putP
  have := least_le l
  split <;> simp <;> omega
theorem putP_mem {l : List S40} {x y : S40} (h : y ∈ putP l x) : y ∈ l ∨ y = x := by
  unfold putP at h
  split at h
  · exact List.mem_or_eq_of_mem_set h
  · simpa using h
theorem putP_at (l : List S40) (x : S40) : rd_T40 (putP l x) (least l) = x := by
  have h := putP_len l x
  rw [rdi _ _ h.2.2]
  unfold putP
  by_cases h1 : least l < l.length
  · simp [h1]
  · have : least l = l.length := by have := least_le l; omega
    simp [h1, this]
theorem putP_else (l : List S40) (x : S40) {i : Nat} (hi : i < l.length) (hne : i ≠ least l) : rd_T40 (putP l x) i = rd_T40 l i := by
  have h := putP_len l x
  rw [rdi _ _ (by omega), rdi _ _ hi]
  unfold putP
  by_cases h1 : least l < l.length
  · simp only [h1, if_true]; rw [List.getElem_set_ne (Ne.symm hne)]
  · simp only [h1, if_false]; rw [List.getElem_append_left hi]
theorem free_words {x : S40} (h : isFree x = true) (ho : isOdd x = false) : x.f1.length = 0 := by
  unfold isOdd at ho
  rw [if_pos h] at ho
  simp at ho
  simp [ho]
theorem wsum_split {l : List S40} {i : Nat} (hi : i < l.length) : wsum l = wsum (l.take i) + (l[i].f1.length + wsum (l.drop (i + 1))) := by
  have hl : l = l.take i ++ (l[i] :: l.drop (i + 1)) := by rw [← List.drop_eq_getElem_cons hi, List.take_append_drop]
  have e := congrArg wsum hl
  rw [wsum_append] at e
  rw [e]; simp only [wsum, List.map_cons, List.sum_cons]
theorem wsum_set2 {l : List S40} {i : Nat} (hi : i < l.length) (x : S40) : wsum (l.set i x) + l[i].f1.length = wsum l + x.f1.length := by
  rw [List.set_eq_take_append_cons_drop, if_pos hi, wsum_append, wsum_split hi]
  simp only [wsum, List.map_cons, List.sum_cons]
  omega
theorem any_mem {l : List S40} (h : l.any isOdd = false) {x : S40} (hx : x ∈ l) : isOdd x = false := by
  rw [List.any_eq_false] at h
  simpa using h x hx
theorem any_of' {l : List S40} (h : ∀ x ∈ l, isOdd x = false) : l.any isOdd = false := by
  rw [List.any_eq_false]
  intro x hx
  rw [h x hx]; decide
theorem least_free {l : List S40} (h1 : least l < l.length) : isFree (l[least l]'h1) = true := by
  obtain ⟨j, hj⟩ : ∃ j, l.findIdx? isFree = some j := by
    cases h : l.findIdx? isFree with
    | none => exfalso; unfold least at h1; rw [h] at h1; simp at h1
    | some j => exact ⟨j, rfl⟩
  have hle : least l = j := by unfold least; rw [hj]; rfl
  obtain ⟨h3, h4, _⟩ := List.findIdx?_eq_some_iff_getElem.1 hj
  subst hle
  exact h4
theorem wsum_put {l : List S40} (hc : chk l = 0) (x : S40) : wsum (putP l x) = wsum l + x.f1.length := by
  unfold putP
  by_cases h1 : least l < l.length
  · rw [if_pos h1]
    have h2 := wsum_set2 h1 x
    have hf := least_free h1
    have := free_words hf (any_mem (chk_zero hc).2.2.2 (List.getElem_mem h1))
    omega
  · rw [if_neg h1, wsum_append, wsum_one]
theorem odd_of_not_free {x : S40} (h : isFree x = false) : isOdd x = false := by unfold isOdd; rw [if_neg (by rw [h]; decide)]
theorem chk_put {l : List S40} {x : S40} (hc : chk l = 0) (hx : isFree x = false) (hw : wsum l + x.f1.length ≤ 65536) (hl : least l < 4096) : chk (putP l x) = 0 := by
  obtain ⟨h1, h2, h3, h4⟩ := chk_zero hc
  have hlen := putP_len l x
  refine chk_of ?_ (by rw [wsum_put hc]; exact hw) (fun hp => ?_) (any_of' fun y hy => ?_)
  · unfold putP
    by_cases h : least l < l.length
    · simp [h]; omega
    · simp [h]
      have := least_le l
      omega
  · obtain ⟨m, hm⟩ : ∃ m : Nat, (putP l x).length = m + 1 := ⟨(putP l x).length - 1, by omega⟩
    rw [show (((putP l x).length : Int) - 1) = (m : Nat) by omega]
    by_cases hml : m = least l
    · rw [hml, putP_at, hx]
    · by_cases h : least l < l.length
      · have he : (putP l x).length = l.length := by unfold putP; simp [h]
        rw [putP_else l x (by omega) hml]
        have := h3 (by omega)
        rwa [show ((l.length : Int) - 1) = (m : Nat) by omega] at this
      · have he : (putP l x).length = l.length + 1 := by unfold putP; simp [h]
        have := least_le l
        omega
  · rcases putP_mem hy with h | h
    · exact any_mem h4 h
    · rw [h]; exact odd_of_not_free hx
theorem good_put {l : List S40} {x : S40} (hg : Good l) (hl : l.length ≤ 5000) (hx : x.f1.length ≤ 8796093021952) : Good (putP l x) := ⟨by have := putP_len l x; omega, fun y hy => by
  rcases putP_mem hy with h | h
  · exact hg.each y h
  · rw [h]; exact hx⟩
theorem there_put {l : List S40} {x : S40} (hc : chk l = 0) (hx : isFree x = false) (hw : wsum l + x.f1.length ≤ 65536) (hl : least l < 4096) : there (putP l x) ((least l : Int) + 1) = true := by
  have := putP_len l x
  rw [there_iff]
  refine ⟨chk_put hc hx hw hl, ⟨by omega, by omega⟩, ?_⟩
  rw [show ((least l : Int) + 1 - 1) = (least l : Nat) by omega, putP_at, hx]
theorem get_put {l : List S40} {x : S40} (hc : chk l = 0) (hx : isFree x = false) (hw : wsum l + x.f1.length ≤ 65536) (hl : least l < 4096) : getS (putP l x) ((least l : Int) + 1) = (x.f0, x.f1, 0) := by
  unfold getS
  rw [if_pos (there_put hc hx hw hl), show ((least l : Int) + 1 - 1) = (least l : Nat) by omega, putP_at]
/-- trim: what stays, and what falls. -/
theorem trim_prefix (l : List S40) : ∃ t, l = trim l ++ t ∧ ∀ x ∈ t, isFree x = true := by
  refine ⟨(l.reverse.takeWhile isFree).reverse, ?_, fun x hx => ?_⟩
  · unfold trim
    rw [← List.reverse_append, List.takeWhile_append_dropWhile, List.reverse_reverse]
  · rw [List.mem_reverse] at hx
    exact List.all_eq_true.1 List.all_takeWhile x hx
theorem trim_last (l : List S40) (h : 0 < (trim l).length) : isFree (rd_T40 (trim l) (((trim l).length : Int) - 1)) = false := by
  have hne : trim l ≠ [] := fun e => by rw [e] at h; simp at h
  have hne2 : l.reverse.dropWhile isFree ≠ [] := fun e => hne (by unfold trim; rw [e]; rfl)
  have h1 := List.head_dropWhile_not isFree hne2
  obtain ⟨m, hm⟩ : ∃ m : Nat, (trim l).length = m + 1 := ⟨(trim l).length - 1, by omega⟩
  rw [show (((trim l).length : Int) - 1) = (m : Nat) by omega, rdi _ _ (by omega)]
  have h2 : (trim l)[m] = (l.reverse.dropWhile isFree).head hne2 := by
    have : (trim l)[m] = (trim l).getLast hne := by rw [List.getLast_eq_getElem]; congr 1; omega
    rw [this]
    exact List.getLast_reverse _
  rw [h2]
  simpa using h1
theorem wsum_trim (l : List S40) : wsum (trim l) ≤ wsum l := by
  obtain ⟨t, ht, _⟩ := trim_prefix l
  have : wsum l = wsum (trim l ++ t) := congrArg wsum ht
  rw [wsum_append] at this
  omega
theorem trim_get (l : List S40) (i : Nat) (hi : i < (trim l).length) : (trim l)[i] = l[i]'(by have := trim_len l; omega) := by
  obtain ⟨t, ht, _⟩ := trim_prefix l
  have hil : i < l.length := by have := trim_len l; omega
  have : l[i]? = (trim l ++ t)[i]? := congrArg (fun z => z[i]?) ht
  rw [List.getElem?_append_left hi, List.getElem?_eq_getElem hil, List.getElem?_eq_getElem hi] at this
  injection this with this
  exact this.symm
theorem z40_free : isFree z40 = true := by decide +kernel
theorem z40_odd : isOdd z40 = false := by decide +kernel
/-- A heap of which an object was freed. -/
theorem chk_freed {l : List S40} {i : Nat} (hc : chk l = 0) (hi : i < l.length) : chk (trim (l.set i z40)) = 0 ∧ wsum (trim (l.set i z40)) + l[i].f1.length ≤ wsum l := by
  obtain ⟨h1, h2, h3, h4⟩ := chk_zero hc
  have hw := wsum_set2 hi z40
  have hw2 := wsum_trim (l.set i z40)
  have hz : z40.f1.length = 0 := rfl
  have hlen := trim_len (l.set i z40)
  rw [List.length_set] at hlen
  refine ⟨chk_of (by omega) (by omega) (fun h => trim_last _ h) (any_of' fun x hx => ?_), by omega⟩
  rcases List.mem_or_eq_of_mem_set (mem_trim hx) with h | h
  · exact any_mem h4 h
  · rw [h]; exact z40_odd
theorem good_freed {l : List S40} (hg : Good l) (i : Nat) : Good (trim (l.set i z40)) := ⟨by have := trim_len (l.set i z40); rw [List.length_set] at this; have := hg.len; omega, fun x hx => by
  rcases List.mem_or_eq_of_mem_set (mem_trim hx) with h | h
  · exact hg.each x h
  · rw [h]; simp [z40]⟩
theorem not_there_freed {l : List S40} {i : Nat} (hi : i < l.length) : there (trim (l.set i z40)) ((i : Int) + 1) = false := by
  rw [Bool.eq_false_iff]
  intro h
  obtain ⟨_, h1, h2⟩ := (there_iff _ _).1 h
  have hil : i < (trim (l.set i z40)).length := by omega
  rw [show ((i : Int) + 1 - 1) = (i : Nat) by omega, rdi _ _ hil, trim_get _ _ hil] at h2
  simp [z40_free] at h2
theorem least_freed {l : List S40} {i : Nat} (hi : i < l.length) : least (trim (l.set i z40)) ≤ i := by
  rcases Nat.lt_or_ge i (trim (l.set i z40)).length with h | h
  · refine least_le_of h ?_
    rw [trim_get _ _ h]
    simp [z40_free]
  · exact Nat.le_trans (least_le _) h
theorem HeapFrees_f {l : List S40} (hg : Good l) {n : Int} (hn : I64 n) {k : Nat} (hk : 500000 + l.length < k) : larchlaw15_HeapFrees.f k l n = some true := by
  obtain ⟨k, rfl⟩ : ∃ m, k = m + 1 := ⟨k - 1, by omega⟩
  have hj : ∀ b, b = true → larchlaw15_HeapFrees.j0 (k + 1) l n b = some true := by
    rintro b rfl
    simp only [larchlaw15_HeapFrees.j0, if_true]
  unfold larchlaw15_HeapFrees.f
  rw [works_f (by omega)]
  simp only [Option.bind_some, if_true]
  rw [light_f hg (by omega)]
  simp only [Option.bind_some]
  by_cases h : l.length ≤ 5000 ∧ wsum l ≤ 70000
  · rw [if_pos (decide_eq_true h)]
    by_cases h3 : (l.length : Int) > 300
    · exact hj _ (decide_eq_true h3)
    · rw [decide_eq_false h3]
      obtain ⟨k, rfl⟩ : ∃ m, k = m + 1 := ⟨k - 1, by omega⟩
      simp only [larchlaw15_HeapFrees.j0]
      rw [if_neg (by decide), get_f hg hn]
      simp only [Option.bind_some]
      rw [free_f hg hn (by omega)]
      simp only [Option.bind_some]
      unfold getS freeS
      by_cases ht : there l n = true
      · obtain ⟨hc, hn1, hf⟩ := (there_iff l n).1 ht
        obtain ⟨i, rfl⟩ : ∃ i : Nat, n = i + 1 := ⟨(n - 1).toNat, by omega⟩
        have hil : i < l.length := by omega
        rw [if_pos ht, if_pos ht, if_pos rfl]
        rw [show ((i : Int) + 1 - 1) = (i : Nat) by omega, rdi l i hil] at hf ⊢
        simp only [Int.toNat_natCast]
        obtain ⟨hcM, hwM⟩ := chk_freed hc hil
        have hgM := good_freed hg i
        have hleast := least_freed hil
        have hnt := not_there_freed hil
        have hlenM := trim_len (l.set i z40)
        rw [List.length_set] at hlenM
        have hlive := scan_l0 ((i : Int) + 1) (trim (l.set i z40)) 150 l[i].f0 l[i].f1 (trim (l.set i z40)) (by omega)
        generalize trim (l.set i z40) = M at *
        have hwl := (chk_zero hc).2.1
        simp only [larchlaw15_HeapFrees.j1]
        rw [if_neg (by decide), get_f hgM hn]
        simp only [Option.bind_some]
        rw [live_f hgM (by omega)]
        simp only [Option.bind_some]
        have hgM2 : getS M ((i : Int) + 1) = (⟨#[]⟩, [], 150) := by unfold getS; rw [hnt]; rfl
        rw [hgM2]
        obtain ⟨k', hk1, hk2, hk3⟩ := hlive M.length k 0 0 [] (by omega) (by omega) (by omega) rfl rfl
        have hk3' : larchlaw15_HeapFrees.l0 k ((i : Int) + 1) M 150 (live M) 1 0 l[i].f0 l[i].f1 = larchlaw15_HeapFrees.j3 k' ((i : Int) + 1) M 150 ((least M : Int) + 1) l[i].f0 l[i].f1 := by
          have e : 0 + ((M.drop 0).findIdx? isFree).getD (M.drop 0).length = least M := by
            unfold least
            rw [List.drop_zero, Nat.zero_add]
          rw [e] at hk3
          simpa [live] using hk3
        rw [hk3']
        obtain ⟨k', rfl⟩ : ∃ m, k' = m + 1 := ⟨k' - 1, by omega⟩
        simp only [larchlaw15_HeapFrees.j3]
        have hx : isFree (⟨l[i].f0, l[i].f1⟩ : S40) = false := hf
        have hxw : wsum M + (⟨l[i].f0, l[i].f1⟩ : S40).f1.length ≤ 65536 := by simp only; omega
        rw [put_f hgM (by have := hg.each l[i] (List.getElem_mem _); omega) (by omega), putS_ok hcM hx hxw (by omega)]
        simp only [Option.bind_some]
        rw [get_f (good_put hgM (by omega) (by have := hg.each l[i] (List.getElem_mem _); exact this)) (by unfold I64; omega), get_put hcM hx hxw (by omega)]
        simp only [Option.bind_some, if_true]
        rw [check_f hgM, hcM]
        simp only [Option.bind_some, if_true]
        rw [if_pos (by omega), (Small.one (x := ⟨l[i].f0, l[i].f1⟩) (by simp only; omega)).so (by omega)]
        rfl
      · rw [if_neg ht, if_neg ht, if_pos rfl]
        simp only [larchlaw15_HeapFrees.j1]
        rfl
  · rw [if_neg (by simpa using h)]
    exact hj _ rfl
end Go.Proofs.Yticpjpacoeecmaa.Q
