/- heap: the law HeapKeeps, its walk and what it computes joined. -/
import Derived.Test.YticpjpacoeecmaaQ5
import Derived.Test.YticpjpacoeecmaaH4
namespace Go.Proofs.Yticpjpacoeecmaa.Q
open Go.RowKit Go.Proofs.YticpjpacoeecmaaW.PrintWords Go.Proofs.Yticpjpacoeecmaa.A.P
set_option linter.unusedVariables false
set_option linter.unusedSimpArgs false
/-- How many objects are not free. -/
def nf (l : List S40) : Nat := l.countP (fun x => !isFree x)
theorem liveFrom_nf (l : List S40) : ∀ i, (liveFrom i l).length = nf l := by
  induction l with
  | nil => intro i; simp [liveFrom, nf]
  | cons x l ih =>
    intro i
    have h1 := ih (i + 1)
    have h2 : nf (x :: l) = nf l + if isFree x = true then 0 else 1 := by
      unfold nf
      rw [List.countP_cons]
      cases isFree x <;> simp
    rw [h2]
    unfold liveFrom
    cases h : isFree x
    · simp [h1]
    · simp [h1]
theorem live_nf (l : List S40) : (live l).length = nf l := liveFrom_nf l 0
theorem liveFrom_mem (l : List S40) : ∀ (i : Nat) (y : Int), y ∈ liveFrom i l → ∃ (k : Nat) (hk : k < l.length), y = i + k + 1 ∧ isFree l[k] = false := by
  induction l with
  | nil => intro i y hy; simp [liveFrom] at hy
  | cons x l ih =>
    intro i y hy
    unfold liveFrom at hy
    split at hy
    · obtain ⟨k, hk, he, hf⟩ := ih (i + 1) y hy
      exact ⟨k + 1, by simp; omega, by push_cast at he ⊢; omega, by simpa using hf⟩
    · rename_i hx
      rcases List.mem_cons.1 hy with rfl | hy
      · exact ⟨0, by simp, by simp, by simpa using hx⟩
      · obtain ⟨k, hk, he, hf⟩ := ih (i + 1) y hy
        exact ⟨k + 1, by simp; omega, by push_cast at he ⊢; omega, by simpa using hf⟩
theorem nf_set {l : List S40} {i : Nat} (hi : i < l.length) {x : S40} (hf : isFree l[i] = true) (hx : isFree x = false) : nf (l.set i x) = nf l + 1 := by
  have hl : l = l.take i ++ (l[i] :: l.drop (i + 1)) := by rw [← List.drop_eq_getElem_cons hi, List.take_append_drop]
  have e : nf l = nf (l.take i) + nf (l.drop (i + 1)) := by
    have e := congrArg nf hl
    unfold nf at e ⊢
    rw [List.countP_append, List.countP_cons] at e
    rw [e]; simp [hf]
  rw [List.set_eq_take_append_cons_drop, if_pos hi, e]
  unfold nf
  rw [List.countP_append, List.countP_cons]
  simp [hx]
  omega
theorem nf_put (l : List S40) {x : S40} (hx : isFree x = false) : nf (putP l x) = nf l + 1 := by
  unfold putP
  by_cases h : least l < l.length
  · rw [if_pos h]; exact nf_set h (least_free h) hx
  · rw [if_neg h]
    unfold nf
    rw [List.countP_append]
    simp [hx]
theorem rd_mem_int {L : List Int} {j : Int} (h0 : 0 ≤ j) (h1 : j < L.length) : rd L j ∈ L := by
  unfold rd
  rw [List.getD_eq_getElem?_getD, List.getElem?_eq_getElem (show j.toNat < L.length by omega)]
  exact List.getElem_mem _
set_option maxRecDepth 100000 in
theorem HeapKeeps_walk (A0 : Option Addr) (c0 : Nat) (l : List S40) (s : ByteArray) (A1 : Option Addr) (c1 : Nat) (ws : List S24) (w : World) (hr : Kd.C k40 w A0 l.length l) (hc0 : l.length ≤ c0) (hr1 : Kd.C k24 w A1 ws.length ws) (hc1 : ws.length ≤ c1) (hg : Good l) (hw : ws.length ≤ 8796093021952) :
    Calls Try.prog 6 #[.slice A0 l.length c0, .agg #[.string s, .slice A1 ws.length c1]] w fun e w' => e = .returned (.bool true) ∧ Below w.heap.size w w' := by
  obtain ⟨k, hk⟩ : ∃ k, k = 500000 + l.length := ⟨_, rfl⟩
  have hwk := works_f (k := k) (by omega)
  have hli := light_f hg (k := k) (by omega)
  by_cases hlt : l.length ≤ 5000 ∧ wsum l ≤ 70000
  · rw [decide_eq_true hlt] at hli
    by_cases h3 : (l.length : Int) ≤ 300
    · by_cases h7 : (ws.length : Int) ≤ 70000
      · have hput := put_f hg (a := s) hw (k := k) (by omega)
        by_cases hc : chk l = 0
        · obtain ⟨hcl, hcw, _⟩ := chk_zero hc
          by_cases hf : isFree ⟨s, ws⟩ = true
          · have e : putS l s ws = ([], 0, 2) := by unfold putS; rw [if_pos hc, if_pos hf]
            rw [e] at hput
            exact keeps_ref k A0 c0 l s A1 c1 ws 2 w hr hc0 hr1 hc1 hwk hli h3 h7 hput (by decide)
          · have hf' : isFree ⟨s, ws⟩ = false := by simpa using hf
            by_cases hbig : 65536 < wsum l + ws.length
            · have e : putS l s ws = ([], 0, 4) := by unfold putS; rw [if_pos hc, if_neg hf, if_pos hbig]
              rw [e] at hput
              exact keeps_ref k A0 c0 l s A1 c1 ws 4 w hr hc0 hr1 hc1 hwk hli h3 h7 hput (by decide)
            · have hls := least_le l
              have hx : wsum l + (⟨s, ws⟩ : S40).f1.length ≤ 65536 := by simp only; omega
              rw [putS_ok hc hf' (by omega) (by omega)] at hput
              have hpl := putP_len l ⟨s, ws⟩
              have hgm : Good (putP l ⟨s, ws⟩) := good_put hg (by omega) (by simpa using hw)
              have hchk := check_f hgm
              rw [chk_put hc hf' hx (by omega)] at hchk
              have hgt := get_f hgm (n := (least l : Int) + 1) (by unfold I64; omega)
              rw [get_put hc hf' hx (by omega)] at hgt
              have hws2 := wsum_put hc ⟨s, ws⟩
              refine keeps_yes k A0 c0 l s A1 c1 ws (putP l ⟨s, ws⟩) ((least l : Int) + 1) (live l) (live (putP l ⟨s, ws⟩)) (wsum l) (wsum (putP l ⟨s, ws⟩)) w hr hc0 hr1 hc1 hwk hli h3 h7 hput hgt ((Small.one (x := ⟨s, ws⟩) (by simp only; omega)).so (by omega)) hchk (live_f hg (by omega)) ?_ (live_f hgm (by omega)) ?_ (words_f hg (by omega) (by omega)) (words_f hgm (by omega) (by omega)) (by omega) (by omega) ?_ ?_
              · intro j hj0 hj1
                obtain ⟨i, hil, he, hfi⟩ := liveFrom_mem l 0 _ (rd_mem_int hj0 hj1)
                have he' : rd (live l) j = (i : Int) + 1 := (show rd (liveFrom 0 l) j = (i : Int) + 1 by rw [he]; simp)
                have hne : i ≠ least l := by
                  intro h
                  have h2 : least l < l.length := by omega
                  have := least_free h2
                  simp only [← h] at this
                  rw [hfi] at this
                  cases this
                have ht : there l ((i : Int) + 1) = true := by
                  rw [there_iff, show ((i : Int) + 1 - 1) = (i : Nat) by omega, rdi l i hil]
                  exact ⟨hc, ⟨by omega, by omega⟩, hfi⟩
                have ht2 : there (putP l ⟨s, ws⟩) ((i : Int) + 1) = true := by
                  rw [there_iff, show ((i : Int) + 1 - 1) = (i : Nat) by omega, putP_else l _ hil hne, rdi l i hil]
                  exact ⟨chk_put hc hf' hx (by omega), ⟨by omega, by omega⟩, hfi⟩
                have hwi := there_words ht
                rw [show ((i : Int) + 1 - 1) = (i : Nat) by omega, rdi l i hil] at hwi
                refine ⟨l[i].f0, l[i].f1, ?_, ?_, ?_, (Small.one (x := ⟨l[i].f0, l[i].f1⟩) (by simp only; omega)).so (by omega)⟩
                · rw [he', get_f hg (by unfold I64; omega)]
                  unfold getS
                  rw [if_pos ht, show ((i : Int) + 1 - 1) = (i : Nat) by omega, rdi l i hil]
                · rw [he', get_f hgm (by unfold I64; omega)]
                  unfold getS
                  rw [if_pos ht2, show ((i : Int) + 1 - 1) = (i : Nat) by omega, putP_else l _ hil hne, rdi l i hil]
                · rw [he']; omega
              · rw [live_nf, live_nf, nf_put l hf']; omega
              · have := liveFrom_len l 0
                unfold live
                omega
              · rw [hws2]; simp only; omega
        · have e : putS l s ws = ([], 0, 150) := by unfold putS; rw [if_neg hc]
          rw [e] at hput
          exact keeps_ref k A0 c0 l s A1 c1 ws 150 w hr hc0 hr1 hc1 hwk hli h3 h7 hput (by decide)
      · exact keeps_no k A0 c0 l s A1 c1 ws true w hr hc0 hwk hli (.inr (.inr (by omega)))
    · exact keeps_no k A0 c0 l s A1 c1 ws true w hr hc0 hwk hli (.inr (.inl (by omega)))
  · rw [decide_eq_false hlt] at hli
    exact keeps_no k A0 c0 l s A1 c1 ws false w hr hc0 hwk hli (.inl rfl)
end Go.Proofs.Yticpjpacoeecmaa.Q
