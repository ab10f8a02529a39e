/- gc, plain: the law GcKeeps. -/
import Derived.Test.YtonkfcfpfpaceaaQ1b
import Derived.Test.YtonkfcfpfpaceaaQ12
import Derived.Test.YtonkfcfpfpaceaaK1
namespace Go.Proofs.Ytonkfcfpfpaceaa.Q
open Go.RowKit Go.Proofs.YtonkfcfpfpaceaaW.PrintWords Go.Proofs.YtonkfcfpfpaceaaW.PrintMore Go.Proofs.Ytonkfcfpfpaceaa.A.P
set_option linter.unusedVariables false
set_option linter.unusedSimpArgs false
theorem has_l0 {o : List Int} {x : Int} (ho : o.length ≤ 100000000) : ∀ (d k i : Nat), o.length - i = d → i ≤ o.length → d < k → larchbase_HasInt.l0 k o x i = some (decide (x ∈ o.drop i)) := by
  intro d
  induction d with
  | zero =>
    intro k i hd hi hk
    obtain ⟨k, rfl⟩ : ∃ m, k = m + 1 := ⟨k - 1, by omega⟩
    simp only [larchbase_HasInt.l0]
    rw [if_neg (by omega), List.drop_eq_nil_of_le (by omega)]
    simp
  | succ d ih =>
    intro k i hd hi hk
    obtain ⟨k, rfl⟩ : ∃ m, k = m + 1 := ⟨k - 1, by omega⟩
    have hlt : i < o.length := by omega
    have := ih k (i + 1) (by omega) (by omega) (by omega)
    simp only [larchbase_HasInt.l0]
    rw [if_pos (by omega), if_pos (by omega), rd_nat o i hlt, List.drop_eq_getElem_cons hlt, wr (by omega) (by omega)]
    by_cases h : o[i] = x
    · rw [if_pos h]
      simp [h]
    · rw [if_neg h, show ((i : Int) + 1) = ((i + 1 : Nat) : Int) by omega, this]
      have e : (x ∈ o[i] :: o.drop (i + 1)) ↔ x ∈ o.drop (i + 1) := by
        simp only [List.mem_cons]
        constructor
        · rintro (g | g)
          · exact absurd g.symm h
          · exact g
        · exact Or.inr
      exact congrArg some (decide_eq_decide.2 e.symm)
theorem has_f {o : List Int} {x : Int} (ho : o.length ≤ 100000000) {k : Nat} (hk : o.length < k) (hm : x ∈ o) : larchbase_HasInt.f k o x = some true := by
  have := has_l0 (x := x) ho o.length k 0 (by omega) (by omega) hk
  rw [List.drop_zero, decide_eq_true hm] at this
  exact this
theorem getS_at {l : List S37} {x : Int} (h : there l x = true) : getS l x = ((rd_T37 l (x - 1)).f0, wordsOf l x, 0) := by
  unfold getS
  rw [if_pos h]
  rfl
theorem getS_ok {l : List S37} {x : Int} (h : (getS l x).2.2 = 0) : there l x = true := by
  unfold getS at h
  split at h
  · assumption
  · simp at h
theorem GcKeeps_walk (A0 : Option Addr) (c0 : Nat) (l : List S37) (A1 : Option Addr) (c1 : Nat) (vs : List S41) (w : World) (hr : Kd.C k37 w A0 l.length l) (hc0 : l.length ≤ c0) (hr1 : Kd.C k41 w A1 vs.length vs) (hc1 : vs.length ≤ c1) (hg : Good l) (hw : WfH l) (hv : WfV vs) :
    Calls Try.prog 4 #[.slice A0 l.length c0, .slice A1 vs.length c1] w fun e w' => e = .returned (.bool true) ∧ Below w.heap.size w w' := by
  obtain ⟨k, hk⟩ : ∃ k, k = 1000000 + l.length := ⟨_, rfl⟩
  have hwk := works_f (k := k) (by omega)
  obtain ⟨r, hli, h2⟩ := light_f hg (k := k) (by omega)
  cases r with
  | false => exact keeps_no k A0 c0 l A1 c1 vs false w hr hc0 hwk hli (.inl rfl)
  | true =>
    have hL := Light.of (h2 rfl)
    by_cases h3 : (300 : Int) < vs.length
    · exact keeps_no k A0 c0 l A1 c1 vs true w hr hc0 hwk hli (.inr h3)
    · have hok := hL.ok hw hv (by omega)
      have hre := reach_f hg hok
      have hsw := sweep_f hg hw hv hok
      have hlen := hL.len
      by_cases hc : chk l = 0
      · obtain ⟨hin, hr0, hcl⟩ := trO_post hw hv
        have hil := hin.len
        have hLm := sw_light hL hin
        have hcm := sw_chk hL hc hin
        have hmg := hLm.good'
        have hml := hLm.len
        rw [if_pos hc] at hre hsw
        have hnl := nf_le l
        refine keeps_yes k A0 c0 l A1 c1 vs (trO l vs) (sweptH l (trO l vs)) _ (live l) (live (sweptH l (trO l vs))) w hr hc0 hr1 hc1 hwk hli (by omega) hre hsw (by omega) (fun j hj => ?_) (rlive_f hmg (by omega)) (by rw [live_nf, sw_nf hin]) (by rw [rcheck_f hmg (by omega), hcm]) (rlive_f hg (by omega)) (by rw [live_nf, wr (by omega) (by omega)])
        rw [rd_nat _ j hj]
        have hx := List.getElem_mem hj
        generalize (trO l vs)[j] = x at hx ⊢
        have hlv := hin.2 x hx
        have hsr := sw_rd hin hx
        have hxm := hL.each (rd_mem hlv.1 hlv.2.1)
        have ht1 : there l x = true := by rw [there_iff]; exact ⟨hc, ⟨hlv.1, hlv.2.1⟩, hlv.2.2⟩
        have ht2 : there (sweptH l (trO l vs)) x = true := by rw [there_iff, hsr.2]; exact ⟨hcm, ⟨hlv.1, hsr.1⟩, hlv.2.2⟩
        have hI : I64 x := by unfold I64; have := hlv.1; have := hlv.2.1; omega
        refine ⟨(rd_T37 l (x - 1)).f0, wordsOf l x, ?_, ?_, ?_, by unfold wordsOf; omega, fun i hi => ?_⟩
        · rw [rget_f hmg hI (by omega), getS_at ht2, hsr.2, sw_words hin hx]
        · rw [rget_f hg hI (by omega), getS_at ht1]
        · exact (Small.one (x := ⟨(rd_T37 l (x - 1)).f0, wordsOf l x⟩) (by simp only [wordsOf]; omega)).so (by omega)
        · rw [rd41i hi]
          have hm := List.getElem_mem hi
          generalize (wordsOf l x)[i] = v at hm ⊢
          have hIv := wf_I64 (wordsOf_wf hw hlv v hm)
          refine ⟨(getS l v.f1).1, (getS l v.f1).2.1, (getS l v.f1).2.2, rget_f hg hIv (by omega), fun h4 h0 => ?_⟩
          have ht := (there_iff _ _).1 (getS_ok h0)
          have hld : ldTo l v = some v.f1 := by rw [ldTo_eq, if_pos ⟨h4, ht.2.1.1, ht.2.1.2, ht.2.2⟩]
          exact has_f (by omega) (by omega) (hcl x hx _ (leads_mem hm hld))
      · rw [if_neg hc] at hre hsw
        exact keeps_err k A0 c0 l A1 c1 vs (chk l) w hr hc0 hr1 hc1 hwk hli (by omega) hre hsw hc
end Go.Proofs.Ytonkfcfpfpaceaa.Q
