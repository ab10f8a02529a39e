/- gc, plain: what is swept. -/
import Derived.Test.YtonkfcfpfpaceaaR2
import Derived.Test.YtonkfcfpfpaceaaMA4
namespace Go.Proofs.Ytonkfcfpfpaceaa.Q
open Go.RowKit Go.Proofs.YtonkfcfpfpaceaaW.PrintWords Go.Proofs.YtonkfcfpfpaceaaW.PrintMore Go.Proofs.Ytonkfcfpfpaceaa.A.P
set_option linter.unusedVariables false
set_option linter.unusedSimpArgs false
/-! ### lists -/
theorem sum_sub (f : Int → Nat) : ∀ (o L : List Int), o.Nodup → (∀ x, x ∈ o → x ∈ L) → (o.map f).sum ≤ (L.map f).sum
  | [], L, _, _ => Nat.zero_le _
  | x :: t, L, hn, hs => by
    have hx := hs x (by simp)
    have hp := (List.perm_cons_erase hx).map f
    have h1 := sum_sub f t (L.erase x) (List.nodup_cons.1 hn).2 (fun y hy => by
      have hne : y ≠ x := fun e => (List.nodup_cons.1 hn).1 (e ▸ hy)
      exact (List.mem_erase_of_ne hne).2 (hs y (by simp [hy])))
    have h2 := hp.sum_nat
    simp only [List.map_cons, List.sum_cons] at *
    omega
theorem sum_ones : ∀ l : List Int, (l.map (fun _ => 1)).sum = l.length
  | [] => rfl
  | _ :: t => by have := sum_ones t; simp only [List.map_cons, List.sum_cons, List.length_cons]; omega
theorem len_sub {o L : List Int} (hn : o.Nodup) (hs : ∀ x, x ∈ o → x ∈ L) : o.length ≤ L.length := by
  have := sum_sub (fun _ => 1) o L hn hs
  rw [sum_ones, sum_ones] at this
  exact this
/-- The numbers from 1 on. -/
def nums1 (n : Nat) : List Int := (List.range n).map (fun i : Nat => (i : Int) + 1)
theorem nums1_mem (n : Nat) (x : Int) : x ∈ nums1 n ↔ 1 ≤ x ∧ x ≤ n := by
  simp only [nums1, List.mem_map, List.mem_range]
  constructor
  · rintro ⟨i, hi, rfl⟩
    omega
  · intro h
    exact ⟨(x - 1).toNat, by omega, by omega⟩
theorem nums1_nodup (n : Nat) : (nums1 n).Nodup := by
  unfold nums1
  rw [List.nodup_iff_pairwise_ne, List.pairwise_map]
  exact (List.nodup_iff_pairwise_ne.1 List.nodup_range).imp (fun {a b} h e => h (by omega))
theorem trim_take {L : List S37} {m : Nat} (hm : m ≤ L.length) (hl : 0 < m → isFree (rd_T37 L ((m : Int) - 1)) = false) (hf : ∀ i (hi : i < L.length), m ≤ i → isFree L[i] = true) : trim L = L.take m := by
  obtain ⟨t, ht, hft⟩ := trim_prefix L
  have hlen : L.length = (trim L).length + t.length := by rw [← List.length_append, ← ht]
  have e : (trim L).length = m := by
    rcases Nat.lt_trichotomy (trim L).length m with h | h | h
    · have h1 := hl (by omega)
      rw [show ((m : Int) - 1) = ((m - 1 : Nat) : Int) by omega, rdi L (m - 1) (by omega)] at h1
      have e2 : L[m - 1] = t[m - 1 - (trim L).length]'(by omega) := by
        exact (List.getElem_of_eq ht (by omega)).trans (List.getElem_append_right (by omega))
      rw [e2, hft _ (List.getElem_mem _)] at h1
      cases h1
    · exact h
    · have h1 := trim_last L (by omega)
      rw [show (((trim L).length : Int) - 1) = (((trim L).length - 1 : Nat) : Int) by omega, rdi (trim L) _ (by omega), trim_get L _ (by omega)] at h1
      rw [hf _ _ (by omega)] at h1
      cases h1
  conv => rhs; rw [ht]
  exact (List.take_left' e).symm
/-! ### the swept heap -/
def keepAt (H : List S37) (o : List Int) (i : Nat) : S37 := if ((i : Int) + 1) ∈ o then rd_T37 H i else z37
def swept (H : List S37) (o : List Int) : List S37 := (List.range H.length).map (keepAt H o)
theorem swept_len (H : List S37) (o : List Int) : (swept H o).length = H.length := by simp [swept]
theorem swept_get (H : List S37) (o : List Int) (i : Nat) (h : i < (swept H o).length) : (swept H o)[i] = keepAt H o i := by simp [swept]
def setO (H xs : List S37) (x : Int) : List S37 := xs.set (x - 1).toNat (rd_T37 H (x - 1))
def setsO (H xs : List S37) (o : List Int) : List S37 := o.foldl (setO H) xs
def topO (o : List Int) : Int := o.foldl mx 0
theorem setsO_len (H : List S37) : ∀ (o : List Int) (xs : List S37), (setsO H xs o).length = xs.length
  | [], xs => rfl
  | x :: o, xs => by
    have h := setsO_len H o (setO H xs x)
    rw [show (setO H xs x).length = xs.length by simp [setO]] at h
    exact h
theorem setsO_snoc (H xs : List S37) (o : List Int) (x : Int) : setsO H xs (o ++ [x]) = setO H (setsO H xs o) x := by simp [setsO]
theorem setsO_get {H : List S37} : ∀ (o : List Int) (xs : List S37), (∀ x, x ∈ o → 1 ≤ x) → xs.length = H.length → ∀ i (hi : i < (setsO H xs o).length), (setsO H xs o)[i] = if ((i : Int) + 1) ∈ o then rd_T37 H i else xs[i]'(by rw [setsO_len] at hi; exact hi)
  | [], xs, _, _, i, hi => by simp [setsO]
  | x :: o, xs, h1, hl, i, hi => by
    have hx := h1 x (by simp)
    have e := setsO_get o (setO H xs x) (fun y hy => h1 y (by simp [hy])) (by simp [setO, hl]) i hi
    have e0 : setsO H xs (x :: o) = setsO H (setO H xs x) o := rfl
    refine (List.getElem_of_eq e0 hi).trans (e.trans ?_)
    by_cases hm : ((i : Int) + 1) ∈ o
    · rw [if_pos hm, if_pos (by simp [hm])]
    · rw [if_neg hm]
      by_cases hxi : x = (i : Int) + 1
      · subst hxi
        rw [if_pos (by simp)]
        simp only [setO, show ((i : Int) + 1 - 1) = (i : Int) by omega, Int.toNat_natCast, List.getElem_set_self]
      · rw [if_neg (by simp [hm]; omega)]
        simp only [setO]
        rw [List.getElem_set_ne (by omega)]
theorem setsO_swept {H : List S37} {o : List Int} (h : ∀ x, x ∈ o → 1 ≤ x) : setsO H (List.replicate H.length z37) o = swept H o := by
  refine List.ext_getElem (by rw [setsO_len, swept_len, List.length_replicate]) fun i h1 h2 => ?_
  rw [setsO_get o _ h (by simp) i h1, swept_get H o i h2, keepAt, List.getElem_replicate]
theorem topO_app (o : List Int) (x : Int) : topO (o ++ [x]) = mx (topO o) x := by simp [topO]
theorem topO_from : ∀ (o : List Int) (m : Int), m ≤ o.foldl mx m ∧ (∀ x, x ∈ o → x ≤ o.foldl mx m) ∧ (o.foldl mx m = m ∨ o.foldl mx m ∈ o)
  | [], m => ⟨Int.le_refl _, fun x h => (by cases h), .inl rfl⟩
  | x :: o, m => by
    obtain ⟨h1, h2, h3⟩ := topO_from o (mx m x)
    have hm : m ≤ mx m x ∧ x ≤ mx m x ∧ (mx m x = m ∨ mx m x = x) := by unfold mx; split <;> omega
    simp only [List.foldl_cons]
    refine ⟨by omega, fun y hy => ?_, ?_⟩
    · rcases List.mem_cons.1 hy with rfl | hy
      · omega
      · exact h2 y hy
    · rcases h3 with h3 | h3
      · rcases hm.2.2 with e | e
        · exact .inl (h3.trans e)
        · exact .inr (by rw [h3, e]; simp)
      · exact .inr (List.mem_cons_of_mem _ h3)
theorem topO_post (o : List Int) (_ : ∀ x, x ∈ o → 1 ≤ x) : 0 ≤ topO o ∧ (∀ x, x ∈ o → x ≤ topO o) ∧ (topO o = 0 ∨ topO o ∈ o) := topO_from o 0
/-- What is swept, at last. -/
def sweptH (H : List S37) (o : List Int) : List S37 := trim (swept H o)
theorem keep_free {H : List S37} {o : List Int} (ho : InH H o) {i : Nat} (h : i < H.length) : isFree (keepAt H o i) = true ↔ ((i : Int) + 1) ∉ o := by
  unfold keepAt
  by_cases hm : ((i : Int) + 1) ∈ o
  · rw [if_pos hm]
    have := (ho.2 _ hm).2.2
    rw [show ((i : Int) + 1 - 1) = (i : Int) by omega] at this
    simp [this, hm]
  · rw [if_neg hm]
    simp [hm, z37_free]
theorem sweep_take {H : List S37} {o : List Int} (ho : InH H o) : (swept H o).take (topO o).toNat = sweptH H o := by
  obtain ⟨t1, t2, t3⟩ := topO_post o (fun x hx => (ho.2 x hx).1)
  have hle : (topO o).toNat ≤ H.length := by
    rcases t3 with t3 | t3
    · omega
    · have := (ho.2 _ t3).2.1; omega
  refine (trim_take (by rw [swept_len]; exact hle) (fun hp => ?_) (fun i hi hm => ?_)).symm
  · rcases t3 with t3 | t3
    · omega
    · rw [show (((topO o).toNat : Int) - 1) = (((topO o).toNat - 1 : Nat) : Int) by omega, rdi _ _ (by rw [swept_len]; omega), swept_get]
      have hk := (keep_free ho (i := (topO o).toNat - 1) (by omega))
      rw [show ((((topO o).toNat - 1 : Nat) : Int) + 1) = topO o by omega] at hk
      cases hfr : isFree (keepAt H o ((topO o).toNat - 1)) with
      | false => rfl
      | true => exact absurd t3 (hk.1 hfr)
  · rw [swept_get]
    rw [swept_len] at hi
    exact (keep_free ho hi).2 (fun hm2 => by have := t2 _ hm2; omega)
theorem nf_swept {H : List S37} {o : List Int} (ho : InH H o) : nf (swept H o) = o.length := by
  have e : nf (swept H o) = ((nums1 H.length).filter (fun x => decide (x ∈ o))).length := by
    unfold nf swept nums1
    rw [List.countP_map, List.filter_map, List.length_map, ← List.countP_eq_length_filter]
    refine List.countP_congr fun i hi => ?_
    have hk := keep_free ho (List.mem_range.1 hi)
    simp only [Function.comp, Bool.not_eq_true', decide_eq_true_eq]
    constructor
    · intro h
      exact Classical.byContradiction fun hn => by rw [hk.2 hn] at h; cases h
    · intro h
      cases hf : isFree (keepAt H o i) with
      | false => rfl
      | true => exact absurd h (hk.1 hf)
  rw [e]
  refine Nat.le_antisymm (len_sub ((nums1_nodup _).filter _) fun x hx => ?_) (len_sub ho.1 fun x hx => ?_)
  · have := (List.mem_filter.1 hx).2
    simpa using this
  · exact List.mem_filter.2 ⟨(nums1_mem _ _).2 ⟨(ho.2 x hx).1, (ho.2 x hx).2.1⟩, by simpa using hx⟩
theorem sweepW_l0 {H : List S37} {o : List Int} (hg : Good H) (hl : H.length ≤ 5000) (hb : ∀ x, x ∈ H → x.f1.length ≤ 70000) (ho : InH H o) : ∀ (d k i : Nat), o.length - i = d → i ≤ o.length → d + H.length + 1 < k →
    gc_SweepW.l0 k H o 0 (setsO H (List.replicate H.length z37) (o.take i)) (topO (o.take i)) o o.length i = some (sweptH H o, (nf H : Int) - o.length, 0) := by
  have hol := ho.len
  intro d
  induction d with
  | zero =>
    intro k i hd hi hk
    obtain ⟨k, rfl⟩ : ∃ m, k = m + 1 := ⟨k - 1, by omega⟩
    have e : o.take i = o := List.take_of_length_le (by omega)
    obtain ⟨t1, t2, t3⟩ := topO_post o (fun x hx => (ho.2 x hx).1)
    have hle : topO o ≤ H.length := by
      rcases t3 with t3 | t3
      · omega
      · exact (ho.2 _ t3).2.1
    simp only [gc_SweepW.l0]
    have hnf : (live H).length ≤ H.length := live_len H
    rw [if_neg (by omega), e, if_pos t1, setsO_len, List.length_replicate, if_pos hle, live_f hg (by omega)]
    simp only [Option.bind_some]
    rw [setsO_swept (fun x hx => (ho.2 x hx).1), sweep_take ho, wr (by omega) (by omega), live_nf]
  | succ d ih =>
    intro k i hd hi hk
    obtain ⟨k, rfl⟩ : ∃ m, k = m + 1 := ⟨k - 1, by omega⟩
    have hlt : i < o.length := by omega
    have h1 := ih k (i + 1) (by omega) (by omega) (by omega)
    have hlv := ho.2 _ (List.getElem_mem hlt)
    have e1 := hlv.1
    have e2 := hlv.2.1
    have hm := hb _ (rd_mem e1 e2)
    simp only [gc_SweepW.l0]
    rw [if_pos (by omega), if_pos (by omega), if_pos (by omega), rd_nat o i hlt, wr (x := o[i] - 1) (by omega) (by omega), if_pos (by omega), if_pos (by omega), api_Value_30.f, if_pos (by omega)]
    simp only [Option.bind_some]
    rw [setsO_len, List.length_replicate, if_pos (by omega), wr (by omega) (by omega), show ((i : Int) + 1) = ((i + 1 : Nat) : Int) by omega]
    rw [List.take_succ_eq_append_getElem hlt, setsO_snoc, topO_app] at h1
    exact h1
theorem sweepW_f {H : List S37} {o : List Int} (hg : Good H) (hl : H.length ≤ 5000) (hb : ∀ x, x ∈ H → x.f1.length ≤ 70000) (ho : InH H o) {k : Nat} (hk : o.length + H.length + 1 < k) : gc_SweepW.f k H o = some (sweptH H o, (nf H : Int) - o.length, 0) := by
  unfold gc_SweepW.f
  rw [if_pos rfl, if_pos (by omega), if_pos (by omega)]
  have := sweepW_l0 hg hl hb ho o.length k 0 (by omega) (by omega) hk
  simpa [setsO, topO] using this
theorem sweep_f {H : List S37} (hg : Good H) (hw : WfH H) {vs : List S41} (hv : WfV vs) (hok : okIn H vs = true) : gc_Sweep.f H vs = some (if chk H = 0 then (sweptH H (trO H vs), (nf H : Int) - (trO H vs).length, 0) else ([], 0, chk H)) := by
  unfold gc_Sweep.f
  rw [if_pos hok, check_f hg]
  simp only [Option.bind_some]
  by_cases hc : chk H = 0
  · obtain ⟨h1, h2⟩ := chk_small hc
    have hin := (trO_post hw hv).1
    have hlen := hin.len
    rw [if_pos hc, if_pos hc, traceO_eq]
    simp only [Option.bind_some]
    exact sweepW_f hg (by omega) (fun x hx => by have := h2 x hx; omega) hin (by omega)
  · rw [if_neg hc, if_neg hc]
/-! ### the reference's -/
theorem z_of {x : S37} (h1 : isFree x = true) (h2 : isOdd x = false) : x = z37 := by
  have h3 := free_words h1 h2
  have h4 := (isFree_iff x).1 h1
  obtain ⟨a, b⟩ := x
  have hb : b = [] := List.eq_nil_of_length_eq_zero h3
  subst hb
  have ha : a = ⟨#[]⟩ := by
    obtain ⟨⟨d⟩⟩ := a
    simp only at h4
    have : (⟨⟨d⟩⟩ : ByteArray).toList = d := by simp
    rw [this] at h4
    rw [h4]
  subst ha
  rfl
theorem nf_app (a b : List S37) : nf (a ++ b) = nf a + nf b := by simp [nf]
theorem nf_one (x : S37) : nf [x] = if isFree x = true then 0 else 1 := by
  by_cases h : isFree x = true
  · simp [nf, h]
  · simp [nf, h]
theorem nf_le (a : List S37) : nf a ≤ a.length := List.countP_le_length
end Go.Proofs.Ytonkfcfpfpaceaa.Q
