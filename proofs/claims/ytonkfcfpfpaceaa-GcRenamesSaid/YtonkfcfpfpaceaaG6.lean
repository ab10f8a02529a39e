/- gc: 'traced' reaches everything. -/
import Derived.Test.YtonkfcfpfpaceaaG5
namespace Go.Proofs.Ytonkfcfpfpaceaa.A.P
open Go.RowKit Go.Shelf Go.Proofs.YtonkfcfpfpaceaaW.PrintWords Go.Proofs.YtonkfcfpfpaceaaW.PrintLast Go.Proofs.YtonkfcfpfpaceaaW.PrintMore
set_option linter.unusedVariables false
set_option linter.unusedSimpArgs false
/-- The number's object is there. -/
def Live (H : List S37) (x : Int) : Prop := 1 ≤ x ∧ x ≤ H.length ∧ isFree (rd_T37 H (x - 1)) = false
/-- What an order holds. -/
def InH (H : List S37) (o : List Int) : Prop := o.Nodup ∧ ∀ x, x ∈ o → Live H x
theorem ldTo_live {H : List S37} {v : S41} {x : Int} (h : ldTo H v = some x) : Live H x ∧ v.f0 = 4 ∧ v.f1 = x := by
  unfold ldTo at h
  split at h
  · rename_i c
    cases h
    exact ⟨⟨c.2.1, c.2.2.1, by simpa using c.2.2.2⟩, c.1, rfl⟩
  · cases h
theorem ldAt_live {H : List S37} {vs : List S41} {j : Nat} {y : Ld vs.length} (h : ldAt H vs j = some y) : ldTo H (rd_T41 vs j) = some y.1.2 ∧ y.1.1 = j := by
  unfold ldAt at h
  cases hl : ldTo H (rd_T41 vs j) with
  | none => rw [hl] at h; cases h
  | some n =>
    rw [hl] at h
    simp only [Option.bind_some] at h
    split at h
    · cases h
      exact ⟨rfl, rfl⟩
    · cases h
theorem lds_live {H : List S37} {vs : List S41} {n : Nat} {x : Int} (h : x ∈ lds (ldUp H vs n)) : Live H x := by
  simp only [lds, ldUp, List.mem_map, List.mem_filterMap, List.mem_range] at h
  obtain ⟨y, ⟨j, _, hy⟩, rfl⟩ := h
  exact (ldTo_live (ldAt_live hy).1).1
theorem addOne_inH {H : List S37} {o : List Int} {x : Int} (h : InH H o) (hx : Live H x) : InH H (addOne o x) := by
  unfold addOne
  split
  · exact h
  · rename_i hn
    refine ⟨?_, fun y hy => ?_⟩
    · rw [List.nodup_append]
      exact ⟨h.1, by simp, fun a ha b hb => by rw [List.mem_singleton] at hb; subst hb; rintro rfl; exact hn ha⟩
    · rcases List.mem_append.1 hy with hy | hy
      · exact h.2 y hy
      · rw [List.mem_singleton] at hy; subst hy; exact hx
theorem addAll_inH {H : List S37} : ∀ (xs o : List Int), InH H o → (∀ x ∈ xs, Live H x) → InH H (addAll o xs)
  | [], o, h, _ => h
  | x :: xs, o, h, hx => addAll_inH xs (addOne o x) (addOne_inH h (hx x (by simp))) (fun y hy => hx y (by simp [hy]))
theorem addL_inH {H : List S37} {o : List Int} (h : InH H o) (vs : List S41) : InH H (addL H o vs) := addAll_inH _ _ h (fun _ hx => lds_live hx)
theorem nodup_le : ∀ (n : Nat) (o : List Int), o.Nodup → (∀ x, x ∈ o → 1 ≤ x ∧ x ≤ (n : Int)) → o.length ≤ n
  | 0, o, _, h => by
    cases o with
    | nil => exact Nat.le_refl _
    | cons x t => have := h x (by simp); omega
  | n + 1, o, hn, h => by
    by_cases hm : ((n + 1 : Nat) : Int) ∈ o
    · have h1 := nodup_le n (o.erase ((n + 1 : Nat) : Int)) (hn.erase _) (fun x hx => by
        have h2 := h x (List.mem_of_mem_erase hx)
        have h3 : x ≠ ((n + 1 : Nat) : Int) := fun e => by
          subst e
          exact (List.Nodup.not_mem_erase hn) hx
        omega)
      rw [List.length_erase_of_mem hm] at h1
      omega
    · have h1 := nodup_le n o hn (fun x hx => by
        have h2 := h x hx
        have h3 : x ≠ ((n + 1 : Nat) : Int) := fun e => hm (e ▸ hx)
        omega)
      omega
theorem InH.len {H : List S37} {o : List Int} (h : InH H o) : o.length ≤ H.length := nodup_le _ _ h.1 (fun x hx => ⟨(h.2 x hx).1, (h.2 x hx).2.1⟩)
/-- The order, when all is reached. -/
def reachF : Nat → List S37 → List Int → Nat → Option (List Int)
  | 0, _, _, _ => none
  | k + 1, H, o, i => if i < o.length then reachF k H (addL H o (rd_T37 H (rd o i - 1)).f1) (i + 1) else some o
def traceO (H : List S37) (vs : List S41) : Option (List Int) := reachF (H.length + 1) H (addL H [] vs) 0
def okV (v : S41) : Bool := (Lit.int .i64 v.f1).wf
def okX (x : S37) : Bool := decide (x.f1.length ≤ 100000000) && x.f1.all okV
def okIn (l0 : List S37) (l1 : List S41) : Bool := decide (l0.length ≤ 100000000) && l0.all okX && decide (l1.length ≤ 100000000) && l1.all okV
/-- What 'traced' leaves. -/
def TrPost (w0 : World) (A0 : Option Addr) (c0 : Nat) (l0 : List S37) (o : List Int) (er : Int) (e : Ending) (w' : World) : Prop :=
  Below w0.heap.size w0 w' ∧ ((er ≠ 0 ∧ e = .returned (.tuple #[.pointer none, .int .i64 er])) ∨ (er = 0 ∧ ∃ T M v, e = .returned (.tuple #[.pointer (some ⟨T, 0, none⟩), .int .i64 0]) ∧ Tr w0.heap.size T M w' A0 l0.length c0 v o))
set_option maxRecDepth 100000 in
set_option maxHeartbeats 4000000 in
theorem traced_any (A0 : Option Addr) (c0 : Nat) (l0 : List S37) (A1 : Option Addr) (c1 : Nat) (l1 : List S41) (w : World) (hr0 : Kd.C k37 w A0 l0.length l0) (hc0 : l0.length ≤ c0) (hr1 : Kd.C k41 w A1 l1.length l1) (hok : okIn l0 l1 = true)
    (er : Int) (o : List Int) (he : heap_Check.f l0 = some er) (ho : er = 0 → traceO l0 l1 = some o) :
    Calls Try.prog 28 #[.slice A0 l0.length c0, .slice A1 l1.length c1] w (TrPost w A0 c0 l0 o er) := by
  simp only [okIn, Bool.and_eq_true, decide_eq_true_eq] at hok
  obtain ⟨⟨⟨hk1, hk2⟩, hk3⟩, hk4⟩ := hok
  have hwf1 : ∀ v : S41, v ∈ l1 → (Lit.int .i64 v.f1).wf = true := fun v hv => List.all_eq_true.1 hk4 v hv
  have hlx : ∀ x : S37, x ∈ l0 → x.f1.length ≤ 100000000 ∧ ∀ v : S41, v ∈ x.f1 → (Lit.int .i64 v.f1).wf = true := fun x hx => by
    have := List.all_eq_true.1 hk2 x hx
    simp only [okX, Bool.and_eq_true, decide_eq_true_eq] at this
    exact ⟨this.1, fun v hv => List.all_eq_true.1 this.2 v hv⟩
  have HCK := Lib.hid (heap_Check.calls A0 c0 l0 er w hr0 hc0 he)
  have HADD := Lib.hid (fun (T M : Nat) (A : Option Addr) (c : Nat) (vs : List S41) (hC : Kd.C k41 w A vs.length vs) (hwf : ∀ v : S41, v ∈ vs → (Lit.int .i64 v.f1).wf = true) (o : List Int) (v0 : Value) (w1 : World) (hB : Below w.heap.size w w1) (htr : Tr w.heap.size T M w1 A0 l0.length c0 v0 o) (hlen : o.length + vs.length < 1000000000) =>
    (callsIn_wide (n := 3)).1 (add_in 3 (Nat.le_refl _) w T M A0 A c0 c l0 vs hC hr0 hwf o v0 w1 hB htr hlen))
  have HLX := Lib.hid hlx
  have HR0 := Aside0.mk hr0
  have HR1 := Aside0.mk hr1
  have HWF1 := Lib.hid hwf1
  have HO := Lib.hid ho
  have hmm := @run_makeMap Try.prog
  clear hr0 hr1 hlx hwf1 ho hk2 hk4 he
  go_enter Try.func28, Try.ntmps28
  go_wp2_with fail
  refine HCK.out.mono ?_
  rintro e w1 ⟨rfl, hb1⟩
  by_cases q0 : er = 0
  · have HO' := Aside0.mk (HO.out q0)
    subst q0
    clear HO HCK
    go_wp2_with fail
    have hm0 := ((World.ownsMap_made w1 Try.prog 3 (plainElem (H := Unit) Try.prog 3)).alloc (.cells #[.slice A0 l0.length c0, .slice none 0 0, .map (some w1.heap.size)] 59))
    have hb2 : Below w.heap.size w ((w1.alloc (.map #[] 0)).alloc (.cells #[.slice A0 l0.length c0, .slice none 0 0, .map (some w1.heap.size)] 59)) := (hb1.alloc hb1.size _).alloc (by have := hb1.size; simp; omega) _
    have hbT := blk_new (w1.alloc (.map #[] 0)) (.cells #[.slice A0 l0.length c0, .slice none 0 0, .map (some w1.heap.size)] 59)
    rw [World.size_alloc] at hbT
    have htr : Tr w.heap.size (w1.heap.size + 1) w1.heap.size ((w1.alloc (.map #[] 0)).alloc (.cells #[.slice A0 l0.length c0, .slice none 0 0, .map (some w1.heap.size)] 59)) A0 l0.length c0 (.slice none 0 0) [] :=
      ⟨by have := hb1.size; omega, hb1.size, hbT, Kd.R_nil _ _ _ _ _, _, hm0, PlaceOk.nil⟩
    generalize (w1.alloc (.map #[] 0)).alloc (.cells #[.slice A0 l0.length c0, .slice none 0 0, .map (some w1.heap.size)] 59) = w2 at *
    refine (HADD.out _ _ A1 c1 l1 HR1.out HWF1.out [] _ w2 hb2 htr (by simp; omega)).mono ?_
    rintro e w3 ⟨rfl, ⟨v3, htr3⟩, hb3⟩
    have HB3 := Aside0.mk (hb2.trans hb3)
    have HTR3 := Aside0.mk htr3
    have HIN3 := Aside0.mk (addL_inH (H := l0) (o := []) ⟨List.nodup_nil, fun _ h => by cases h⟩ l1)
    have HA3 := Aside0.mk (show reachF (l0.length + 1) l0 (addL l0 [] l1) 0 = some o from HO'.out)
    clear hb2 hb3 htr htr3 hm0 hbT HO' HWF1 hb1
    generalize w1.heap.size = M at *
    generalize addL l0 [] l1 = o3 at *
    go_wp2
    go_loopg [8] (l0.length + 1) (fun kq v8 w' => ∃ (i : Nat) (v : Value) (oi : List Int), v8 = .int .i64 (i : Int) ∧ i ≤ 100000001 ∧ Aside0 (reachF kq l0 oi i = some o) ∧ Aside0 (InH l0 oi) ∧ Aside0 (Tr w.heap.size (M + 1) M w' A0 l0.length c0 v oi) ∧ Aside0 (Below w.heap.size w w'))
    case atStart => exact ⟨0, _, _, rfl, by omega, HA3, HIN3, HTR3, HB3⟩
    case round =>
      clear HTR3 HB3 HIN3 HA3
      obtain ⟨i, v, oi, rfl, hi9, HA, HIN, HTR, HB⟩ := hrel
      have hol := HIN.out.len
      obtain ⟨Av, cv, ev⟩ := Kd.R_slice HTR.out.r
      subst ev
      have hT1 := (blk_cell HTR.out.b 1).trans rfl
      cases gk with
      | zero => exact absurd HA.out (by simp [reachF])
      | succ k1 =>
        have H := HA.out
        clear HA
        simp only [reachF] at H
        by_cases q1 : i < oi.length
        · rw [if_pos q1] at H
          have HA := Aside0.mk H
          clear H
          have q1b : decide ((i : Int) < (oi.length : Int)) = true := decide_eq_true (by omega)
          obtain ⟨ad, e1, hx⟩ := Kd.at_int (Kd.R_reads' HTR.out.r).2.2 (i : Int) (by omega) (by omega)
          cases e1
          simp only [Int.toNat_natCast] at hx
          have hlv := HIN.out.2 (rd oi i) (by
            have : rd oi (i : Int) = oi[i] := by simp [rd, List.getD_eq_getElem?_getD, List.getElem?_eq_getElem q1]
            rw [this]
            exact List.getElem_mem q1)
          generalize rd oi (i : Int) = x at *
          obtain ⟨ji, hji⟩ : ∃ ji : Int, Aside0 (x - 1 = ji) := ⟨_, ⟨rfl⟩⟩
          have hj0 : 0 ≤ ji := by have := hji.out; have := hlv.1; omega
          have hj1 : ji < (l0.length : Int) := by have := hji.out; have := hlv.2.1; omega
          have hjw : IntKind.i64.wrap (x - 1) = ji := by rw [IntKind.wrap_i64]; have := hji.out; omega
          have hjw2 : wrap64 (x - 1) = ji := by rw [← i64_w]; exact hjw
          rw [hji.out] at HA
          clear hlv
          obtain ⟨adH, A5, c5, e6, hs0, hs1, hl1, hi1⟩ := at_T37 (Kd.C_below HR0.out HB.out) ji hj0 hj1
          cases e6
          have HC5 := (at_T37 HR0.out ji hj0 hj1)
          obtain ⟨adH', A5', c5', e6', hs0', hs1', hl1', hi1'⟩ := HC5
          cases e6'
          have e55 := hs1.symm.trans ((HB.out.cell (World.block_lt_of_cell? w _ hs1')).trans hs1')
          have hmem : rd_T37 l0 ji ∈ l0 := by
            have hlt : ji.toNat < l0.length := by omega
            simp only [rd_T37, List.getD_eq_getElem?_getD, List.getElem?_eq_getElem hlt, Option.getD_some]
            exact List.getElem_mem hlt
          have HL := HLX.out _ hmem
          injection e55 with e55
          injection e55 with e55 _ e56
          subst e55
          subst e56
          have HI1 := Aside0.mk hi1'
          clear hs0 hs0' hs1' hl1 hl1' hi1 hi1' hmem
          generalize (rd_T37 l0 ji).f1 = vs at *
          go_wp2_with fail
          refine (HADD.out _ _ A5 c5 vs HI1.out HL.2 oi _ _ HB.out HTR.out (by have := HL.1; omega)).mono ?_
          rintro e w3 ⟨rfl, ⟨v3, htr3⟩, hb3⟩
          go_wp2
          go_roundg k1
          case measure => omega
          case rel => exact ⟨i + 1, v3, addL l0 oi vs, by first | rfl | simp, by omega, HA, ⟨addL_inH HIN.out vs⟩, ⟨htr3⟩, ⟨HB.out.trans hb3⟩⟩
        · rw [if_neg q1] at H
          have q1b : decide ((i : Int) < (oi.length : Int)) = false := decide_eq_false (by omega)
          cases H
          go_wp2
          go_ret2
          exact ⟨HB.out, .inr ⟨rfl, _, _, _, rfl, HTR.out⟩⟩
  · have q0b : (er != 0) = true := by simpa using q0
    have HQ := Aside0.mk q0
    clear q0
    go_wp2
    go_ret2
    exact ⟨hb1, .inl ⟨HQ.out, rfl⟩⟩
end Go.Proofs.Ytonkfcfpfpaceaa.A.P
