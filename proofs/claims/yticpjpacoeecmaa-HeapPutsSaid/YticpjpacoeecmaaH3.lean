/- heap.Set: what a call comes to. -/
import Derived.Test.YticpjpacoeecmaaAx8
namespace Go.Proofs.Yticpjpacoeecmaa.A.P
open Go.RowKit Go.Proofs.YticpjpacoeecmaaW.PrintWords Go.Proofs.YticpjpacoeecmaaW.PrintLast Go.Proofs.YticpjpacoeecmaaW.PrintMore Go.Proofs.Yticpjpacoeecmaa.C
set_option linter.unusedVariables false
set_option linter.unusedSimpArgs false
/-- A row in a block that is known whole. -/
theorem made_N2 {α : Type} {d : Kd α} {w2 : World} {base e g : Nat} {ok : Nat → Prop} {xs : List α} {inner : List Value} (hb : base ≤ g) (hg : w2.heap[g]? = some (.cells inner.toArray e (0, 0))) (hm : xs.length ≤ 9223372036854775807)
    (hr : Reps (fun x c => Kd.FK d w2 (fun k => ok k ∧ k ≠ g) x c) d.sz xs inner) (hok : ok g) : Kd.N d e w2 base ok (.slice (some ⟨g, 0, none⟩) xs.length xs.length) xs := by
  have how : w2.ownsRow base e d.sz (.slice (some ⟨g, 0, none⟩) xs.length xs.length) xs.length inner :=
    ⟨hr.1, .inr ⟨g, xs.length, inner.toArray, rfl, hb, hg, Nat.le_refl _, by simpa [maxLen] using hm, by simpa using hr.1, by rw [← hr.1]; simp⟩⟩
  refine ⟨fun k hk => ?_, Kd.chunks d.sz xs.length inner, Kd.chunks_length _ _ _, ⟨fun k hk => hk.symm, inner, by rw [Kd.chunks_length]; exact how, Kd.reps_raw hr (fun x c hp => ⟨d.K_len (Kd.FK_now hp), d.K_one (Kd.FK_now hp)⟩)⟩, fun j x c hx hc => ?_⟩
  · have : g = k := by simpa [Value.ownBlock] using hk
    subst this
    exact hok
  · rw [Kd.chunks_get hc]
    exact Kd.FK_mono (hr.2 j x hx) (fun k hk => ⟨hk.1, fun he => hk.2 (by simpa [Value.ownBlock] using he)⟩)
/-- One element of two cells is written. -/
theorem reps_set2 {α : Type} {R R' : α → List Value → Prop} {xs : List α} {cs : List Value} {j : Nat} {x' : α} {a b : Value} (hr : Reps R 2 xs cs) (hj : j < xs.length) (hR : ∀ i p c, i ≠ j → xs[i]? = some p → R p c → R' p c) (h' : R' x' [a, b]) :
    Reps R' 2 (xs.set j x') ((cs.set (j * 2) a).set (j * 2 + 1) b) := by
  have hl := hr.1
  refine ⟨by simp [hl], fun i p hp => ?_⟩
  have hil : i < xs.length := by have := (List.getElem?_eq_some_iff.1 hp).1; simpa using this
  by_cases hij : i = j
  · subst hij
    have : x' = p := by simpa [List.getElem?_set, hil] using hp
    subst this
    have he : (((cs.set (i * 2) a).set (i * 2 + 1) b).drop (i * 2)).take 2 = [a, b] := by
      apply List.ext_getElem?
      intro q
      rcases q with _ | _ | q
      · rw [List.getElem?_take_of_lt (by omega), List.getElem?_drop]; simp [List.getElem?_set, hl]; omega
      · rw [List.getElem?_take_of_lt (by omega), List.getElem?_drop]; simp [List.getElem?_set, hl]; omega
      · rw [List.getElem?_eq_none (by simp; omega), List.getElem?_eq_none (by simp)]
    rw [he]; exact h'
  · have hp' : xs[i]? = some p := by simpa [List.getElem?_set, Ne.symm hij] using hp
    have he : (((cs.set (j * 2) a).set (j * 2 + 1) b).drop (i * 2)).take 2 = (cs.drop (i * 2)).take 2 := by
      apply List.ext_getElem?
      intro q
      by_cases hq : q < 2
      · rw [List.getElem?_take_of_lt hq, List.getElem?_take_of_lt hq, List.getElem?_drop, List.getElem?_drop, List.getElem?_set_ne (by omega), List.getElem?_set_ne (by omega)]
      · rw [List.getElem?_eq_none (by simp; omega), List.getElem?_eq_none (by simp; omega)]
    rw [he]
    exact hR i p _ hij hp' (hr.2 i p hp')
def heap_Set.f (l0 : List S40) (a1 a2 a3_0 a3_1 : Int) : Option (List S40 × Int) :=
  (heap_Word.f l0 a1 a2).bind fun t => if t.2.2 = 0 then (if t.1 = a3_0 then (if l0.length ≤ 1000000 ∧ (rd_T40 l0 (a1 - 1)).f1.length ≤ 1000000 ∧ 1 ≤ a1 ∧ a1 ≤ l0.length ∧ 0 ≤ a2 ∧ a2 < (rd_T40 l0 (a1 - 1)).f1.length
    then some (l0.set (a1 - 1).toNat ⟨(rd_T40 l0 (a1 - 1)).f0, (rd_T40 l0 (a1 - 1)).f1.set a2.toNat ⟨a3_0, a3_1⟩⟩, 0) else none) else some ([], 150)) else some ([], 150)
set_option maxHeartbeats 4000000 in
theorem heap_Set.calls (P0_ : Nat → Prop) (A0 : Option Addr) (c0 : Nat) (l0 : List S40) (a1 a2 a3_0 a3_1 : Int) (r1 : List S40) (r2 : Int) (w : World) (hs0 : Kd.V k40 40 w w.heap.size (fun k_ => P0_ k_) (.slice A0 l0.length c0) l0) (h : heap_Set.f l0 a1 a2 a3_0 a3_1 = some (r1, r2)) :
    Calls Try.prog 11 #[.slice A0 l0.length c0, .int .i64 a1, .int .i64 a2, .agg #[.int .i64 a3_0, .int .i64 a3_1]] w fun e w' => ∃ v0_ : Value, e = .returned (.tuple #[v0_, .int .i64 r2]) ∧ Kd.V k40 40 w' w.heap.size (fun k_ => (P0_ k_ ∨ w.heap.size ≤ k_)) v0_ r1 ∧ Below w.heap.size w w' := by
  unfold heap_Set.f at h
  obtain ⟨⟨t0, t1, t2⟩, ht, h⟩ := Option.bind_eq_some_iff.1 h
  obtain ⟨_, hlen0, hC0⟩ := Kd.V_reads' hs0
  have HW := Lib.hid (fun w' (hb : Below w.heap.size w w') => heap_Word.calls A0 c0 l0 a1 a2 t0 t1 t2 w' (Kd.C_below hC0 hb) hlen0 ht)
  have HBX := Aside0.mk (below_alloc (Below.refl w.heap.size w) (.cells #[.int .i64 a3_0, .int .i64 a3_1] 24))
  have HBK := Aside0.mk (blk_new w (.cells #[.int .i64 a3_0, .int .i64 a3_1] 24))
  clear ht
  by_cases e1 : t2 = 0
  · rw [if_pos e1] at h
    have d1 : (t2 != 0) = false := bne_eq_false_iff_eq.mpr e1
    have E1 := Aside0.mk e1
    clear e1
    by_cases e2 : t0 = a3_0
    · rw [if_pos e2] at h
      have d2 : (t0 != a3_0) = false := bne_eq_false_iff_eq.mpr e2
      clear e2
      split at h
      case isFalse => simp at h
      case isTrue hc =>
        simp only [Option.some.injEq, Prod.mk.injEq] at h
        obtain ⟨rfl, rfl⟩ := h
        obtain ⟨hm, hfm, ha1, ha2, hk0, hk1⟩ := hc
        obtain ⟨inner, hr, hcA⟩ := inner_of (Kd.F_rows (Kd.V_F hs0))
        have HL := Aside0.mk (show inner.length = l0.length * 2 from hr.1)
        have HM := Aside0.mk hm
        have H1 := Lib.hid (reps_one hr (by decide) (fun x c hx u hu => k40.K_one (Kd.FK_now hx) u hu))
        have HCP := Lib.hid (fun w' (hb : Below w.heap.size w w') => (copied40 A0 c0 l0.length inner w' hr.1 hm (fun hp => (hcA hp).elim fun ad h => ⟨ad, h.1, fun q v hq => pw_cell_below hb (h.2 q v hq)⟩) H1.out).mono (R' := fun e w2 => ∃ g, e = .returned (.slice (some ⟨g, 0, none⟩) l0.length l0.length) ∧ w2.heap[g]? = some (.cells inner.toArray 40 (0, 0)) ∧ w'.heap.size ≤ g ∧ Below w'.heap.size w' w2) (fun e w2 h => ⟨_, h.1, h.2.1, Nat.le_refl _, h.2.2.1⟩))
        obtain ⟨ji, hji⟩ : ∃ ji : Int, Aside0 (a1 - 1 = ji) := ⟨_, ⟨rfl⟩⟩
        have hjiw : IntKind.i64.wrap (a1 - 1) = ji := by rw [IntKind.wrap_i64, ← hji.out]; omega
        have hj0 : 0 ≤ ji := by rw [← hji.out]; omega
        have hj1 : ji < (l0.length : Int) := by rw [← hji.out]; omega
        have hjl : ji.toNat < l0.length := by omega
        have hx := hr.2 ji.toNat _ (List.getElem?_eq_getElem hjl)
        rw [hji.out] at hfm hk1 ⊢
        have hrd : rd_T40 l0 ji = l0[ji.toNat] := by simp only [rd_T40, List.getD_eq_getElem?_getD, List.getElem?_eq_getElem hjl, Option.getD_some]
        rw [← hrd] at hx
        obtain ⟨x, hxx⟩ : ∃ x, Aside0 (rd_T40 l0 ji = x) := ⟨_, ⟨rfl⟩⟩
        rw [hxx.out] at hx hfm hk1 ⊢
        obtain ⟨s, ws⟩ := x
        simp only at hfm hk1 ⊢
        obtain ⟨A1, c1, hcs, hl1, hF1⟩ := k40_openF hx
        simp only at hcs hl1 hF1
        replace hcs : (inner.drop (ji.toNat * 2)).take 2 = [.string s, .slice A1 ws.length c1] := hcs
        have hi0 : inner[ji.toNat * 2]? = some (.string s) := by
          have := congrArg (fun l => l[0]?) hcs
          simpa [List.getElem?_take, List.getElem?_drop] using this
        have hi1 : inner[ji.toNat * 2 + 1]? = some (.slice A1 ws.length c1) := by
          have := congrArg (fun l => l[1]?) hcs
          simpa [List.getElem?_take, List.getElem?_drop] using this
        have HI0 := Aside0.mk hi0
        have HI1 := Aside0.mk hi1
        have HOWN := Lib.hid (fun w' (hb : Below w.heap.size w w') => heap_own.calls s A1 c1 ws s ws w' (Kd.C_below (Kd.F_now hF1) hb) hl1 (by simp [heap_own.f, api_Value_43.f, hfm]))
        have HRR := Lib.hid hr
        have hwl : 0 < ws.length := by omega
        clear hi0 hi1 hcs hr hcA hrd hx hxx hm hjl hl1 hF1 hfm
        go_enter Try.func11, Try.ntmps11
        go_wp2_with fail
        refine (HW.out _ HBX.out).mono ?_
        rintro e w1 ⟨rfl, hb⟩
        have HB1 := Aside0.mk (below_then HBX.out HBX.out.size hb)
        have BK1 := Aside0.mk (blk_below HBK.out hb)
        have hz1 : w.heap.size < w1.heap.size := by have := hb.size; simp at this; omega
        have hc0 : w1.cell? ⟨w.heap.size, 0, none⟩ = some (.int .i64 a3_0) := (blk_cell BK1.out 0).trans rfl
        have hc1 : w1.cell? ⟨w.heap.size, 1, none⟩ = some (.int .i64 a3_1) := (blk_cell BK1.out 1).trans rfl
        clear hb
        go_wp2_with fail
        refine (HCP.out _ (by repeat (first | exact HB1.out | apply below_alloc))).mono ?_
        rintro e w2 ⟨g, rfl, hg, hgle, hb⟩
        have HB2 := Aside0.mk (below_then (show Below w.heap.size w (w1.alloc _) by repeat (first | exact HB1.out | apply below_alloc)) (by have := HB1.out.size; simp; omega) hb)
        have BK2 := Aside0.mk (blk_below (blk_alloc BK1.out _) hb)
        have HG2 := Aside0.mk hg
        have hgw : w.heap.size < g := by simp at hgle; omega
        clear hc0 hc1 hb hg hgle hz1
        have hx0 : w2.cell? ⟨g, ji.toNat * 2, none⟩ = some (.string s) := (blk_cell HG2.out _).trans (by simpa using HI0.out)
        have hx1 : w2.cell? ⟨g, ji.toNat * 2 + 1, none⟩ = some (.slice A1 ws.length c1) := (blk_cell HG2.out _).trans (by simpa using HI1.out)
        go_wp2_with fail
        refine (HOWN.out _ HB2.out).mono ?_
        rintro e w3 ⟨v1, rfl, hR, hb⟩
        obtain ⟨g2, cap2, rfl, hg2, hg2l, cl2, hcl2⟩ := Kd.R_form hR hwl
        have HB3 := Aside0.mk (below_then HB2.out HB2.out.size hb)
        have BK3 := Aside0.mk (blk_below BK2.out hb)
        have HG3 := Aside0.mk (blk_below HG2.out hb)
        have HR3 := Aside0.mk hR
        have hgg : g < g2 := by have := blk_lt HG2.out; omega
        clear hx0 hx1 hb hR hcl2
        have hx0 : w3.cell? ⟨g, ji.toNat * 2, none⟩ = some (.string s) := (blk_cell HG3.out _).trans (by simpa using HI0.out)
        have hx1 : w3.cell? ⟨g, ji.toNat * 2 + 1, none⟩ = some (.slice A1 ws.length c1) := (blk_cell HG3.out _).trans (by simpa using HI1.out)
        have hf0 := blk_frozen HG3.out (ji.toNat * 2)
        have hf1 := blk_frozen HG3.out (ji.toNat * 2 + 1)
        go_wp2_with fail
        obtain ⟨w4, hw4⟩ : ∃ w4, Aside0 (w4 = (w3.setCell ⟨g, ji.toNat * 2, none⟩ (.string s)).setCell ⟨g, ji.toNat * 2 + 1, none⟩ (.slice (some ⟨g2, 0, none⟩) ws.length cap2)) := ⟨_, ⟨rfl⟩⟩
        rw [← hw4.out]
        have BK4 := Aside0.mk (show w4.heap[w.heap.size]? = some (.cells #[.int .i64 a3_0, .int .i64 a3_1] 24 (0, 0)) by rw [hw4.out]; exact blk_far (blk_far BK3.out (by simp <;> omega) _) (by simp <;> omega) _)
        have HG4 := Aside0.mk (show w4.heap[g]? = some (.cells ((inner.set (ji.toNat * 2) (.string s)).set (ji.toNat * 2 + 1) (.slice (some ⟨g2, 0, none⟩) ws.length cap2)).toArray 40 (0, 0)) by
          rw [hw4.out]; exact blk_put (blk_put HG3.out _ _ (by simp; rfl)) _ _ (by simp))
        have HB4 := Aside0.mk (show Below w.heap.size w w4 by rw [hw4.out]; exact below_set (below_set HB3.out (by omega)) (by omega))
        have HR4 := Aside0.mk (show Kd.R k24 24 w4 w2.heap.size (fun k => True ∧ w2.heap.size ≤ k) (.slice (some ⟨g2, 0, none⟩) ws.length cap2) ws by
          rw [hw4.out]
          have hgl : g < w2.heap.size := blk_lt HG2.out
          exact Kd.R_far (Kd.R_far (Kd.R_mono (Kd.R_bound HR3.out) (fun k hk => ⟨trivial, hk.2.1⟩)) (fun k hk => by simp <;> omega) _) (fun k hk => by simp <;> omega) _)
        clear hx0 hx1 hf0 hf1 hw4 HR3
        have hx1 : w4.cell? ⟨g, ji.toNat * 2 + 1, none⟩ = some (.slice (some ⟨g2, 0, none⟩) ws.length cap2) := (blk_cell HG4.out _).trans (by rw [List.getElem?_toArray, List.getElem?_set_self (by rw [List.length_set, HL.out]; omega)])
        have hc0 : w4.cell? ⟨w.heap.size, 0, none⟩ = some (.int .i64 a3_0) := (blk_cell BK4.out 0).trans rfl
        have hc1 : w4.cell? ⟨w.heap.size, 1, none⟩ = some (.int .i64 a3_1) := (blk_cell BK4.out 1).trans rfl
        obtain ⟨ce, hcl, hM, hcc, hfr⟩ := Kd.R_elem HR4.out z24 a2 hk0 hk1
        obtain rfl := k24_openM hM
        have HSEG := Lib.hid (Kd.R_seg HR4.out a2 hk0 hk1 (seg := [.int .i64 a3_0, .int .i64 a3_1]) (j := 0) (x' := (⟨a3_0, a3_1⟩ : S24)) (okp := fun _ => False) hcl hcc (Nat.le_refl _) (k24_mkM _ _ _ ⟨a3_0, a3_1⟩) (fun _ h => h.elim))
        have hy0 : w4.cell? ⟨g2, a2.toNat * 2, none⟩ = some (.int .i64 (ws.getD a2.toNat z24).f0) := hcc 0 _ rfl
        have hy1 : w4.cell? ⟨g2, a2.toNat * 2 + 1, none⟩ = some (.int .i64 (ws.getD a2.toNat z24).f1) := hcc 1 _ rfl
        have hf0 : w4.frozen? ⟨g2, a2.toNat * 2, none⟩ = false := hfr 0
        have hf1 : w4.frozen? ⟨g2, a2.toNat * 2 + 1, none⟩ = false := hfr 1
        clear hM hcl hcc hfr
        go_region
        go_wp2
        go_ret2
        have HB5 : Below w.heap.size w (((w4.setCell ⟨g2, a2.toNat * 2, none⟩ (.int .i64 a3_0)).setCell ⟨g2, a2.toNat * 2 + 1, none⟩ (.int .i64 a3_1)).drew) := below_drew (below_set (below_set HB4.out (by omega)) (by omega))
        have HG5 : (((w4.setCell ⟨g2, a2.toNat * 2, none⟩ (.int .i64 a3_0)).setCell ⟨g2, a2.toNat * 2 + 1, none⟩ (.int .i64 a3_1)).drew).heap[g]? = _ := blk_drew (blk_far (blk_far HG4.out (by simp <;> omega) _) (by simp <;> omega) _)
        have HR5 := Kd.R_drew (show Kd.R k24 24 ((w4.setCell ⟨g2, a2.toNat * 2, none⟩ (.int .i64 a3_0)).setCell ⟨g2, a2.toNat * 2 + 1, none⟩ (.int .i64 a3_1)) w2.heap.size (fun k => True ∧ w2.heap.size ≤ k) (.slice (some ⟨g2, 0, none⟩) ws.length cap2) (ws.set a2.toNat ⟨a3_0, a3_1⟩) from HSEG.out.1)
        have hcap := (Kd.R_reads' HR5).2.1
        have hlg : g < w2.heap.size := blk_lt HG2.out
        have hws := HB2.out.size
        refine ⟨.slice (some ⟨g, 0, none⟩) l0.length l0.length, by rw [E1.out]; rfl, ?_, HB5⟩
        have hll : (l0.set ji.toNat (⟨s, ws.set a2.toNat ⟨a3_0, a3_1⟩⟩ : S40)).length = l0.length := List.length_set
        have hN := made_N2 (d := k40) (e := 40) (ok := fun k => P0_ k ∨ w.heap.size ≤ k) (xs := l0.set ji.toNat (⟨s, ws.set a2.toNat ⟨a3_0, a3_1⟩⟩ : S40)) (base := w.heap.size) (by omega) HG5 (by rw [hll]; have := HM.out; omega)
          (reps_set2 HRR.out (by omega) (fun i p c hne hp hc => Kd.FK_mono (Kd.FK_step (Kd.FK_bound hc) (fun k hk hlt => HB5.block k hlt)) (fun k hk => ⟨.inl hk.1, by have := hk.2; omega⟩))
            (by
              have hFF := k40_mkF (((w4.setCell ⟨g2, a2.toNat * 2, none⟩ (.int .i64 a3_0)).setCell ⟨g2, a2.toNat * 2 + 1, none⟩ (.int .i64 a3_1)).drew) (fun k => (P0_ k ∨ w.heap.size ≤ k) ∧ k ≠ g) (⟨s, ws.set a2.toNat ⟨a3_0, a3_1⟩⟩ : S40) (A1 := some ⟨g2, 0, none⟩) (c1 := cap2) (by simpa using hcap)
                (by rw [show (ws.set a2.toNat (⟨a3_0, a3_1⟩ : S24)).length = ws.length from List.length_set]; exact Kd.F_mono (Kd.R_F HR5) (fun k hk => ⟨.inr (by have := hk.2; omega), by have := hk.2; omega⟩))
              rw [show (⟨s, ws.set a2.toNat ⟨a3_0, a3_1⟩⟩ : S40).f1.length = ws.length from List.length_set] at hFF
              exact hFF)) (.inr (by omega))
        rw [hll] at hN
        exact Kd.N_V hN
    · rw [if_neg e2] at h
      have d2 : (t0 != a3_0) = true := bne_iff_ne.mpr e2
      clear e2
      simp only [Option.some.injEq, Prod.mk.injEq] at h
      obtain ⟨rfl, rfl⟩ := h
      go_enter Try.func11, Try.ntmps11
      go_wp2_with fail
      refine (HW.out _ HBX.out).mono ?_
      rintro e w1 ⟨rfl, hb⟩
      have HB1 := Aside0.mk (below_then HBX.out HBX.out.size hb)
      have BK1 := Aside0.mk (blk_below HBK.out hb)
      have hz1 : w.heap.size < w1.heap.size := by have := hb.size; simp at this; omega
      have hc0 : w1.cell? ⟨w.heap.size, 0, none⟩ = some (.int .i64 a3_0) := (blk_cell BK1.out 0).trans rfl
      have hc1 : w1.cell? ⟨w.heap.size, 1, none⟩ = some (.int .i64 a3_1) := (blk_cell BK1.out 1).trans rfl
      clear hb
      go_wp2
      go_ret2
      exact ⟨_, rfl, Kd.V_nil _ _ _ _ _, by repeat (first | exact HB1.out | apply below_alloc)⟩
  · rw [if_neg e1] at h
    have d1 : (t2 != 0) = true := bne_iff_ne.mpr e1
    clear e1
    simp only [Option.some.injEq, Prod.mk.injEq] at h
    obtain ⟨rfl, rfl⟩ := h
    go_enter Try.func11, Try.ntmps11
    go_wp2_with fail
    refine (HW.out _ HBX.out).mono ?_
    rintro e w1 ⟨rfl, hb⟩
    have HB1 := Aside0.mk (below_then HBX.out HBX.out.size hb)
    clear hb
    go_wp2
    go_ret2
    exact ⟨_, rfl, Kd.V_nil _ _ _ _ _, by repeat (first | exact HB1.out | apply below_alloc)⟩
end Go.Proofs.Yticpjpacoeecmaa.A.P
