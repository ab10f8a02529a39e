/- gc: 'add' reaches what values lead to. -/
import Derived.Test.YtonkfcfpfpaceaaG4
namespace Go.Proofs.Ytonkfcfpfpaceaa.A.P
open Go.RowKit Go.Shelf Go.Proofs.YtonkfcfpfpaceaaW.PrintWords Go.Proofs.YtonkfcfpfpaceaaW.PrintLast Go.Proofs.YtonkfcfpfpaceaaW.PrintMore
set_option linter.unusedVariables false
set_option linter.unusedSimpArgs false
attribute [local go_sem] Oper.semAt_some
theorem grownNone {W W1 : World} (hb : Below W.heap.size W W1) : W.grownBy W1 none := ⟨hb.os, hb.tape, hb.output, hb.size, fun k hk _ => hb.block k hk⟩
theorem grownSet (W : World) (p : Addr) (v : Value) : W.grownBy (W.setCell p v) (some p.block) :=
  ⟨rfl, rfl, rfl, (KeepsWalks.setCell W _ v).size, fun k _ hk => Below.heap_setCell _ _ _ k (fun e => hk (by rw [e]))⟩
theorem map_obj {W : World} {P : Program} {k : TypeId} {R : Value → Option (DataW Unit × List MemPlace)} {b n : Nat} {D : DataW Unit} (h : W.ownsMap P k R b n D) : ∃ es ck, W.heap[b]? = some (.map es ck) := by
  obtain ⟨es, ck, hb, _⟩ := h
  exact ⟨es, ck, hb⟩
theorem ne_map {W : World} {g M : Nat} {cs : Array Value} {t : TypeId} {z : Nat × Nat} (h : W.heap[g]? = some (.cells cs t z)) (hm : ∃ es ck, W.heap[M]? = some (.map es ck)) : some g ≠ some M := by
  rintro e
  cases e
  obtain ⟨es, ck, hm⟩ := hm
  rw [h] at hm
  cases hm
theorem row_ne_map {α : Type} {d : Kd α} {e base M : Nat} {ok : Nat → Prop} {W : World} {v : Value} {xs : List α} (h : Kd.R d e W base ok v xs) (hm : ∃ es ck, W.heap[M]? = some (.map es ck)) : some M ≠ v.ownBlock := by
  intro e'
  obtain ⟨inner, ho⟩ := Kd.R_own h
  obtain ⟨cells, hc⟩ := own_typed ho M e'.symm
  obtain ⟨es, ck, hm⟩ := hm
  rw [hc] at hm
  cases hm
section
variable {n₀ T M : Nat} {W W1 : World} {AH : Option Addr} {nh ch : Nat} {v : Value} {o : List Int}
theorem Tr.grown (h : Tr n₀ T M W AH nh ch v o) {row : Option Nat} (hg : W.grownBy W1 row) (hc : ∀ k, row = some k → ∃ ob : Obj, W.heap[k]? = some ob ∧ ob.isCells = false) (hM : some M ≠ row) : Tr n₀ T M W1 AH nh ch v o := by
  obtain ⟨h1, h2, hb, hr, D, hd, hp⟩ := h
  refine ⟨h1, h2, blk_grown hb hg (fun e => ?_), Kd.R_mono (Kd.R_grown (Kd.R_bound hr) hg (fun k hk e => ?_)) (fun _ _ => trivial), D, hd.kept hg hM, hp⟩
  · obtain ⟨ob, ho, hn⟩ := hc T e.symm
    rw [show W.heap[T]? = _ from hb] at ho
    cases ho
    cases hn
  · obtain ⟨_, _, _, q, _, cells, hk⟩ := hk
    obtain ⟨ob, ho, hn⟩ := hc k e.symm
    rw [hk] at ho
    cases ho
    cases hn
theorem Tr.below (h : Tr n₀ T M W AH nh ch v o) (hb : Below W.heap.size W W1) : Tr n₀ T M W1 AH nh ch v o := h.grown (grownNone hb) (fun k e => by cases e) (fun e => by cases e)
theorem Tr.mlt (h : Tr n₀ T M W AH nh ch v o) : M < W.heap.size := by
  obtain ⟨D, hd, _⟩ := h.p
  exact hd.lt
end
theorem addAll_hit {o pre : List Int} {x : Int} (h : x ∈ addAll o pre) : addAll o (pre ++ [x]) = addAll o pre := by rw [addAll_snoc, addOne, if_pos h]
theorem addAll_new {o pre : List Int} {x : Int} (h : x ∉ addAll o pre) : addAll o (pre ++ [x]) = addAll o pre ++ [x] := by rw [addAll_snoc, addOne, if_neg h]
theorem lds_snoc {n : Nat} (pre : List (Ld n)) (x : Ld n) : lds (pre ++ [x]) = lds pre ++ [x.1.2] := by simp [lds]
/-- What a round does to the trace. -/
theorem add_world {B0 T M Bx Bt Bl : Nat} {ob : List Int} {x : Int} {W w1 : World} {AH A : Option Addr} {nh ch nv c : Nat} {v v1 : Value} {pT : Value} (htr : Tr B0 T M W AH nh ch v ob) (hx : x ∉ ob) (hxw : (Lit.int .i64 x).wf = true) (hlen : ob.length < 1000000000)
    (hbx : Boxed W Bx 54 pT) (hbt : Boxed W Bt 54 pT) (hbl : Boxed W Bl 23 (.slice A nv c)) (hBB : B0 ≤ W.heap.size)
    (hR1 : Kd.R (Kd.int .i64) 3 w1 B0 (fun _ => True) v1 (ob ++ [x])) (hb1 : Below B0 W w1) (hg1 : W.drew.grownBy w1 v.ownBlock) :
    ∃ w3, (Instr.mapUpdate 57 (.map (some M)) (.int .i64 x) (.int .i64 ((ob.length : Int) + 1))).run Try.prog (w1.setCell ⟨T, 1, none⟩ v1).drew = .ok () w3 ∧
      Boxed w3 Bx 54 pT ∧ Boxed w3 Bt 54 pT ∧ Boxed w3 Bl 23 (.slice A nv c) ∧ Tr B0 T M w3 AH nh ch v1 (ob ++ [x]) ∧ Below B0 W w3 ∧
      (∀ B, M < B → KeepsFrom B W w3) ∧ w3.cell? ⟨T, 0, none⟩ = some (.slice AH nh ch) ∧ w3.cell? ⟨Bt, 0, none⟩ = some pT ∧ w3.cell? ⟨Bl, 0, none⟩ = some (.slice A nv c) := by
  obtain ⟨h1, h2, hb, hr, D, hd, hp⟩ := htr
  have hm0 := map_obj hd
  have hT1 : TrB w1 T M AH nh ch v := blk_grown (w := W.drew) hb hg1 (Kd.R_ne hr hb (by decide))
  have hbx1 : Boxed w1 Bx 54 pT := hbx.kept (W := W.drew) hg1 (Kd.R_ne hr hbx (by decide))
  have hbt1 : Boxed w1 Bt 54 pT := hbt.kept (W := W.drew) hg1 (Kd.R_ne hr hbt (by decide))
  have hbl1 : Boxed w1 Bl 23 (.slice A nv c) := hbl.kept (W := W.drew) hg1 (Kd.R_ne hr hbl (by decide))
  have hd1 := hd.drew.kept hg1 (row_ne_map hr hm0)
  have hgs := grownSet w1 ⟨T, 1, none⟩ v1
  have hd2 := hd1.kept hgs (fun e => ne_map hT1 (map_obj hd1) e.symm)
  have hT2 : TrB (w1.setCell ⟨T, 1, none⟩ v1) T M AH nh ch v1 := blk_put hT1 1 v1 rfl
  have hbx2 : Boxed (w1.setCell ⟨T, 1, none⟩ v1) Bx 54 pT := blk_far hbx1 (blk_ne (g' := T) hbx1 hT1 (by decide)) v1
  have hbt2 : Boxed (w1.setCell ⟨T, 1, none⟩ v1) Bt 54 pT := blk_far hbt1 (blk_ne (g' := T) hbt1 hT1 (by decide)) v1
  have hbl2 : Boxed (w1.setCell ⟨T, 1, none⟩ v1) Bl 23 (.slice A nv c) := blk_far hbl1 (blk_ne (g' := T) hbl1 hT1 (by decide)) v1
  have hR2 : Kd.R (Kd.int .i64) 3 (w1.setCell ⟨T, 1, none⟩ v1) B0 (fun _ => True) v1 (ob ++ [x]) := Kd.R_set hR1 hT1 (by decide) 1 v1
  have hwn : (Lit.int .i64 ((ob.length : Int) + 1)).wf = true := by
    simp only [Lit.wf, Bool.and_eq_true, decide_eq_true_eq]
    have e1 : IntKind.i64.min = -9223372036854775808 := rfl
    have e2 : IntKind.i64.max = 9223372036854775807 := rfl
    omega
  obtain ⟨w3, hrun, hown3, hg3⟩ := hd2.drew.update (Maps.int_keyed Try.underlying3) Try.underlying57 (show ob.length < maxLen by have : maxLen = 9223372036854775807 := rfl; omega) (Maps.keyOf_int_mk Try.underlying3 hxw) (plainElem_int Try.underlying3 hwn)
  have hm2 := map_obj hd2
  have hbx3 : Boxed w3 Bx 54 pT := hbx2.kept (W := (w1.setCell ⟨T, 1, none⟩ v1).drew) hg3 (ne_map hbx2 hm2)
  have hbt3 : Boxed w3 Bt 54 pT := hbt2.kept (W := (w1.setCell ⟨T, 1, none⟩ v1).drew) hg3 (ne_map hbt2 hm2)
  have hbl3 : Boxed w3 Bl 23 (.slice A nv c) := hbl2.kept (W := (w1.setCell ⟨T, 1, none⟩ v1).drew) hg3 (ne_map hbl2 hm2)
  have hT3 : TrB w3 T M AH nh ch v1 := blk_grown (w := (w1.setCell ⟨T, 1, none⟩ v1).drew) hT2 hg3 (ne_map hT2 hm2)
  have hR3 : Kd.R (Kd.int .i64) 3 w3 B0 (fun _ => True) v1 (ob ++ [x]) := Kd.R_mono (Kd.R_grown (w := (w1.setCell ⟨T, 1, none⟩ v1).drew) (Kd.R_bound hR2) hg3 (fun k hk e => by
    obtain ⟨_, _, _, q, _, cells, hk⟩ := hk
    exact ne_map hk hm2 e)) (fun _ _ => trivial)
  have hmb : M < W.heap.size := hd.lt
  refine ⟨w3, hrun, hbx3, hbt3, hbl3, ⟨h1, h2, hT3, hR3, _, by rw [List.length_append]; exact hown3, hp.put hx⟩, ?_, fun B hB => ?_, (blk_cell hT3 0).trans rfl, hbt3.cell, hbl3.cell⟩
  · exact ((hb1.setCell (p := ⟨T, 1, none⟩) h1 v1).drew).grown hg3 (by have := hb1.size; have := (KeepsWalks.setCell w1 ⟨T, 1, none⟩ v1).size; exact Nat.le_trans hBB (Nat.le_trans hb1.size this)) (fun k e => by cases e; exact h2)
  · refine KeepsFrom.trans (((KeepsOthers.drew W).trans (KeepsOthers.of_grownBy hg1 (fun j oo e hj => ?_))).from B) (((KeepsOthers.setCell w1 ⟨T, 1, none⟩ v1).trans (KeepsOthers.drew _)).from B |>.trans (KeepsFrom.of_grownBy hg3 (fun j e => by cases e; exact hB)))
    obtain ⟨inner, ho⟩ := Kd.R_own hr
    obtain ⟨cells, hcc⟩ := own_typed ho j e
    rw [show W.drew.heap[j]? = _ from hcc] at hj
    cases hj
    rfl
set_option maxRecDepth 100000 in
set_option maxHeartbeats 4000000 in
theorem add_in (n : Nat) (hn : 3 ≤ n) (w0 : World) (T M : Nat) (AH A : Option Addr) (ch c : Nat) (H : List S37) (vs : List S41) (hC : Kd.C k41 w0 A vs.length vs) (hH : Kd.C k37 w0 AH H.length H) (hwf : ∀ v : S41, v ∈ vs → (Lit.int .i64 v.f1).wf = true)
    (o : List Int) (v0 : Value) (w : World) (hB : Below w0.heap.size w0 w) (htr : Tr w0.heap.size T M w AH H.length ch v0 o) (hlen : o.length + vs.length < 1000000000) :
    CallsIn Fence.wide n Try.prog 41 #[.pointer (some ⟨T, 0, none⟩), .slice A vs.length c] w fun e w' => e = .returned (.tuple #[]) ∧ (∃ v', Tr w0.heap.size T M w' AH H.length ch v' (addL H o vs)) ∧ Below w0.heap.size w w' := by
  have hro : Fence.wide.round = none := rfl
  have h1 : 1 ≤ n := by omega
  have hBs := hB.size
  have hTl : T < w.heap.size := blk_lt htr.b
  have hMl := htr.mlt
  have h44 : Fence.wide.fn 44 := trivial
  refine callsIn_of_wp_marks Try.func41 rfl trivial ?_ hro
  simp only [Try.ntmps41, List.size_toArray, List.length_cons, List.length_nil, Nat.reduceAdd, Nat.reduceSub, Array.replicate_succ, Array.replicate_zero, List.push_toArray, List.append_toArray, List.nil_append, List.cons_append]
  gi_wp2_with (gi_at_call 44; refine (leads_in (n - 1) trivial hro _ _ _ _ _).mono ?_; rintro e w' ⟨rfl, rfl⟩)
  have bX := ((Boxed.new w 54 (.pointer (some ⟨T, 0, none⟩))).alloc (.cells #[.pointer (some ⟨T, 0, none⟩)] 54)).alloc (.cells #[.slice A vs.length c] 23)
  have bT := (Boxed.new (w.alloc (.cells #[.pointer (some ⟨T, 0, none⟩)] 54)) 54 (.pointer (some ⟨T, 0, none⟩))).alloc (.cells #[.slice A vs.length c] 23)
  have bL := Boxed.new ((w.alloc (.cells #[.pointer (some ⟨T, 0, none⟩)] 54)).alloc (.cells #[.pointer (some ⟨T, 0, none⟩)] 54)) 23 (.slice A vs.length c)
  simp only [World.size_alloc] at bX bT bL
  have hB1 : Below w.heap.size w (((w.alloc (.cells #[.pointer (some ⟨T, 0, none⟩)] 54)).alloc (.cells #[.pointer (some ⟨T, 0, none⟩)] 54)).alloc (.cells #[.slice A vs.length c] 23)) := (((Below.refl _ w).alloc (Nat.le_refl _) _).alloc (by simp) _).alloc (by simp; omega) _
  have htr1 := htr.below hB1
  have hBB := hB.trans (hB1.mono hBs)
  have hsz : (((w.alloc (.cells #[.pointer (some ⟨T, 0, none⟩)] 54)).alloc (.cells #[.pointer (some ⟨T, 0, none⟩)] 54)).alloc (.cells #[.slice A vs.length c] 23)).heap.size = w.heap.size + 3 := by simp
  obtain ⟨Wb, hWb⟩ : ∃ Wb, (((w.alloc (.cells #[.pointer (some ⟨T, 0, none⟩)] 54)).alloc (.cells #[.pointer (some ⟨T, 0, none⟩)] 54)).alloc (.cells #[.slice A vs.length c] 23)) = Wb := ⟨_, rfl⟩
  rw [hWb] at bX bT bL hB1 htr1 hBB hsz ⊢
  clear hWb
  refine wpIn_rangeFunc_ownG hro h1 (gf := 48) (lb := #[.pointer (some ⟨w.heap.size + 1 + 1, 0, none⟩), .pointer (some ⟨w.heap.size + 1, 0, none⟩)]) rfl trivial (enters_of Try.func48 (by kernel_rfl) rfl)
    (leads_stops (n - 1) trivial hro (by omega) (w.heap.size + 1 + 1) (w.heap.size + 1) T w0 Wb A AH c ch vs H hC hH hwf hBB (by omega) (by omega) (by omega) bL.cell bT.cell ((blk_cell htr1.b 0).trans rfl)) Keeps.trans (fun W l ob ob' hl ho hc hw => ?kb) (Below.refl _ _) (fun _ => rfl)
    (fun pre W => (Boxed W w.heap.size 54 (.pointer (some ⟨T, 0, none⟩)) ∧ Boxed W (w.heap.size + 1) 54 (.pointer (some ⟨T, 0, none⟩)) ∧ Boxed W (w.heap.size + 1 + 1) 23 (.slice A vs.length c) ∧ ∃ v, Tr w0.heap.size T M W AH H.length ch v (addAll o (lds pre))) ∧ Below w0.heap.size w W)
    (fun _ _ _ => False)
    (OwnFrom.and (fun s X Y row hs hg hr => ?oi) (ownFrom_below hBs (by omega)))
    (fun _ _ _ _ _ hs _ _ => hs)
    ⟨⟨bX, bT, bL, _, htr1⟩, hB1.mono hBs⟩
    (fun x => { tmps := #[.pointer (some ⟨T, 0, none⟩), .slice A vs.length c, .pointer (some ⟨w.heap.size, 0, none⟩), undef, undef, .int .i64 x.1.2, undef, undef, .pointer (some ⟨T, 0, none⟩), .slice A vs.length c, .func (.func 48) #[] #[.pointer (some ⟨w.heap.size + 1 + 1, 0, none⟩), .pointer (some ⟨w.heap.size + 1, 0, none⟩)], .int .i64 (x.1.1 : Int), .int .i64 x.1.2, undef, undef, undef, undef, undef, undef, undef, undef, undef, undef, undef, undef, undef, undef, undef, undef, undef, undef, undef, undef, undef, undef, undef, undef, undef, undef, undef, undef, undef, undef, undef], defers := [] }) ?assign ?body ?done ?stop
  case kb =>
    refine ⟨belowK_b (by omega) W l ob ob' hl ho hc hw, fun a ha v hv => ?_⟩
    refine cell_kept hv (grownBy_putObj' W l ob') (fun r e => ?_)
    cases e
    exact ⟨ob, ho, hc⟩
  case oi =>
    obtain ⟨h1, h2, h3, v, h4⟩ := hs
    have nb : ∀ {B : Nat} {t : TypeId} {u : Value}, Boxed X B t u → some B ≠ row := fun {B t u} hb e => by
      obtain ⟨_, ob, ho, hc⟩ := hr B e.symm
      rw [show X.heap[B]? = _ from hb] at ho
      cases ho
      cases hc
    exact ⟨h1.kept hg (nb h1), h2.kept hg (nb h2), h3.kept hg (nb h3), v, h4.grown hg (fun k e => (hr k e).2) (fun e => by have := (hr _ e.symm).1; omega)⟩
  case assign =>
    intro l x W K hK
    gi_wp2
    exact hK
  case body =>
    rintro l pre x W ⟨⟨hbx, hbt, hbl, v, htr⟩, hBW⟩ hlt
    obtain ⟨D, hown, hpl⟩ := htr.p
    have hkey := Maps.keyOf_int_mk Try.underlying3 x.2.1
    have hr0 := htr.r
    have hBBs := hBW.size
    have hol : (addAll o (lds pre)).length < 1000000000 := by
      have := addAll_len (lds pre) o
      have e : (lds pre).length = pre.length := by simp [lds]
      omega
    obtain ⟨Av, cv, rfl⟩ := Kd.R_slice hr0
    have hX := hbx.cell
    have hM := (blk_cell htr.b 2).trans rfl
    by_cases hx : x.1.2 ∈ addAll o (lds pre)
    · have hhas : Maps.has D (.int .i64 x.1.2) = true := by rw [hpl.h _ x.2.1]; simp [hx]
      gi_wp2_with (gi_at_lookup; refine wpListIn_lookup_own_ok_int _ rfl _ _ 57 rfl 3 3 .i64 (Maps.int_keyed Try.underlying3) Try.underlying57 Try.underlying3 (Try.zeroValue3 _) M _ _ rfl hown _ _ rfl hkey ?_; intro c hat hwc; rw [hhas])
      exact ⟨KeepsFrom.refl _ _, Keeps.refl _ _ _, ⟨hbx, hbt, hbl, _, by rw [lds_snoc, addAll_hit hx]; exact htr⟩, hBW⟩
    · have hhas : Maps.has D (.int .i64 x.1.2) = false := by rw [hpl.h _ x.2.1]; simp [hx]
      gi_wp2_with (gi_at_lookup; refine wpListIn_lookup_own_ok_int _ rfl _ _ 57 rfl 3 3 .i64 (Maps.int_keyed Try.underlying3) Try.underlying57 Try.underlying3 (Try.zeroValue3 _) M _ _ rfl hown _ _ rfl hkey ?_; intro c hat hwc; rw [hhas])
      obtain ⟨oc, hoc⟩ : ∃ oc, Aside0 (oc = addAll o (lds pre) ++ [x.1.2]) := ⟨_, ⟨rfl⟩⟩
      have mixed : Try.prog.follows Departure.mixedOrders = true := by kernel_rfl
      have hbxd : Boxed W.drew w.heap.size 54 (.pointer (some ⟨T, 0, none⟩)) := hbx
      have htbd : W.drew.heap[T]? = some (.cells #[.slice AH H.length ch, .slice Av (addAll o (lds pre)).length cv, .map (some M)] 59 (0, 0)) := htr.b
      have hT1 : W.drew.cell? ⟨T, 1, none⟩ = some (.slice Av (addAll o (lds pre)).length cv) := (blk_cell htbd 1).trans rfl
      refine startIn_ (by kernel_rfl) (n := 11) (S := fun w' => w'.cell? ⟨w.heap.size, 0, none⟩ = some (.pointer (some ⟨T, 0, none⟩)) ∧ w'.cell? ⟨T, 1, none⟩ = some ((.slice Av (addAll o (lds pre)).length cv))) (ds := [10]) #[false, false, false, false, false, false, false, false, false, false, false] (by kernel_rfl) rfl rfl ⟨hbxd.cell, hT1⟩ (fun hHeld => ?_)
      refine pure_ (i := 5) (N := some 29) (v := ?_) (a' := ?_) #[false, false, false, false, false, true, false, false, false, false, false] rfl rfl (by kernel_rfl) (fun _ _ _ h => h) (Or.inl ⟨by rfl, ?_⟩) ?_ ?_
      rotate_left
      · intro w'
        go_simp
        with_reducible rfl
      rotate_left
      · simp only [Act.put, List.setIfInBounds_toArray, List.set_cons_zero, List.set_cons_succ, i64_w, i32_w]
        rfl
      refine take_ (i := 0) (N := some 24) (v := ?_) (a' := ?_) #[true, false, false, false, false, true, false, false, false, false, false] rfl rfl (by kernel_rfl) (fun _ _ _ h => h) (Or.inl ⟨by rfl, ?_⟩) hHeld ?_ ?_
      rotate_left
      · rintro w' ⟨s0, s1⟩
        go_simp
        with_reducible rfl
      rotate_left
      · simp only [Act.put, List.setIfInBounds_toArray, List.set_cons_zero, List.set_cons_succ, i64_w, i32_w]
        rfl
      refine take_ (i := 1) (N := some 25) (v := ?_) (a' := ?_) #[true, true, false, false, false, true, false, false, false, false, false] rfl rfl (by kernel_rfl) (fun _ _ _ h => h) (Or.inl ⟨by rfl, ?_⟩) hHeld ?_ ?_
      rotate_left
      · rintro w' ⟨s0, s1⟩
        go_simp
        with_reducible rfl
      rotate_left
      · simp only [Act.put, List.setIfInBounds_toArray, List.set_cons_zero, List.set_cons_succ, i64_w, i32_w]
        rfl
      refine pure_ (i := 2) (N := some 26) (v := ?_) (a' := ?_) #[true, true, true, false, false, true, false, false, false, false, false] rfl rfl (by kernel_rfl) (fun _ _ _ h => h) (Or.inl ⟨by rfl, ?_⟩) ?_ ?_
      rotate_left
      · intro w'
        go_simp
        with_reducible rfl
      rotate_left
      · simp only [Act.put, List.setIfInBounds_toArray, List.set_cons_zero, List.set_cons_succ, i64_w, i32_w]
        rfl
      refine pure_ (i := 3) (N := some 27) (v := ?_) (a' := ?_) #[true, true, true, true, false, true, false, false, false, false, false] rfl rfl (by kernel_rfl) (fun _ _ _ h => h) (Or.inl ⟨by rfl, ?_⟩) ?_ ?_
      rotate_left
      · intro w'
        go_simp
        with_reducible rfl
      rotate_left
      · simp only [Act.put, List.setIfInBounds_toArray, List.set_cons_zero, List.set_cons_succ, i64_w, i32_w]
        rfl
      refine take_ (i := 4) (N := some 28) (v := ?_) (a' := ?_) #[true, true, true, true, true, true, false, false, false, false, false] rfl rfl (by kernel_rfl) (fun _ _ _ h => h) (Or.inl ⟨by rfl, ?_⟩) hHeld ?_ ?_
      rotate_left
      · rintro w' ⟨s0, s1⟩
        go_simp
        with_reducible rfl
      rotate_left
      · simp only [Act.put, List.setIfInBounds_toArray, List.set_cons_zero, List.set_cons_succ, i64_w, i32_w]
        rfl
      refine one_ (i := 6) (N := some 30) #[true, true, true, true, true, true, true, false, false, false, false] rfl rfl (by kernel_rfl) (by decide) (fun K hK => ?_)
      refine value_ (w1 := ?_) (v := ?_) (by rfl) rfl ?_ ?_
      rotate_left 2
      · go_simp
        constructor
        · rfl
        · rfl
      refine hK.out _ _ ⟨(hbxd.alloc _).cell, (blk_cell (blk_alloc htbd _) 1).trans rfl⟩ (fun hHeld => ?_)
      clear hK K
      refine norm_ (a' := ?_) ?_ ?_
      rotate_left
      · show Act.put _ (some 30) _ = _
        simp only [Act.put, List.setIfInBounds_toArray, List.set_cons_zero, List.set_cons_succ, i64_w, i32_w]
        rfl
      refine one_ (i := 7) (N := some 31) #[true, true, true, true, true, true, true, true, false, false, false] rfl rfl (by kernel_rfl) (by decide) (fun K hK => ?_)
      refine Kd.R_append_step (Kd.int .i64) (w0 := W) (W := W.drew) w0.heap.size (by rfl) (.tmp 28) (.tmp 30) 26 3 (.int .i64 0) 8 rfl Try.underlying26 info3 rfl (by decide) (by decide) (.slice Av (addAll o (lds pre)).length cv) (addAll o (lds pre)) x.1.2 [.int .i64 x.1.2] (fun _ => True) (fun _ => False) rfl rfl rfl (fun _ hk => hk.elim) (fun _ _ => trivial) (Kd.R_drew hr0) (below_drew (Below.refl _ _)) (Nat.le_trans hBs hBBs) (by omega) ?_
      intro v1 w1 hR1 hb1 hg1 hat1
      rw [← hoc.out] at hR1
      obtain ⟨A1, c1, rfl⟩ := Kd.R_slice hR1
      have hbx1 := hbxd.kept hg1 (Kd.R_ne hr0 hbx (by decide))
      have htb1 := blk_grown (w := W.drew) htbd hg1 (Kd.R_ne hr0 htbd (by decide))
      have hT1w : w1.cell? ⟨T, 1, none⟩ = some (.slice Av (addAll o (lds pre)).length cv) := (blk_cell htb1 1).trans rfl
      have hF1w := blk_frozen htb1 1
      refine hK.out _ _ ⟨hbx1.cell, hT1w⟩ (fun hHeld => ?_)
      clear hK K
      refine norm_ (a' := ?_) ?_ ?_
      rotate_left
      · show Act.put _ (some 31) _ = _
        simp only [Act.put, List.setIfInBounds_toArray, List.set_cons_zero, List.set_cons_succ, i64_w, i32_w]
        rfl
      refine pure_ (i := 8) (N := some 32) (v := ?_) (a' := ?_) #[true, true, true, true, true, true, true, true, true, false, false] rfl rfl (by kernel_rfl) (fun _ _ _ h => h) (Or.inl ⟨by rfl, ?_⟩) ?_ ?_
      rotate_left
      · intro w'
        go_simp
        with_reducible rfl
      rotate_left
      · simp only [Act.put, List.setIfInBounds_toArray, List.set_cons_zero, List.set_cons_succ, i64_w, i32_w]
        rfl
      refine pure_ (i := 9) (N := some 33) (v := ?_) (a' := ?_) #[true, true, true, true, true, true, true, true, true, true, false] rfl rfl (by kernel_rfl) (fun _ _ _ h => h) (Or.inl ⟨by rfl, ?_⟩) ?_ ?_
      rotate_left
      · intro w'
        go_simp
        with_reducible rfl
      rotate_left
      · simp only [Act.put, List.setIfInBounds_toArray, List.set_cons_zero, List.set_cons_succ, i64_w, i32_w]
        rfl
      refine last_ (i := 10) (N := none) #[true, true, true, true, true, true, true, true, true, true, true] rfl rfl (by kernel_rfl) (by decide) (fun K hK => ?_)
      refine skip_ (w1 := ?_) (by rfl) rfl ?_ ?_
      rotate_left
      · go_simp
        rfl
      refine hK.out _ _ ?_
      clear hK K
      refine done_ (by kernel_rfl) ?_
      refine only_ ?_
      obtain ⟨w3, hrun, hbx3, hbt3, hbl3, htr3, hB3, hK3, hc1, hc2, hc3⟩ := add_world htr hx x.2.1 hol hbx hbt hbl (Nat.le_trans hBs hBBs) (by rw [← hoc.out]; exact hR1) hb1 hg1
      have hX2 : (w1.setCell ⟨T, 1, none⟩ (.slice A1 oc.length c1)).drew.cell? ⟨w.heap.size, 0, none⟩ = some (.pointer (some ⟨T, 0, none⟩)) := (Boxed.cell (blk_far hbx1 (blk_ne (g' := T) hbx1 htb1 (by decide)) _))
      have htb2 := blk_put htb1 1 (.slice A1 oc.length c1) rfl
      have hT2 : (w1.setCell ⟨T, 1, none⟩ (.slice A1 oc.length c1)).drew.cell? ⟨T, 1, none⟩ = some (.slice A1 oc.length c1) := (blk_cell htb2 1).trans rfl
      have hM2 : (w1.setCell ⟨T, 1, none⟩ (.slice A1 oc.length c1)).drew.cell? ⟨T, 2, none⟩ = some (.map (some M)) := (blk_cell htb2 2).trans rfl
      rw [show ((addAll o (lds pre)).length : Int) + 1 = (oc.length : Nat) by rw [hoc.out, List.length_append]; rfl] at hrun
      rw [← hoc.out] at htr3
      gi_wp2
      refine startIn_ (by kernel_rfl) (n := 11) (S := fun w' => w'.cell? ⟨w.heap.size, 0, none⟩ = some (.pointer (some ⟨T, 0, none⟩)) ∧ w'.cell? ⟨T, 1, none⟩ = some ((.slice A1 oc.length c1)) ∧ w'.cell? ⟨T, 2, none⟩ = some (.map (some M))) (ds := [10]) #[false, false, false, false, false, false, false, false, false, false, false] (by kernel_rfl) rfl rfl ⟨hX2, hT2, hM2⟩ (fun hHeld => ?_)
      refine pure_ (i := 4) (N := some 38) (v := ?_) (a' := ?_) #[false, false, false, false, true, false, false, false, false, false, false] rfl rfl (by kernel_rfl) (fun _ _ _ h => h) (Or.inl ⟨by rfl, ?_⟩) ?_ ?_
      rotate_left
      · intro w'
        go_simp
        with_reducible rfl
      rotate_left
      · simp only [Act.put, List.setIfInBounds_toArray, List.set_cons_zero, List.set_cons_succ, i64_w, i32_w]
        rfl
      refine take_ (i := 0) (N := some 34) (v := ?_) (a' := ?_) #[true, false, false, false, true, false, false, false, false, false, false] rfl rfl (by kernel_rfl) (fun _ _ _ h => h) (Or.inl ⟨by rfl, ?_⟩) hHeld ?_ ?_
      rotate_left
      · rintro w' ⟨s0, s1, s2⟩
        go_simp
        with_reducible rfl
      rotate_left
      · simp only [Act.put, List.setIfInBounds_toArray, List.set_cons_zero, List.set_cons_succ, i64_w, i32_w]
        rfl
      refine pure_ (i := 1) (N := some 35) (v := ?_) (a' := ?_) #[true, true, false, false, true, false, false, false, false, false, false] rfl rfl (by kernel_rfl) (fun _ _ _ h => h) (Or.inl ⟨by rfl, ?_⟩) ?_ ?_
      rotate_left
      · intro w'
        go_simp
        with_reducible rfl
      rotate_left
      · simp only [Act.put, List.setIfInBounds_toArray, List.set_cons_zero, List.set_cons_succ, i64_w, i32_w]
        rfl
      refine pure_ (i := 2) (N := some 36) (v := ?_) (a' := ?_) #[true, true, true, false, true, false, false, false, false, false, false] rfl rfl (by kernel_rfl) (fun _ _ _ h => h) (Or.inl ⟨by rfl, ?_⟩) ?_ ?_
      rotate_left
      · intro w'
        go_simp
        with_reducible rfl
      rotate_left
      · simp only [Act.put, List.setIfInBounds_toArray, List.set_cons_zero, List.set_cons_succ, i64_w, i32_w]
        rfl
      refine take_ (i := 3) (N := some 37) (v := ?_) (a' := ?_) #[true, true, true, true, true, false, false, false, false, false, false] rfl rfl (by kernel_rfl) (fun _ _ _ h => h) (Or.inl ⟨by rfl, ?_⟩) hHeld ?_ ?_
      rotate_left
      · rintro w' ⟨s0, s1, s2⟩
        go_simp
        with_reducible rfl
      rotate_left
      · simp only [Act.put, List.setIfInBounds_toArray, List.set_cons_zero, List.set_cons_succ, i64_w, i32_w]
        rfl
      refine take_ (i := 5) (N := some 39) (v := ?_) (a' := ?_) #[true, true, true, true, true, true, false, false, false, false, false] rfl rfl (by kernel_rfl) (fun _ _ _ h => h) (Or.inl ⟨by rfl, ?_⟩) hHeld ?_ ?_
      rotate_left
      · rintro w' ⟨s0, s1, s2⟩
        go_simp
        with_reducible rfl
      rotate_left
      · simp only [Act.put, List.setIfInBounds_toArray, List.set_cons_zero, List.set_cons_succ, i64_w, i32_w]
        rfl
      refine pure_ (i := 6) (N := some 40) (v := ?_) (a' := ?_) #[true, true, true, true, true, true, true, false, false, false, false] rfl rfl (by kernel_rfl) (fun _ _ _ h => h) (Or.inl ⟨by rfl, ?_⟩) ?_ ?_
      rotate_left
      · intro w'
        go_simp
        with_reducible rfl
      rotate_left
      · simp only [Act.put, List.setIfInBounds_toArray, List.set_cons_zero, List.set_cons_succ, i64_w, i32_w]
        rfl
      refine pure_ (i := 7) (N := some 41) (v := ?_) (a' := ?_) #[true, true, true, true, true, true, true, true, false, false, false] rfl rfl (by kernel_rfl) (fun _ _ _ h => h) (Or.inl ⟨by rfl, ?_⟩) ?_ ?_
      rotate_left
      · intro w'
        go_simp
        with_reducible rfl
      rotate_left
      · simp only [Act.put, List.setIfInBounds_toArray, List.set_cons_zero, List.set_cons_succ, i64_w, i32_w]
        rfl
      refine take_ (i := 8) (N := some 42) (v := ?_) (a' := ?_) #[true, true, true, true, true, true, true, true, true, false, false] rfl rfl (by kernel_rfl) (fun _ _ _ h => h) (Or.inl ⟨by rfl, ?_⟩) hHeld ?_ ?_
      rotate_left
      · rintro w' ⟨s0, s1, s2⟩
        go_simp
        with_reducible rfl
      rotate_left
      · simp only [Act.put, List.setIfInBounds_toArray, List.set_cons_zero, List.set_cons_succ, i64_w, i32_w]
        rfl
      refine pure_ (i := 9) (N := some 43) (v := ?_) (a' := ?_) #[true, true, true, true, true, true, true, true, true, true, false] rfl rfl (by kernel_rfl) (fun _ _ _ h => h) (Or.inl ⟨by rfl, ?_⟩) ?_ ?_
      rotate_left
      · intro w'
        go_simp
        with_reducible rfl
      rotate_left
      · simp only [Act.put, List.setIfInBounds_toArray, List.set_cons_zero, List.set_cons_succ, i64_w, i32_w]
        rfl
      refine last_ (i := 10) (N := none) #[true, true, true, true, true, true, true, true, true, true, true] rfl rfl (by kernel_rfl) (by decide) (fun K hK => ?_)
      refine skip_ (w1 := ?_) (by rfl) rfl ?_ ?_
      rotate_left
      · go_simp
        rfl
      refine hK.out _ _ ?_
      clear hK K
      refine done_ (by kernel_rfl) ?_
      refine only_ ?_
      gi_wp2
      refine ⟨hK3 _ (by omega), ⟨hB3, fun a ha v hv => ?_⟩, ⟨hbx3, hbt3, hbl3, _, by rw [lds_snoc, addAll_new hx, ← hoc.out]; exact htr3⟩, hBW.trans hB3⟩
      simp only [List.mem_cons, List.not_mem_nil, or_false] at ha
      rcases ha with rfl | rfl | rfl
      · rw [hc1]; rw [(blk_cell htr.b 0).trans rfl] at hv; exact hv
      · rw [hc2]; rw [hbt.cell] at hv; exact hv
      · rw [hc3]; rw [hbl.cell] at hv; exact hv
  case done =>
    rintro DD ys W hD rfl ⟨⟨hbx, hbt, hbl, v, htr⟩, hBW⟩ hK
    gi_wp2
    refine ⟨by simp, .inl ⟨_, _, rfl, run_takeDeferred hK, ?_⟩⟩
    have hg := grownBy_putObj' W DD (.deferred none)
    refine ⟨_, results_none rfl _ _ _, rfl, ⟨v, htr.grown hg (fun k e => by cases e; exact ⟨_, hK, rfl⟩) (fun e => by cases e; omega)⟩, hBW.trans (belowK_b (w := w) hBs W DD _ _ (by omega) hK rfl rfl)⟩
  case stop =>
    rintro DD c pre W _ _ h _
    exact h.elim
end Go.Proofs.Ytonkfcfpfpaceaa.A.P
