/- Insert of one monitor ahead of others: in place; and Insert whole. -/
import Derived.Test.YtbhdodkkebgjcaaL7
namespace Go.Proofs.Ytbhdodkkebgjcaa.A.P
open Go.RowKit Go.Proofs.YtbhdodkkebgjcaaW.PrintWords Go.Proofs.YtbhdodkkebgjcaaW.PrintLast Go.Proofs.YtbhdodkkebgjcaaW.PrintMore
set_option linter.unusedSimpArgs false
set_option linter.unusedVariables false
set_option maxHeartbeats 8000000 in
set_option maxRecDepth 100000 in
theorem insert_room (base g n c i : Nat) (cur : List Value) (cs : List Value) (g2 c2 : Nat) (cur2 : Array Value) (xc : List Value) (w : World)
    (hg : w.heap[g]? = some (.cells cur.toArray 38 (0, 0))) (hcs : cur.take (n * 3) = cs) (hcur : cur.length = c * 3) (h1c : ∀ v ∈ cs, v.oneCell' = true)
    (hg2 : w.heap[g2]? = some (.cells cur2 38 (0, 0))) (hx : cur2.toList.take 3 = xc) (hxl : xc.length = 3) (h1x : ∀ v ∈ xc, v.oneCell' = true) (hgg : g2 ≠ g)
    (hi : i < n) (hn : n ≤ 5864062014700) (hc : n + 1 ≤ c) (hcm : c ≤ maxLen) (hbase : base ≤ g) :
    Calls Try.prog 21 #[.slice (some ⟨g, 0, none⟩) n c, .int .i64 (i : Int), .slice (some ⟨g2, 0, none⟩) 1 c2] w fun e w' => InsPost base g n (cs.take (i * 3) ++ xc ++ cs.drop (i * 3)) w e w' := by
  obtain ⟨i0, hi0, hz0, hz1, hz2⟩ := info_parts info38
  have hcl : cs.length = n * 3 := by rw [← hcs, List.length_take, hcur]; omega
  have hcell : ∀ W : World, W.heap[g]? = some (.cells cur.toArray 38 (0, 0)) → ∀ j v, cs[j]? = some v → W.cell? ⟨g, j, none⟩ = some v := fun W hW j v hj => by
    rw [blk_cell hW j]
    rw [← hcs, List.getElem?_take] at hj
    split at hj
    · simpa using hj
    · simp at hj
  have hcell2 : ∀ W : World, W.heap[g2]? = some (.cells cur2 38 (0, 0)) → ∀ j v, xc[j]? = some v → W.cell? ⟨g2, j, none⟩ = some v := fun W hW j v hj => by
    rw [blk_cell hW j]
    rw [← hx, List.getElem?_take] at hj
    split at hj
    · simpa using hj
    · simp at hj
  have hsize : ∀ w, (Go.sizeOf 38).run Try.prog w = .ok 3 w := fun w => by simp [Go.sizeOf, typeInfo, hi0, hz1]
  have hov : ∀ lb cb, (callFunc 29 #[.slice (some ⟨g2, 0, none⟩) 1 c2, .slice (some ⟨g, (i + 1) * 3, none⟩) lb cb]).run Try.prog w = .ok (.value (.bool false)) w := fun lb cb => by
    rw [run_callFunc_extern Try.func29 (by kernel_rfl) (by kernel_rfl) (by kernel_rfl) (e := Extern.SlicesOverlaps.overlaps #[22, 22] #[4]) (by kernel_rfl),
      Lib.run_overlaps_apart w 22 4 38 Try.underlying22 3 hsize ⟨g2, 0, none⟩ ⟨g, (i + 1) * 3, none⟩ 1 c2 lb cb hgg 38 38 cur2.size cur.toArray.size (by simp [World.shape?, hg2]) (by simp [World.shape?, hg]) (by rw [List.size_toArray, hcur]; omega) (blk_frozen hg2 _) (blk_frozen hg2 _)]
    rfl
  have hsz : (Try.prog.info? 38).map (·.size) = some 3 := by rw [hi0]; simp [hz1]
  have hdl : (cs.drop (i * 3)).length = (n - i) * 3 := by rw [List.length_drop, hcl]; omega
  have hcpA : ∀ ty dc sc, (Builtin.copy_ #[22, 22] ty #[.slice (some ⟨g, (i + 1) * 3, none⟩) (n + 1 - (i + 1)) dc, .slice (some ⟨g, i * 3, none⟩) (n + 1 - i) sc]).run Try.prog w.drew = .ok (goInt (n - i : Nat)) (w.drew.setRow g (laidAt cur ((i + 1) * 3) (cs.drop (i * 3))).toArray) := fun ty dc sc => by
    have hmin : Nat.min (n + 1 - i) (n + 1 - (i + 1)) = n - i := by simp only [Nat.min_def]; split <;> omega
    have h := run_copy3 (P := Try.prog) w.drew 22 22 ty 38 3 g ((i + 1) * 3) (n + 1 - (i + 1)) dc ⟨g, i * 3, none⟩ (n + 1 - i) sc cur 38 (cs.drop (i * 3)) Try.underlying22 hsz hg (by rw [hmin, hdl]) (fun j v hj => by rw [Addr.add_lit]; exact hcell w.drew hg (i * 3 + j) v (by rwa [List.getElem?_drop] at hj)) (by rw [hcur, hdl]; omega) (fun v hv => h1c v (List.mem_of_mem_drop hv))
    rwa [hmin] at h
  have hgw : g < w.heap.size := blk_lt hg
  obtain ⟨W1, hW1⟩ : ∃ W1, W1 = w.drew.setRow g (laidAt cur ((i + 1) * 3) (cs.drop (i * 3))).toArray := ⟨_, rfl⟩
  have hN1 : W1.heap[g]? = some (.cells (laidAt cur ((i + 1) * 3) (cs.drop (i * 3))).toArray 38 (0, 0)) := by rw [hW1]; exact setRow_heap _ _ _ _ _ _ hg
  have hG1 : W1.heap[g2]? = some (.cells cur2 38 (0, 0)) := by rw [hW1]; exact (setRow_other _ _ _ _ hgg).trans hg2
  have hB1 : w.grownBy W1 (some g) := by
    rw [hW1]
    exact ⟨rfl, rfl, rfl, by simp [World.setRow], fun k hk hne => setRow_other _ _ _ _ (fun e => hne (by rw [e]))⟩
  rw [← hW1] at hcpA
  clear hW1
  have hL1 : (laidAt cur ((i + 1) * 3) (cs.drop (i * 3))).length = c * 3 := by rw [laid_len (by rw [hcur, hdl]; omega), hcur]
  have hcpB : ∀ ty dc, (Builtin.copy_ #[22, 22] ty #[.slice (some ⟨g, i * 3, none⟩) (n + 1 - i) dc, .slice (some ⟨g2, 0, none⟩) 1 c2]).run Try.prog W1 = .ok (goInt 1) (W1.setRow g (laidAt (laidAt cur ((i + 1) * 3) (cs.drop (i * 3))) (i * 3) xc).toArray) := fun ty dc => by
    have hmin : Nat.min 1 (n + 1 - i) = 1 := by simp only [Nat.min_def]; split <;> omega
    have h := run_copy3 (P := Try.prog) W1 22 22 ty 38 3 g (i * 3) (n + 1 - i) dc ⟨g2, 0, none⟩ 1 c2 _ 38 xc Try.underlying22 hsz hN1 (by rw [hmin, hxl]) (fun j v hj => by rw [Addr.add_lit, Nat.zero_add]; exact hcell2 W1 hG1 j v hj) (by rw [hL1, hxl]; omega) h1x
    rwa [hmin] at h
  obtain ⟨W2, hW2⟩ : ∃ W2, W2 = W1.setRow g (laidAt (laidAt cur ((i + 1) * 3) (cs.drop (i * 3))) (i * 3) xc).toArray := ⟨_, rfl⟩
  have hN2 : W2.heap[g]? = some (.cells (laidAt (laidAt cur ((i + 1) * 3) (cs.drop (i * 3))) (i * 3) xc).toArray 38 (0, 0)) := by rw [hW2]; exact setRow_heap _ _ _ _ _ _ hN1
  rw [← hW2] at hcpB
  have hB2 : w.grownBy W2 (some g) := by
    rw [hW2]
    exact ⟨hB1.os, hB1.tape, hB1.output, by simp [World.setRow]; exact hB1.size, fun k hk hne => (setRow_other _ _ _ _ (fun e => hne (by rw [e]))).trans (hB1.block k hk hne)⟩
  clear hW2
  have hfin : InsPost base g n (cs.take (i * 3) ++ xc ++ cs.drop (i * 3)) w (.returned (.slice (some ⟨g, 0, none⟩) (n + 1) c)) W2 := by
    refine ⟨_, rfl, ⟨by simp [hcl, hxl]; omega, .inr ⟨_, _, _, rfl, hbase, hN2, hc, hcm, ?_, ?_⟩⟩, hB2⟩
    · rw [List.size_toArray, laid_len (by rw [hL1, hxl]; omega), hL1]
    · have hRt : cur.take (i * 3) = cs.take (i * 3) := by rw [← hcs, List.take_take, Nat.min_eq_left (by omega)]
      have := laid_two' (cur := cur) (P := cs.take (i * 3)) (X := xc) (D := cs.drop (i * 3)) (a := i * 3) (x := 3) (d := (n - i) * 3) hRt (by simp; omega) hxl hdl (by rw [hcur]; omega)
      rw [show (i + 1) * 3 = i * 3 + 3 by omega]
      rw [← this]
      congr 1
      omega
  have HFIN := Aside0.mk hfin
  have hz2 : ¬ ((i : Int) = (n : Int)) := by omega
  have hz2b : ((i : Int) == (n : Int)) = false := beq_eq_false_iff_ne.mpr hz2
  have hw1 : IntKind.i64.wrap ((i : Int) + 1) = (i : Int) + 1 := by rw [IntKind.wrap_i64]; omega
  have hw2 : IntKind.i64.wrap ((n : Int) + 1) = (n : Int) + 1 := by rw [IntKind.wrap_i64]; omega
  have hz3 : ¬ ((c : Int) < (n : Int) + 1) := by omega
  have hz3b : decide ((c : Int) < (n : Int) + 1) = false := decide_eq_false hz3
  have hb1 : (0 : Int) ≤ (i : Int) + 1 := by omega
  have hb2 : (0 : Int) ≤ (n : Int) + 1 := by omega
  have htn : ((i : Int) + 1).toNat = i + 1 := by omega
  have htn2 : ((n : Int) + 1).toNat = n + 1 := by omega
  have hin : i ≤ n := by omega
  have hin1 : i + 1 ≤ n + 1 := by omega
  have hin2 : (i : Int) ≤ (n : Int) + 1 := by omega
  have hin3 : (i : Int) + 1 ≤ (n : Int) + 1 := by omega
  have hci : ¬ (c = i) := by omega
  have hci1 : ¬ (c = i + 1) := by omega
  unfold maxLen at hcm
  have HA := Lib.hid hcpA
  have HBB := Lib.hid hcpB
  have HOV := Lib.hid hov
  have mixed : Try.prog.follows Departure.mixedOrders = true := by kernel_rfl
  clear hfin hcpA hcpB hov hcell hcell2 hsize hg hg2 hcs hcl hcur h1c hx hxl h1x hN1 hB1 hL1 hN2 hB2 hdl hsz hi0 hz0 hz1 hG1
  go_enter Try.func21, Try.ntmps21
  go_wp2_with (first | (simp only [HOV.out]) | (simp only [HBB.out]))
  go_region_law_o (refine step_copy_run3 rfl (.tmp 73) (.tmp 76) 22 22 rfl (.slice (some ⟨g, (i + 1) * 3, none⟩) (n + 1 - (i + 1)) (c - (i + 1))) (.slice (some ⟨g, i * 3, none⟩) (n + 1 - i) (c - i)) (by simp [Act.eval, Act.put]) (by simp [Act.eval, Act.put]) (HA.out _ _ _) ?_)
  go_wp2_with (first | (simp only [HOV.out]) | (simp only [HBB.out]))
  go_ret
  exact HFIN.out
def api_Monitor_21.f (l : List S38) (i : Int) (vs : List S38) : Option (List S38) := if vs.length = 1 ∧ 0 ≤ i ∧ i ≤ l.length ∧ l.length ≤ 5864062014700 then some (l.take i.toNat ++ vs ++ l.drop i.toNat) else none
theorem api_Monitor_21.calls (P0_ : Nat → Prop) (u0 : Value) (l0 : List S38) (a1 : Int) (P2_ : Nat → Prop) (u2 : Value) (l2 r : List S38) (w0 w : World) (hB : Below w0.heap.size w0 w) (ho0 : Kd.R k38 38 w w0.heap.size P0_ u0 l0) (hx0 : ∀ k, P0_ k → ¬ P2_ k) (ho2 : Kd.R k38 38 w w0.heap.size P2_ u2 l2) (hx2 : ∀ k, P2_ k → ¬ P0_ k) (h : api_Monitor_21.f l0 a1 l2 = some r) :
    Calls Try.prog 21 #[u0, .int .i64 a1, u2] w fun e w' => ∃ v0_ : Value, e = .returned v0_ ∧ Kd.R k38 38 w' w0.heap.size (fun _ => True) v0_ r ∧ Below w0.heap.size w0 w' ∧ Kept w w' (fun k_ => P0_ k_) := by
  unfold api_Monitor_21.f at h
  split at h
  case isFalse => simp at h
  case isTrue hc =>
  obtain ⟨h1, h2, h3, h4⟩ := hc
  simp only [Option.some.injEq] at h
  subst h
  obtain ⟨i, rfl⟩ : ∃ i : Nat, a1 = (i : Int) := ⟨a1.toNat, by omega⟩
  match l2, h1 with
  | [x], _ =>
  have hf0 := R_flat ho0
  have hf2 := R_flat ho2
  obtain ⟨g2, c2, cur2, rfl, hg2b, hg2, hc2, hc2m, hc2s, hc2t⟩ : ∃ g2 c2 cur2, u2 = .slice (some ⟨g2, 0, none⟩) 1 c2 ∧ w0.heap.size ≤ g2 ∧ w.heap[g2]? = some (.cells cur2 38 (0, 0)) ∧ 1 ≤ c2 ∧ c2 ≤ maxLen ∧ cur2.size = c2 * 3 ∧ cur2.toList.take 3 = fl [x] := by
    rcases hf2.2 with ⟨_, hn⟩ | ⟨g, cap, cur, e, hb, hg, hc, hm, hs, ht⟩
    · simp at hn
    · exact ⟨g, cap, cur, e, hb, hg, hc, hm, hs, ht⟩
  simp only [Int.toNat_natCast]
  have hi : i ≤ l0.length := by omega
  by_cases he : i = l0.length
  · subst he
    obtain ⟨A0, c0, hu, _⟩ := Kd.R_reads ho0
    refine (insert_end w0.heap.size u0 A0 l0.length c0 l0 ⟨g2, 0, none⟩ c2 x w hu rfl hf0 hB.size h4 (fun j u hj => by
      rw [Addr.add_lit, Nat.zero_add, blk_cell hg2]
      rw [← hc2t, List.getElem?_take] at hj
      split at hj
      · simpa using hj
      · simp at hj)).mono ?_
    rintro e w' ⟨v, rfl, hv, hgr⟩
    refine ⟨v, rfl, flat_R (by simpa using hv) (by simp) _ (fun _ _ => trivial), hB.grown hgr hB.size (fun k hk => own_base hf0 k hk), (Kept.refl w _).of_grown hgr (fun k hk => .inl (ho0.1 k hk))⟩
  · obtain ⟨g, c, cur, rfl, hgb, hg, hcl, hcm, hcs, hct⟩ : ∃ g c cur, u0 = .slice (some ⟨g, 0, none⟩) l0.length c ∧ w0.heap.size ≤ g ∧ w.heap[g]? = some (.cells cur 38 (0, 0)) ∧ l0.length ≤ c ∧ c ≤ maxLen ∧ cur.size = c * 3 ∧ cur.toList.take (l0.length * 3) = fl l0 := by
      rcases hf0.2 with ⟨_, hn⟩ | ⟨g, cap, cur, e, hb, hg, hc, hm, hs, ht⟩
      · omega
      · exact ⟨g, cap, cur, e, hb, hg, hc, hm, hs, ht⟩
    have hP0 : P0_ g := ho0.1 g rfl
    have hP2 : P2_ g2 := ho2.1 g2 rfl
    have hne : g2 ≠ g := fun e => hx0 g hP0 (e ▸ hP2)
    have hpost : ∀ e w', InsPost w0.heap.size g l0.length ((fl l0).take (i * 3) ++ fl [x] ++ (fl l0).drop (i * 3)) w e w' → ∃ v0_ : Value, e = .returned v0_ ∧ Kd.R k38 38 w' w0.heap.size (fun _ => True) v0_ (l0.take i ++ [x] ++ l0.drop i) ∧ Below w0.heap.size w0 w' ∧ Kept w w' (fun k_ => P0_ k_) := by
      rintro e w' ⟨v, rfl, hv, hgr⟩
      refine ⟨v, rfl, flat_R (n := l0.length + 1) (by rw [fl_append, fl_append, fl_take, fl_drop]; exact hv) (by simp; omega) _ (fun _ _ => trivial), hB.grown hgr hB.size (fun k hk => ?_), (Kept.refl w _).of_grown hgr (fun k hk => .inl ?_)⟩
      · have : g = k := by simpa using hk
        omega
      · have : g = k := by simpa using hk
        exact this ▸ hP0
    by_cases hr : l0.length + 1 ≤ c
    · exact (insert_room w0.heap.size g l0.length c i cur.toList (fl l0) g2 c2 cur2 (fl [x]) w hg hct (by simpa using hcs) (fl_one _) hg2 hc2t rfl (fl_one _) hne (by omega) h4 hr hcm hgb).mono hpost
    · obtain rfl : c = l0.length := by omega
      exact (insert_grow w0.heap.size g l0.length i cur.toList (fl l0) g2 c2 cur2 (fl [x]) w hg hct (fl_len _) (fl_one _) hg2 hc2t rfl (fl_one _) (by omega) h4 hB.size).mono hpost
end Go.Proofs.Ytbhdodkkebgjcaa.A.P
