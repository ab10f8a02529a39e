/- Insert of one monitor ahead of others: with a new row; in place. -/
import Derived.Test.YtbhdodkkebgjcaaL6
namespace Go.Proofs.Ytbhdodkkebgjcaa.A.P
open Go.RowKit Go.Proofs.YtbhdodkkebgjcaaW.PrintWords Go.Proofs.YtbhdodkkebgjcaaW.PrintLast Go.Proofs.YtbhdodkkebgjcaaW.PrintMore
set_option linter.unusedSimpArgs false
set_option linter.unusedVariables false
/-- What a call of Insert leaves: a row of one's own in block g'. -/
def InsPost (base g n : Nat) (xs : List Value) (w : World) (e : Ending) (w' : World) : Prop :=
  ∃ v, e = .returned v ∧ w'.ownsRow base 38 3 v (n + 1) xs ∧ w.grownBy w' (some g)
set_option maxHeartbeats 8000000 in
set_option maxRecDepth 100000 in
theorem insert_grow (base g n i : Nat) (cur : List Value) (cs : List Value) (g2 c2 : Nat) (cur2 : Array Value) (xc : List Value) (w : World)
    (hg : w.heap[g]? = some (.cells cur.toArray 38 (0, 0))) (hcs : cur.take (n * 3) = cs) (hcl : cs.length = n * 3) (h1c : ∀ v ∈ cs, v.oneCell' = true)
    (hg2 : w.heap[g2]? = some (.cells cur2 38 (0, 0))) (hx : cur2.toList.take 3 = xc) (hxl : xc.length = 3) (h1x : ∀ v ∈ xc, v.oneCell' = true)
    (hi : i < n) (hn : n ≤ 5864062014700) (hbase : base ≤ w.heap.size) :
    Calls Try.prog 21 #[.slice (some ⟨g, 0, none⟩) n n, .int .i64 (i : Int), .slice (some ⟨g2, 0, none⟩) 1 c2] w fun e w' => InsPost base g n (cs.take (i * 3) ++ xc ++ cs.drop (i * 3)) w e w' := by
  obtain ⟨i0, hi0, hz0, hz1, hz2⟩ := info_parts info38
  have hcell : ∀ W : World, W.heap[g]? = some (.cells cur.toArray 38 (0, 0)) → ∀ j v, cs[j]? = some v → W.cell? ⟨g, j, none⟩ = some v := fun W hW j v hj => by
    rw [blk_cell hW j]
    rw [← hcs, List.getElem?_take] at hj
    split at hj
    · simpa using hj
    · simp at hj
  have hcell2 : ∀ W : World, W.heap[g2]? = some (.cells cur2 38 (0, 0)) → ∀ j v, xc[j]? = some v → W.cell? ⟨g2, j, none⟩ = some v := fun W hW j v hj => by
    rw [blk_cell hW j]
    rw [← hx, List.getElem?_take] at hj
    split at hj
    · simpa using hj
    · simp at hj
  have hold : (Builtin.firstCells i0.size i (.slice (some ⟨g, 0, none⟩) i n)).run Try.prog w.drew = .ok (cs.take (i * 3)).toArray w.drew := by
    rw [hz1]
    exact run_firstCells_some w.drew 3 i ⟨g, 0, none⟩ i n (cs.take (i * 3)) (by rw [List.length_take]; omega) (fun j v hj => by
      rw [Addr.add_lit, Nat.zero_add]
      rw [List.getElem?_take] at hj
      split at hj
      · exact hcell w.drew hg j v hj
      · cases hj)
  obtain ⟨G, hG⟩ : ∃ G, G = grownCap w (n + 1) n 38 := ⟨_, rfl⟩
  have hGn : n + 1 ≤ G := by rw [hG]; exact grownCap_ge w _ _ _
  have hG63 : G ≤ maxLen := by rw [hG]; exact grownCap_le_maxLen w _ _ _ (by unfold maxLen; omega)
  obtain ⟨R0, hR0⟩ : ∃ R0 : List Value, R0.toArray = (cs.take (i * 3)).toArray ++ Builtin.zeroCells (Value.agg #[.int .i64 0, .int .i64 0, .int .i64 0]).cells (n + 1 - i) ++ Builtin.zeroCells (Value.agg #[.int .i64 0, .int .i64 0, .int .i64 0]).cells (G - (n + 1)) := ⟨_, Array.toArray_toList⟩
  have hRl : R0.length = G * 3 := by
    have := congrArg Array.size hR0
    simp only [List.size_toArray, Array.size_append, size_zeroCells, List.length_take, hcl] at this
    rw [this]
    have : (Value.agg #[Value.int IntKind.i64 0, .int .i64 0, .int .i64 0]).cells.size = 3 := by rfl
    rw [this]
    omega
  have hRt : R0.take (i * 3) = cs.take (i * 3) := by
    have h := congrArg Array.toList hR0
    simp only [Array.toList_append, List.append_assoc] at h
    rw [h, List.take_append_of_le_length (by simp; omega), List.take_of_length_le (by simp; omega)]
  have hkk : ((n + 1 - i : Nat) : Int) = (n : Int) + 1 - (i : Int) := by omega
  have hrz : ∀ ty, (Builtin.append_ #[22, 3] ty #[.slice (some ⟨g, 0, none⟩) i n, .int .i64 ((n : Int) + 1 - (i : Int))]).run Try.prog w =
      .ok (.slice (some ⟨w.heap.size, 0, none⟩) (n + 1) G) (w.drew.alloc (.cells R0.toArray 38)) := fun ty => by
    have h := Lib.run_append_grow_zeros w 22 3 ty 38 i0 _ .i64 .i64 Try.underlying22 Try.underlying3 hi0 hz0 (some ⟨g, 0, none⟩) i n (cs.take (i * 3)) hold (n + 1 - i) (by omega) (by omega) (by omega) (by omega) (by rw [hz2]; omega) (by rw [hz2, show i + (n + 1 - i) = n + 1 by omega]; exact growslice_fits (by omega) (by omega))
    rw [show i + (n + 1 - i) = n + 1 by omega, ← hG] at h
    rw [← hkk, h, hR0]
  have hgw : g < w.heap.size := blk_lt hg
  have hgw2 : g2 < w.heap.size := blk_lt hg2
  obtain ⟨W1, hW1⟩ : ∃ W1, W1 = w.drew.alloc (.cells R0.toArray 38) := ⟨_, rfl⟩
  have hB1 : Below w.heap.size w W1 := by rw [hW1]; exact below_alloc (below_drew (Below.refl _ _)) _
  have hN1 : W1.heap[w.heap.size]? = some (.cells R0.toArray 38 (0, 0)) := by rw [hW1]; exact heap_alloc_new _ _
  have hS1 : W1.heap.size = w.heap.size + 1 := by rw [hW1]; simp
  rw [← hW1] at hrz
  clear hW1
  have hsz : (Try.prog.info? 38).map (·.size) = some 3 := by rw [hi0]; simp [hz1]
  have hX := hcell2 W1 (blk_below hg2 hB1)
  have hcpA : ∀ ty dc, (Builtin.copy_ #[22, 22] ty #[.slice (some ⟨w.heap.size, i * 3, none⟩) (n + 1 - i) dc, .slice (some ⟨g2, 0, none⟩) 1 c2]).run Try.prog W1 = .ok (goInt 1) (W1.setRow w.heap.size (laidAt R0 (i * 3) xc).toArray) := fun ty dc => by
    have hmin : Nat.min 1 (n + 1 - i) = 1 := by simp only [Nat.min_def]; split <;> omega
    have h := run_copy3 (P := Try.prog) W1 22 22 ty 38 3 w.heap.size (i * 3) (n + 1 - i) dc ⟨g2, 0, none⟩ 1 c2 R0 38 xc Try.underlying22 hsz hN1 (by rw [hmin, hxl]) (fun j v hj => by rw [Addr.add_lit, Nat.zero_add]; exact hX j v hj) (by rw [hRl, hxl]; omega) h1x
    rwa [hmin] at h
  obtain ⟨W2, hW2⟩ : ∃ W2, W2 = W1.setRow w.heap.size (laidAt R0 (i * 3) xc).toArray := ⟨_, rfl⟩
  have hN2 : W2.heap[w.heap.size]? = some (.cells (laidAt R0 (i * 3) xc).toArray 38 (0, 0)) := by rw [hW2]; exact setRow_heap _ _ _ _ _ _ hN1
  have hO2 : ∀ k, k < w.heap.size → W2.heap[k]? = W1.heap[k]? := fun k hk => by rw [hW2]; exact setRow_other _ _ _ _ (by omega)
  have hS2 : W2.heap.size = W1.heap.size := by rw [hW2]; simp [World.setRow]
  rw [← hW2] at hcpA
  have hB2 : w.grownBy W2 none := by
    rw [hW2]
    exact ⟨hB1.os, hB1.tape, hB1.output, by simp [World.setRow]; omega, fun k hk _ => (setRow_other _ _ _ _ (by omega)).trans (hB1.block k hk)⟩
  clear hW2
  have hG2d : W2.drew.heap[g]? = some (.cells cur.toArray 38 (0, 0)) := by show W2.heap[g]? = _; rw [hO2 g hgw]; exact blk_below hg hB1
  have hdl : (cs.drop (i * 3)).length = (n - i) * 3 := by rw [List.length_drop, hcl]; omega
  have hcpB : ∀ ty dc sc, (Builtin.copy_ #[22, 22] ty #[.slice (some ⟨w.heap.size, (i + 1) * 3, none⟩) (n + 1 - (i + 1)) dc, .slice (some ⟨g, i * 3, none⟩) (n - i) sc]).run Try.prog W2.drew = .ok (goInt (n - i : Nat)) (W2.drew.setRow w.heap.size (laidAt (laidAt R0 (i * 3) xc) ((i + 1) * 3) (cs.drop (i * 3))).toArray) := fun ty dc sc => by
    have hmin : Nat.min (n - i) (n + 1 - (i + 1)) = n - i := by simp only [Nat.min_def]; split <;> omega
    have h := run_copy3 (P := Try.prog) W2.drew 22 22 ty 38 3 w.heap.size ((i + 1) * 3) (n + 1 - (i + 1)) dc ⟨g, i * 3, none⟩ (n - i) sc (laidAt R0 (i * 3) xc) 38 (cs.drop (i * 3)) Try.underlying22 hsz hN2 (by rw [hmin, hdl]) (fun j v hj => by rw [Addr.add_lit]; exact hcell _ hG2d (i * 3 + j) v (by rwa [List.getElem?_drop] at hj)) (by rw [laid_len (by rw [hRl, hxl]; omega), hRl, hdl]; omega) (fun v hv => h1c v (List.mem_of_mem_drop hv))
    rwa [hmin] at h
  obtain ⟨W3, hW3⟩ : ∃ W3, W3 = W2.drew.setRow w.heap.size (laidAt (laidAt R0 (i * 3) xc) ((i + 1) * 3) (cs.drop (i * 3))).toArray := ⟨_, rfl⟩
  have hN3 : W3.heap[w.heap.size]? = some (.cells (laidAt (laidAt R0 (i * 3) xc) ((i + 1) * 3) (cs.drop (i * 3))).toArray 38 (0, 0)) := by rw [hW3]; exact setRow_heap _ _ _ _ _ _ hN2
  rw [← hW3] at hcpB
  have hB3 : w.grownBy W3 (some g) := by
    rw [hW3]
    exact ⟨hB2.os, hB2.tape, hB2.output, by simp [World.setRow]; exact hB2.size, fun k hk _ => (setRow_other _ _ _ _ (by omega)).trans (hB2.block k hk (by simp))⟩
  clear hW3
  have hfin : InsPost base g n (cs.take (i * 3) ++ xc ++ cs.drop (i * 3)) w (.returned (.slice (some ⟨w.heap.size, 0, none⟩) (n + 1) G)) W3 := by
    refine ⟨_, rfl, ⟨by simp [hcl, hxl]; omega, .inr ⟨_, _, _, rfl, hbase, hN3, hGn, hG63, ?_, ?_⟩⟩, hB3⟩
    · rw [List.size_toArray, laid_len (by rw [laid_len (by rw [hRl, hxl]; omega), hRl, hdl]; omega), laid_len (by rw [hRl, hxl]; omega), hRl]
    · have := laid_two (cur := R0) (P := cs.take (i * 3)) (X := xc) (D := cs.drop (i * 3)) (a := i * 3) (x := 3) (d := (n - i) * 3) hRt (by simp; omega) hxl hdl (by rw [hRl]; omega)
      rw [show (i + 1) * 3 = i * 3 + 3 by omega]
      rw [← this]
      congr 1
      omega
  have HFIN := Aside0.mk hfin
  have hz2 : ¬ ((i : Int) = (n : Int)) := by omega
  have hz2b : ((i : Int) == (n : Int)) = false := beq_eq_false_iff_ne.mpr hz2
  have hw1 : IntKind.i64.wrap ((i : Int) + 1) = (i : Int) + 1 := by rw [IntKind.wrap_i64]; omega
  have hw2 : IntKind.i64.wrap ((n : Int) + 1) = (n : Int) + 1 := by rw [IntKind.wrap_i64]; omega
  have hw3 : IntKind.i64.wrap ((n : Int) + 1 - (i : Int)) = (n : Int) + 1 - (i : Int) := by rw [IntKind.wrap_i64]; omega
  have hz3 : (n : Int) < (n : Int) + 1 := by omega
  have hb1 : (0 : Int) ≤ (i : Int) + 1 := by omega
  have htn : ((i : Int) + 1).toNat = i + 1 := by omega
  have hin : i ≤ n := by omega
  have hni : ¬ (n = i) := by omega
  have hGi : ¬ (G = i) := by omega
  have hGi1 : ¬ (G = i + 1) := by omega
  unfold maxLen at hG63
  have HA := Lib.hid hcpA
  have HBB := Lib.hid hcpB
  have HZ := Lib.hid hrz
  have HI := Aside0.mk hi
  clear hfin hcpA hcpB hrz hold hcell hcell2 hR0 hRl hRt hkk hg hg2 hcs hcl h1c hx hxl h1x hB1 hN1 hS1 hX hN2 hO2 hS2 hB2 hG2d hdl hN3 hB3 hsz hi0 hz0 hz1 hz2 hG hgw2
  go_enter Try.func21, Try.ntmps21
  go_wp2_with (first
    | (at_builtin; refine Lib.wpList_append_run _ rfl _ _ _ _ rfl _ _ rfl rfl _ _ (HZ.out _) ?_)
    | (simp only [HA.out]))
  have mixed : Try.prog.follows Departure.mixedOrders = true := by kernel_rfl
  go_region_law_o (refine step_copy_run3 rfl (.tmp 50) (.tmp 53) 22 22 rfl (.slice (some ⟨w.heap.size, (i + 1) * 3, none⟩) (n + 1 - (i + 1)) (G - (i + 1))) (.slice (some ⟨g, i * 3, none⟩) (n - i) (n - i)) (by simp [Act.eval, Act.put]) (by simp [Act.eval, Act.put]) (HBB.out _ _ _) ?_)
  go_wp2
  go_ret
  exact HFIN.out
end Go.Proofs.Ytbhdodkkebgjcaa.A.P
