/- Delete of one monitor out of a row of one's own. -/
import Derived.Test.YtbhdodkkebgjcaaL6
namespace Go.Proofs.Ytbhdodkkebgjcaa.A.P
open Go.RowKit Go.Proofs.YtbhdodkkebgjcaaW.PrintWords Go.Proofs.YtbhdodkkebgjcaaW.PrintLast Go.Proofs.YtbhdodkkebgjcaaW.PrintMore
set_option linter.unusedSimpArgs false
set_option linter.unusedVariables false
section
variable {P : Program}
theorem run_clear3 (w : World) (t e ty : TypeId) (z : Value) (ht : P.underlying t = some (.slice e)) (hv : ∀ w, (zeroValue e).run P w = .ok z w) (g o n c : Nat) (cur : List Value) (te : TypeId) (zs : List Value) (hz : (Builtin.zeroCells z.cells n).toList = zs) (h1 : ∀ v ∈ zs, v.oneCell' = true) (hn : 0 < n)
    (hg : w.heap[g]? = some (.cells cur.toArray te (0, 0))) (hfit : o + zs.length ≤ cur.length) :
    (Builtin.clear_ #[t] ty #[.slice (some ⟨g, o, none⟩) n c]).run P w = .ok (.tuple #[]) (w.setRow g (laidAt cur o zs).toArray) := by
  have hst := run_storeCells_at P g o te zs 0 cur.toArray w hg (by simpa using hfit) h1
  obtain ⟨m, rfl⟩ : ∃ m, n = m + 1 := ⟨n - 1, by omega⟩
  simp [Builtin.clear_, run_underlying ht, hv, hz, hst, laidAt]
theorem step_append_run3 {ops : Array Oper} {o : Oper} {a : Act} {w : World} {K : Act → World → Prop} {Q : Exit → Act → World → Prop} {E : Prop}
    (hg : o.guard = none) (d x : Operand) (dT sT : TypeId) (hop : o.op = Op.call { callee := Callee.builtin Builtin.append, args := #[d, x], argTypes := #[dT, sT] })
    (v u : Value) (hd : a.eval d = v) (hx : a.eval x = u) {v' : Value} {w' : World} (hr : (Builtin.append_ #[dT, sT] o.type #[v, u]).run P w = .ok v' w') (hK : K (a.put o.dst v') w') :
    if Region.wanted o (yielded ops a.tmps) = true then Oper.wp P o a w K Q else E := by
  have hw : Region.wanted o (yielded ops a.tmps) = true := by simp [Region.wanted, hg]
  rw [if_pos hw]
  unfold Oper.wp
  simp [execOp, hop, resolve, invoke, builtin, hd, hx, hr, Result.andThen]
  exact hK
end
theorem laid_del {cur P D Z : List Value} {a d : Nat} (hP : cur.take a = P) (ha : P.length = a) (hd : D.length = d) (hl : a + d ≤ cur.length) : (laidAt (laidAt cur a D) (a + d) Z).take (a + d) = P ++ D := by
  have h1 : (laidAt cur a D).take (a + d) = P ++ D := by
    unfold laidAt
    rw [hP, List.take_append_of_le_length (by simp; omega), List.take_of_length_le (by simp; omega)]
  unfold laidAt at h1 ⊢
  rw [h1, List.append_assoc, List.take_append_of_le_length (by simp; omega), List.take_of_length_le (by simp; omega)]
theorem zc1 : (Builtin.zeroCells (Value.agg #[Value.int IntKind.i64 0, Value.int IntKind.i64 0, Value.int IntKind.i64 0]).cells 1).toList = [Value.int IntKind.i64 0, Value.int IntKind.i64 0, Value.int IntKind.i64 0] := by
  have h : (Value.agg #[Value.int IntKind.i64 0, Value.int IntKind.i64 0, Value.int IntKind.i64 0]).cells = #[Value.int IntKind.i64 0, Value.int IntKind.i64 0, Value.int IntKind.i64 0] := rfl
  rw [h]
  simp [Builtin.zeroCells]
  rfl
def DelPost (base g n : Nat) (xs : List Value) (w : World) (e : Ending) (w' : World) : Prop :=
  ∃ v, e = .returned v ∧ w'.ownsRow base 38 3 v (n - 1) xs ∧ w.grownBy w' (some g) ∧ v.ownBlock = some g
set_option maxHeartbeats 8000000 in
set_option maxRecDepth 100000 in
theorem delete_any (base g n c i : Nat) (cur : List Value) (cs : List Value) (w : World)
    (hg : w.heap[g]? = some (.cells cur.toArray 38 (0, 0))) (hcs : cur.take (n * 3) = cs) (hcur : cur.length = c * 3) (h1c : ∀ v ∈ cs, v.oneCell' = true)
    (hi : i < n) (hn : n ≤ 5864062014700) (hc : n ≤ c) (hcm : c ≤ maxLen) (hbase : base ≤ g) :
    Calls Try.prog 24 #[.slice (some ⟨g, 0, none⟩) n c, .int .i64 (i : Int), .int .i64 ((i : Int) + 1)] w fun e w' => DelPost base g n (cs.take (i * 3) ++ cs.drop ((i + 1) * 3)) w e w' := by
  obtain ⟨i0, hi0, hz0, hz1, hz2⟩ := info_parts info38
  have hcl : cs.length = n * 3 := by rw [← hcs, List.length_take, hcur]; omega
  obtain ⟨D, hD⟩ : ∃ D, D = cs.drop ((i + 1) * 3) := ⟨_, rfl⟩
  have hdl : D.length = (n - (i + 1)) * 3 := by rw [hD, List.length_drop, hcl]; omega
  have h1d : ∀ v ∈ D, v.oneCell' = true := fun v hv => h1c v (List.mem_of_mem_drop (hD ▸ hv))
  obtain ⟨A, hA, hsrc⟩ : ∃ A : Addr, (if c = i + 1 then (some ⟨g, 0, none⟩ : Option Addr) else some ⟨g, (i + 1) * 3, none⟩) = some A ∧ (∀ j v, D[j]? = some v → w.drew.cell? (A.add j) = some v) := by
    by_cases h : c = i + 1
    · refine ⟨_, by rw [if_pos h], fun j v hj => ?_⟩
      rw [List.eq_nil_of_length_eq_zero (show D.length = 0 by rw [hdl]; omega)] at hj
      simp at hj
    · refine ⟨_, by rw [if_neg h], fun j v hj => ?_⟩
      rw [Addr.add_lit, show w.drew.cell? _ = w.cell? _ from rfl, blk_cell hg]
      rw [hD, List.getElem?_drop, ← hcs, List.getElem?_take] at hj
      split at hj
      · simpa using hj
      · simp at hj
  have hap : ∀ ty dc, (Builtin.append_ #[22, 22] ty #[.slice (some ⟨g, 0, none⟩) i c, .slice (some A) (n - (i + 1)) dc]).run Try.prog w.drew = .ok (.slice (some ⟨g, 0, none⟩) (n - 1) c) (w.drew.setRow g (laidAt cur (i * 3) D).toArray) := fun ty dc => by
    have h := run_append_room (P := Try.prog) w.drew 22 ty 38 i0 Try.underlying22 hi0 g i c cur.toArray hg A (n - (i + 1)) dc D (by rw [hz1, hdl]) hsrc h1d (by omega) (by rw [hz1, hdl, List.size_toArray, hcur]; omega)
    rw [hz1] at h
    rw [h, show i + (n - (i + 1)) = n - 1 by omega]
    rfl
  obtain ⟨W1, hW1⟩ : ∃ W1, W1 = w.drew.setRow g (laidAt cur (i * 3) D).toArray := ⟨_, rfl⟩
  have hN1 : W1.heap[g]? = some (.cells (laidAt cur (i * 3) D).toArray 38 (0, 0)) := by rw [hW1]; exact setRow_heap _ _ _ _ _ _ hg
  have hB1 : w.grownBy W1 (some g) := by
    rw [hW1]
    exact ⟨rfl, rfl, rfl, by simp [World.setRow], fun k hk hne => setRow_other _ _ _ _ (fun e => hne (by rw [e]))⟩
  rw [← hW1] at hap
  clear hW1
  have hL1 : (laidAt cur (i * 3) D).length = c * 3 := by rw [laid_len (by rw [hcur, hdl]; omega), hcur]
  have hzv : ∀ w, (zeroValue 38).run Try.prog w = .ok (.agg #[.int .i64 0, .int .i64 0, .int .i64 0]) w := fun w => by simp [zeroValue, typeInfo, hi0, hz0]
  have hcr : ∀ ty dc, (Builtin.clear_ #[22] ty #[.slice (some ⟨g, (n - 1) * 3, none⟩) (n - (n - 1)) dc]).run Try.prog W1 = .ok (.tuple #[]) (W1.setRow g (laidAt (laidAt cur (i * 3) D) ((n - 1) * 3) [.int .i64 0, .int .i64 0, .int .i64 0]).toArray) := fun ty dc =>
    run_clear3 W1 22 38 ty _ Try.underlying22 hzv g ((n - 1) * 3) (n - (n - 1)) dc _ 38 [.int .i64 0, .int .i64 0, .int .i64 0] (by rw [show n - (n - 1) = 1 by omega]; exact zc1) (by simp [Value.oneCell']) (by omega) hN1 (by rw [hL1]; simp; omega)
  obtain ⟨W2, hW2⟩ : ∃ W2, W2 = W1.setRow g (laidAt (laidAt cur (i * 3) D) ((n - 1) * 3) [.int .i64 0, .int .i64 0, .int .i64 0]).toArray := ⟨_, rfl⟩
  have hN2 : W2.heap[g]? = some (.cells (laidAt (laidAt cur (i * 3) D) ((n - 1) * 3) [.int .i64 0, .int .i64 0, .int .i64 0]).toArray 38 (0, 0)) := by rw [hW2]; exact setRow_heap _ _ _ _ _ _ hN1
  rw [← hW2] at hcr
  have hB2 : w.grownBy W2 (some g) := by
    rw [hW2]
    exact ⟨hB1.os, hB1.tape, hB1.output, by simp [World.setRow]; exact hB1.size, fun k hk hne => (setRow_other _ _ _ _ (fun e => hne (by rw [e]))).trans (hB1.block k hk hne)⟩
  clear hW2
  have hfin : DelPost base g n (cs.take (i * 3) ++ D) w (.returned (.slice (some ⟨g, 0, none⟩) (n - 1) c)) W2 := by
    refine ⟨_, rfl, ⟨by simp [hcl, hdl]; omega, .inr ⟨_, _, _, rfl, hbase, hN2, by omega, hcm, ?_, ?_⟩⟩, hB2, rfl⟩
    · rw [List.size_toArray, laid_len (by rw [hL1]; simp; omega), hL1]
    · have hRt : cur.take (i * 3) = cs.take (i * 3) := by rw [← hcs, List.take_take, Nat.min_eq_left (by omega)]
      have := laid_del (cur := cur) (P := cs.take (i * 3)) (D := D) (Z := [.int .i64 0, .int .i64 0, .int .i64 0]) (a := i * 3) (d := (n - (i + 1)) * 3) hRt (by simp; omega) hdl (by rw [hcur]; omega)
      rw [show (n - 1) * 3 = i * 3 + (n - (i + 1)) * 3 by omega]
      exact this
  rw [← hD]
  have HFIN := Aside0.mk hfin
  have hz2b : ((i : Int) == (i : Int) + 1) = false := beq_eq_false_iff_ne.mpr (by omega)
  have hb1 : (0 : Int) ≤ (i : Int) + 1 := by omega
  have hb2 : ((i : Int) + 1).toNat = i + 1 := by omega
  have hb3 : (i : Int) + 1 ≤ (n : Int) := by omega
  have hb4 : (i : Int) ≤ (i : Int) + 1 := by omega
  have hb5 : i ≤ c := by omega
  have hb6 : i + 1 ≤ n := by omega
  have hb7 : ¬ (c = n - 1) := by omega
  have hb8 : n - 1 ≤ n := by omega
  have hb9 : (i : Int) ≤ (c : Int) := by omega
  have hb10 : (n : Int) ≤ (c : Int) := by omega
  have hb11 : ((n - 1 : Nat) : Int) ≤ (n : Int) := by omega
  have hb12 : ¬ (c = i) := by omega
  unfold maxLen at hcm
  have HA := Lib.hid hap
  have HCL := Lib.hid hcr
  have HAD := Lib.hid hA
  have mixed : Try.prog.follows Departure.mixedOrders = true := by kernel_rfl
  clear hfin hap hcr hg hcs hcl hcur h1c hN1 hB1 hL1 hN2 hB2 hdl hi0 hz0 hz1 hz2 hzv h1d hsrc hA hD
  go_enter Try.func24, Try.ntmps24
  go_wp2
  go_region_law_o (refine step_append_run3 rfl (.tmp 22) (.tmp 25) 22 22 rfl (.slice (some ⟨g, 0, none⟩) i c) (.slice (some A) (n - (i + 1)) (c - (i + 1))) (by simp [Act.eval, Act.put]) (by simp [Act.eval, Act.put, HAD.out]) (HA.out _ _) ?_)
  go_wp2_with (first | (simp only [HCL.out]))
  all_goals go_ret
  all_goals first | exact HFIN.out | (have h5 := HFIN.out; rw [show c = i + 1 by assumption] at h5; exact h5)
def api_Monitor_24.f (l : List S38) (i j : Int) : Option (List S38) := if 0 ≤ i ∧ j = i + 1 ∧ j ≤ l.length ∧ l.length ≤ 5864062014700 then some (l.take i.toNat ++ l.drop (i.toNat + 1)) else none
theorem api_Monitor_24.calls (P0_ : Nat → Prop) (u0 : Value) (l0 : List S38) (a1 a2 : Int) (r : List S38) (w0 w : World) (hB : Below w0.heap.size w0 w) (ho0 : Kd.R k38 38 w w0.heap.size P0_ u0 l0) (h : api_Monitor_24.f l0 a1 a2 = some r) :
    Calls Try.prog 24 #[u0, .int .i64 a1, .int .i64 a2] w fun e w' => ∃ v0_ : Value, e = .returned v0_ ∧ Kd.R k38 38 w' w0.heap.size (fun _ => True) v0_ r ∧ Below w0.heap.size w0 w' ∧ Kept w w' (fun k_ => P0_ k_) := by
  unfold api_Monitor_24.f at h
  split at h
  case isFalse => simp at h
  case isTrue hc =>
  obtain ⟨h1, rfl, h3, h4⟩ := hc
  simp only [Option.some.injEq] at h
  subst h
  obtain ⟨i, rfl⟩ : ∃ i : Nat, a1 = (i : Int) := ⟨a1.toNat, by omega⟩
  have hf0 := R_flat ho0
  simp only [Int.toNat_natCast]
  have hi : i < l0.length := by omega
  obtain ⟨g, c, cur, rfl, hgb, hg, hcl, hcm, hcs, hct⟩ : ∃ g c cur, u0 = .slice (some ⟨g, 0, none⟩) l0.length c ∧ w0.heap.size ≤ g ∧ w.heap[g]? = some (.cells cur 38 (0, 0)) ∧ l0.length ≤ c ∧ c ≤ maxLen ∧ cur.size = c * 3 ∧ cur.toList.take (l0.length * 3) = fl l0 := by
    rcases hf0.2 with ⟨_, hn⟩ | ⟨g, cap, cur, e, hb, hg, hc, hm, hs, ht⟩
    · omega
    · exact ⟨g, cap, cur, e, hb, hg, hc, hm, hs, ht⟩
  have hP0 : P0_ g := ho0.1 g rfl
  refine (delete_any w0.heap.size g l0.length c i cur.toList (fl l0) w hg hct (by simpa using hcs) (fl_one _) hi h4 hcl hcm hgb).mono ?_
  rintro e w' ⟨v, rfl, hv, hgr, _⟩
  refine ⟨v, rfl, flat_R (n := l0.length - 1) (by rw [fl_append, fl_take, fl_drop]; exact hv) (by simp; omega) _ (fun _ _ => trivial), hB.grown hgr hB.size (fun k hk => ?_), (Kept.refl w _).of_grown hgr (fun k hk => .inl ?_)⟩
  · have : g = k := by simpa using hk
    omega
  · have : g = k := by simpa using hk
    exact this ▸ hP0
end Go.Proofs.Ytbhdodkkebgjcaa.A.P
