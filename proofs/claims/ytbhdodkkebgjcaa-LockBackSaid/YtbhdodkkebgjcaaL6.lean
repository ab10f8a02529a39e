/- Insert of one monitor into a row of one's own: at the end; with a new row; in place. -/
import Derived.Test.YtbhdodkkebgjcaaL5
import Derived.Deep.LoopGhost
import Derived.Deep.RegionLaw
import Derived.Shelf.RegionOpenPlain
namespace Go.Proofs.Ytbhdodkkebgjcaa.A.P
open Go.RowKit Go.Proofs.YtbhdodkkebgjcaaW.PrintWords Go.Proofs.YtbhdodkkebgjcaaW.PrintLast Go.Proofs.YtbhdodkkebgjcaaW.PrintMore
set_option linter.unusedSimpArgs false
set_option linter.unusedVariables false
set_option maxHeartbeats 4000000 in
/-- The end. -/
theorem insert_end (base : Nat) (u0 : Value) (A0 : Option Addr) (n c0 : Nat) (xs : List S38) (ad : Addr) (c2 : Nat) (x : S38) (w : World) (hu : u0 = .slice A0 n c0) (hx : xs.length = n) (ho : w.ownsRow base 38 3 u0 n (fl xs)) (hb : base ≤ w.heap.size) (hn : n ≤ 5864062014700)
    (hs : ∀ j u, (fl [x])[j]? = some u → w.cell? (ad.add j) = some u) :
    Calls Try.prog 21 #[u0, .int .i64 (n : Int), .slice (some ad) 1 c2] w fun e w' => ∃ v, e = .returned v ∧ w'.ownsRow base 38 3 v (n + 1) (fl (xs ++ [x])) ∧ w.grownBy w' u0.ownBlock := by
  have HS := Lib.hid hs
  have HO := Aside0.mk ho
  have HN := Aside0.mk hn
  have HB := Aside0.mk hb
  have hn63 : (n : Int) ≤ 9223372036854775807 := by omega
  have hnc : n ≤ c0 := by
    rcases ho.2 with ⟨_, h⟩ | ⟨g, cap, cur, h, _, _, h2, _⟩
    · omega
    · rw [hu] at h; simp at h; omega
  obtain ⟨i0, hi, hz0, hz1, hz2⟩ := info_parts info38
  have HI := Aside0.mk (And.intro hi (And.intro hz0 (And.intro hz1 hz2)))
  clear hi hz0 hz1 hz2 hs ho hn hb hx
  subst hu
  obtain ⟨q0, hq0⟩ : ∃ q, Aside0 ((Value.slice A0 n c0).ownBlock = q) := ⟨_, ⟨rfl⟩⟩
  rw [hq0.out]
  go_enter Try.func21, Try.ntmps21
  go_wp2_with (first | (at_builtin; refine wpList_append_own _ rfl (.tmp 23) (.tmp 24) 22 rfl base 38 i0 _ 3 24 Try.underlying22 HI.out.1 HI.out.2.1 HI.out.2.2.1 HI.out.2.2.2 (by rfl) (by omega) (.slice A0 n _) n (fl xs) rfl HO.out ad 1 c2 (fl [x]) rfl rfl HS.out (fl_one _) (by have := HN.out; simp [maxLen]; omega) (by have := HN.out; omega) HB.out ?_; intro v1 w1 hown1 hgr1 _; have HO1 := Aside0.mk hown1; have HG1 := Aside0.mk (show w.grownBy w1 q0 by rw [← hq0.out]; exact hgr1); clear hown1 hgr1))
  all_goals (go_ret; exact ⟨v1, rfl, by rw [fl_append]; exact HO1.out, HG1.out⟩)
section
variable {P : Program}
/-- A row behind a copy: cs over cur from o on. -/
def laidAt (cur : List Value) (o : Nat) (cs : List Value) : List Value := cur.take o ++ cs ++ cur.drop (o + cs.length)
theorem laid_len {cur cs : List Value} {o : Nat} (h : o + cs.length ≤ cur.length) : (laidAt cur o cs).length = cur.length := by
  unfold laidAt
  simp; omega
theorem run_copy3 (w : World) (dT sT ty elem : TypeId) (S g o dLen dCap : Nat) (a : Addr) (sLen sCap : Nat) (cur : List Value) (t : TypeId) (cs : List Value)
    (hu : P.underlying dT = some (.slice elem)) (hs : (P.info? elem).map (·.size) = some S)
    (hg : w.heap[g]? = some (.cells cur.toArray t (0, 0))) (hn : cs.length = Nat.min sLen dLen * S)
    (hsrc : ∀ j v, cs[j]? = some v → w.cell? (a.add j) = some v) (hfit : o + cs.length ≤ cur.length) (h1 : ∀ v ∈ cs, v.oneCell' = true) :
    (Builtin.copy_ #[dT, sT] ty #[.slice (some ⟨g, o, none⟩) dLen dCap, .slice (some a) sLen sCap]).run P w =
      .ok (goInt (Nat.min sLen dLen)) (w.setRow g (laidAt cur o cs).toArray) := by
  have hl := run_loadCells_list (P := P) w a cs hsrc
  have hst := run_storeCells_at P g o t cs 0 cur.toArray w hg (by simpa using hfit) h1
  cases hq : P.info? elem with
  | none => simp [hq] at hs
  | some i =>
    have hi : i.size = S := by simpa [hq] using hs
    simp [Builtin.copy_, run_underlying hu, Builtin.lenOf, Builtin.firstCells, sizeOf, typeInfo, hq, hi, ← hn, hl, hst, laidAt]
theorem wpList_copy_run3 (w : World) {ops : Array Oper} {rest : List Oper} {o : Oper} {a : Act} {Q : Exit → Act → World → Prop} (hgd : o.guard = none) (d s : Operand) (t t' : TypeId)
    (ho : o.op = .call { callee := .builtin .copy, args := #[d, s], argTypes := #[t, t'] }) (v u : Value) (hd : a.eval d = v) (hs : a.eval s = u) {v' : Value} {w' : World}
    (hr : (Builtin.copy_ #[t, t'] o.type #[v, u]).run P w = .ok v' w') (h : wpList P ops Q rest (a.put o.dst v') w') : wpList P ops Q (o :: rest) a w := by
  refine wpList_plain hgd fun K hK => ?_
  unfold Oper.wp
  simp only [execOp, ho, resolve, invoke, builtin, List.map_toArray, List.map_cons, List.map_nil, Sem.run_bind, Sem.run_pure, Result.andThen_ok, hd, hs, hr]
  exact hK _ _ h
theorem step_copy_run3 {ops : Array Oper} {o : Oper} {a : Act} {w : World} {K : Act → World → Prop} {Q : Exit → Act → World → Prop} {E : Prop}
    (hg : o.guard = none) (d x : Operand) (dT sT : TypeId) (hop : o.op = Op.call { callee := Callee.builtin Builtin.copy, args := #[d, x], argTypes := #[dT, sT] })
    (v u : Value) (hd : a.eval d = v) (hx : a.eval x = u) {v' : Value} {w' : World} (hr : (Builtin.copy_ #[dT, sT] o.type #[v, u]).run P w = .ok v' w') (hK : K (a.put o.dst v') w') :
    if Region.wanted o (yielded ops a.tmps) = true then Oper.wp P o a w K Q else E := by
  have hw : Region.wanted o (yielded ops a.tmps) = true := by simp [Region.wanted, hg]
  rw [if_pos hw]
  unfold Oper.wp
  simp [execOp, hop, resolve, invoke, builtin, hd, hx, hr, Result.andThen]
  exact hK
end
/-- First the new one, then what stood behind it. -/
theorem laid_two {cur P X D : List Value} {a x d : Nat} (hP : cur.take a = P) (ha : P.length = a) (hx : X.length = x) (hd : D.length = d) (hl : a + x + d ≤ cur.length) :
    (laidAt (laidAt cur a X) (a + x) D).take (a + x + d) = P ++ X ++ D := by
  have h1 : (laidAt cur a X).take (a + x) = P ++ X := by
    unfold laidAt
    rw [hP, List.take_append_of_le_length (by simp; omega), List.take_of_length_le (by simp; omega)]
  unfold laidAt at h1 ⊢
  rw [h1, List.take_append_of_le_length (by simp; omega), List.take_of_length_le (by simp; omega)]
/-- First what stood behind it, then the new one. -/
theorem laid_two' {cur P X D : List Value} {a x d : Nat} (hP : cur.take a = P) (ha : P.length = a) (hx : X.length = x) (hd : D.length = d) (hl : a + x + d ≤ cur.length) :
    (laidAt (laidAt cur (a + x) D) a X).take (a + x + d) = P ++ X ++ D := by
  have h1 : (laidAt cur (a + x) D).take a = P := by
    unfold laidAt
    rw [List.append_assoc, List.take_append_of_le_length (by simp; omega), List.take_take, Nat.min_eq_left (by omega), hP]
  have h2 : (laidAt cur (a + x) D).drop (a + X.length) = D ++ cur.drop (a + x + D.length) := by
    unfold laidAt
    rw [List.append_assoc, List.drop_append_of_le_length (by simp; omega), List.drop_of_length_le (by simp; omega), List.nil_append]
  show ((laidAt cur (a + x) D).take a ++ X ++ (laidAt cur (a + x) D).drop (a + X.length)).take (a + x + d) = _
  rw [h1, h2, ← List.append_assoc, List.take_append_of_le_length (by simp; omega), List.take_of_length_le (by simp; omega)]
end Go.Proofs.Ytbhdodkkebgjcaa.A.P
