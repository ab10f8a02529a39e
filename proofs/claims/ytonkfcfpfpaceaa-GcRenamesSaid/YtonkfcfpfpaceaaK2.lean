/- The law GcRenames: the closure 'number'. -/
import Derived.Test.YtonkfcfpfpaceaaG9
import Derived.Test.YtonkfcfpfpaceaaMA5
import Derived.Test.YtonkfcfpfpaceaaMB
import Derived.Test.YtonkfcfpfpaceaaMA6
namespace Go.Proofs.Ytonkfcfpfpaceaa.A.P
open Go.RowKit Go.Proofs.YtonkfcfpfpaceaaW.PrintWords Go.Proofs.YtonkfcfpfpaceaaW.PrintLast Go.Proofs.YtonkfcfpfpaceaaW.PrintMore
set_option linter.unusedVariables false
set_option linter.unusedSimpArgs false
def renN (n : Nat) (k a0 a1 : Int) : Int := if a0 = 4 ∧ 1 ≤ a1 ∧ a1 ≤ n then wrap64 (Int.tmod (wrap64 (a1 - 1 + k)) n + 1) else a1
def larchlaw16_GcRenames_1.f (a0 a1 : Int) (l0 : List S37) (k : Int) : Option (Int × Int) := some (a0, renN l0.length k a0 a1)
theorem two_new (w : World) (o1 o2 : Obj) : ((w.alloc o1).alloc o2).heap[w.heap.size + 1]? = some o2 := by
  have h1 : (w.alloc o1).heap.size = w.heap.size + 1 := by simp
  have := blk_new (w.alloc o1) o2
  rwa [h1] at this
set_option maxHeartbeats 4000000 in
set_option maxRecDepth 100000 in
theorem numberC {Bl Bk : Nat} {A0 : Option Addr} {c0 n : Nat} {k : Int} (a0 a1 : Int) (w : World) (hn : n ≤ 100000000) (hl : w.cell? ⟨Bl, 0, none⟩ = some (.slice A0 n c0)) (hk : w.cell? ⟨Bk, 0, none⟩ = some (.int .i64 k)) :
    Calls Try.prog 27 #[.agg #[.int .i64 a0, .int .i64 a1], .pointer (some ⟨Bl, 0, none⟩), .pointer (some ⟨Bk, 0, none⟩)] w fun e w' => e = .returned (.agg #[.int .i64 a0, .int .i64 (renN n k a0 a1)]) ∧ Below w.heap.size w w' := by
  have hlt1 := World.block_lt_of_cell? w _ hl
  have hlt2 := World.block_lt_of_cell? w _ hk
  have hb2 : Below w.heap.size w ((w.alloc (.cells #[.int .i64 a0, .int .i64 a1] 41)).alloc (.cells #[.int .i64 0, .int .i64 0] 41)) := below_alloc (below_alloc (Below.refl _ _) _) _
  have hl2 := (hb2.cell (p := ⟨Bl, 0, none⟩) hlt1).trans hl
  have hk2 := (hb2.cell (p := ⟨Bk, 0, none⟩) hlt2).trans hk
  have HB2 := Aside0.mk hb2
  clear hb2 hlt1 hlt2
  by_cases q1 : a0 = 4
  · subst q1
    by_cases q2 : 1 ≤ a1
    · have q2c : decide (1 ≤ a1) = true := decide_eq_true q2
      by_cases q3 : a1 ≤ (n : Int)
      · have q3b : decide (a1 ≤ (n : Int)) = true := decide_eq_true q3
        have hn1 : ¬ (n : Int) = 0 := by omega
        have hn2 : ¬ n = 0 := by omega
        have hn0 : ((n : Int) == 0) = false := by simpa using hn1
        have e : renN n k 4 a1 = wrap64 (Int.tmod (wrap64 (a1 - 1 + k)) n + 1) := by unfold renN; rw [if_pos ⟨rfl, q2, q3⟩]
        rw [e]
        clear e
        go_enter Try.func27, Try.ntmps27
        go_wp2
        refine bodyPost_ret (results_single rfl (.cell (w.heap.size + 1) 41 _ (0, 0) _ rfl (two_new w _ _) Try.underlying41 rfl (by kernel_rfl) .nil)) rfl ?_
        exact ⟨rfl, below_alloc (below_alloc (Below.refl _ _) _) _⟩
      · have q3b : decide (a1 ≤ (n : Int)) = false := decide_eq_false q3
        have e : renN n k 4 a1 = a1 := by unfold renN; rw [if_neg (fun h => q3 h.2.2)]
        rw [e]
        clear e
        go_enter Try.func27, Try.ntmps27
        go_wp2
        refine bodyPost_ret (results_single rfl (.cell (w.heap.size + 1) 41 _ (0, 0) _ rfl (two_new w _ _) Try.underlying41 rfl (by kernel_rfl) .nil)) rfl ?_
        exact ⟨rfl, below_alloc (below_alloc (Below.refl _ _) _) _⟩
    · have q2c : decide (1 ≤ a1) = false := decide_eq_false q2
      have e : renN n k 4 a1 = a1 := by unfold renN; rw [if_neg (fun h => q2 h.2.1)]
      rw [e]
      clear e
      go_enter Try.func27, Try.ntmps27
      go_wp2
      refine bodyPost_ret (results_single rfl (.cell (w.heap.size + 1) 41 _ (0, 0) _ rfl (two_new w _ _) Try.underlying41 rfl (by kernel_rfl) .nil)) rfl ?_
      exact ⟨rfl, below_alloc (below_alloc (Below.refl _ _) _) _⟩
  · have q1b : (a0 == 4) = false := by simpa using q1
    have e : renN n k a0 a1 = a1 := by unfold renN; rw [if_neg (fun h => q1 h.1)]
    rw [e]
    clear q1 e
    go_enter Try.func27, Try.ntmps27
    go_wp2
    refine bodyPost_ret (results_single rfl (.cell (w.heap.size + 1) 41 _ (0, 0) _ rfl (two_new w _ _) Try.underlying41 rfl (by kernel_rfl) .nil)) rfl ?_
    exact ⟨rfl, below_alloc (below_alloc (Below.refl _ _) _) _⟩
section
attribute [local go_sem] max2_int min2_int max_two min_two max_three min_three max_four min_four   -- for this text's walks alone


/-! ### larchbase_Among: function 26 -/
def larchbase_Among.f (a0 : Int) (a1 : Int) : Option (Int) := if a1 < 1 then (some 0) else (if (IntKind.u64.wrap (a1)) = 0 then (none) else (some (wrap64 (Int.tmod (IntKind.u64.wrap (a0)) (IntKind.u64.wrap (a1))))))
set_option maxHeartbeats 8000000 in
set_option maxRecDepth 100000 in
theorem larchbase_Among.calls (a0 : Int) (a1 : Int) (r : Int) (w : World) (h : larchbase_Among.f a0 a1 = some r) :
    Calls Try.prog 26 #[.int .i64 a0, .int .i64 a1] w fun e w' => e = .returned (.int .i64 r) ∧ Drawn0 w w' := by
  have H : (if a1 < 1 then (some 0) else (if (IntKind.u64.wrap (a1)) = 0 then (none) else (some (wrap64 (Int.tmod (IntKind.u64.wrap (a0)) (IntKind.u64.wrap (a1))))))) = some r := h
  clear h
  by_cases c3 : a1 < 1
  · rw [if_pos c3] at H
    have c3b0 : decide (a1 < 1) = true := decide_eq_true c3
    clear c3
    obtain rfl := Option.some.inj H
    go_enter Try.func26, Try.ntmps26
    go_wp2
    go_ret
    exact ⟨by first | rfl | (simp; done) | (simp [*]; done), by repeat (first | exact Drawn0.refl _ | apply Drawn0.step)⟩
  · rw [if_neg c3] at H
    have c3b0 : decide (a1 < 1) = false := decide_eq_false c3
    clear c3
    by_cases c4 : (IntKind.u64.wrap (a1)) = 0
    · rw [if_pos c4] at H
      exact absurd H (by simp)
    · rw [if_neg c4] at H
      have c4b0 : ((IntKind.u64.wrap (a1)) == 0) = false := beq_eq_false_iff_ne.mpr c4
      have c4b1 : ((IntKind.u64.wrap (a1)) != 0) = true := bne_iff_ne.mpr c4
      obtain rfl := Option.some.inj H
      go_enter Try.func26, Try.ntmps26
      go_wp2
      go_ret
      exact ⟨by first | rfl | (simp; done) | (simp [*]; done), by repeat (first | exact Drawn0.refl _ | apply Drawn0.step)⟩



/-! ### larchlaw16_GcRenames: function 8 -/
mutual
def larchlaw16_GcRenames.j0 : Nat → List (S41) → Int → List (S37) → Bool → Option (Bool)
  | 0, _, _, _, _ => none
  | k + 1, x1, x2, x3, x44 => if x44 = true then (some true) else (if 0 ≤ (x3.length : Int) then (if ((x3.length : Int) : Int).toNat ≤ 7036874417766 then (larchlaw16_GcRenames.l0 k x1 x3 x2 (List.replicate ((x3.length : Int) : Int).toNat z37) 0) else (none)) else (none))
def larchlaw16_GcRenames.l0 : Nat → List (S41) → List (S37) → Int → List (S37) → Int → Option (Bool)
  | 0, _, _, _, _, _ => none
  | k + 1, x1, x3, x7, x9, x10 => if x10 < (x3.length : Int) then (if 0 ≤ x10 then (larchlaw16_GcRenames.l1 k x1 x3 x7 x9 x10 0 ((rd_T37 x3 x10).f0) ([] : List (S41))) else (none)) else (larchlaw16_GcRenames.l2 k x1 x3 x7 x9 (([] : List (S41))) 0)
def larchlaw16_GcRenames.l1 : Nat → List (S41) → List (S37) → Int → List (S37) → Int → Int → ByteArray → List (S41) → Option (Bool)
  | 0, _, _, _, _, _, _, _, _ => none
  | k + 1, x1, x3, x7, x9, x10, x12, x171000, x171001 => if 0 ≤ x10 then (if x10 < (x3.length : Int) then (if x12 < (((rd_T37 x3 x10).f1).length : Int) then (if 0 ≤ x12 then ((larchlaw16_GcRenames_1.f ((rd_T41 ((rd_T37 x3 x10).f1) x12).f0) ((rd_T41 ((rd_T37 x3 x10).f1) x12).f1) x3 x7).bind fun bt174 => (if x171001.length < 8796093022208 then (larchlaw16_GcRenames.l1 k x1 x3 x7 x9 x10 (wrap64 (x12 + 1)) x171000 (x171001 ++ [(⟨bt174.1, bt174.2⟩ : S41)])) else (none))) else (none)) else (if (x3.length : Int) = 0 then (none) else (if 0 ≤ (Int.tmod (wrap64 (x10 + x7)) (x3.length : Int)) then (if (Int.tmod (wrap64 (x10 + x7)) (x3.length : Int)) < (x9.length : Int) then (larchlaw16_GcRenames.l0 k x1 x3 x7 (x9.set ((Int.tmod (wrap64 (x10 + x7)) (x3.length : Int)) : Int).toNat (⟨x171000, x171001⟩ : S37)) (wrap64 (x10 + 1))) else (none)) else (none)))) else (none)) else (none)
def larchlaw16_GcRenames.l2 : Nat → List (S41) → List (S37) → Int → List (S37) → List (S41) → Int → Option (Bool)
  | 0, _, _, _, _, _, _ => none
  | k + 1, x1, x3, x7, x9, x13, x14 => if x14 < (x1.length : Int) then (if 0 ≤ x14 then ((larchlaw16_GcRenames_1.f ((rd_T41 x1 x14).f0) ((rd_T41 x1 x14).f1) x3 x7).bind fun bt184 => (if x13.length < 8796093022208 then (larchlaw16_GcRenames.l2 k x1 x3 x7 x9 (x13 ++ [(⟨bt184.1, bt184.2⟩ : S41)]) (wrap64 (x14 + 1))) else (none))) else (none)) else ((gc_Same.f k x3 x1 x9 x13).bind fun bt189 => (if bt189.1 = true then (some (bt189.2 == 0)) else (some false)))
end
def larchlaw16_GcRenames.f (k : Nat) (l0 : List (S37)) (l1 : List (S41)) (a2 : Int) : Option (Bool) := if (l1.length : Int) > 300 then (larchlaw16_GcRenames.j0 k l1 a2 l0 true) else (if 0 = 0 then (if (l0.length : Int) = 0 then (larchlaw16_GcRenames.j0 k l1 a2 l0 true) else (larchlaw16_GcRenames.j0 k l1 a2 l0 ((l0.length : Int) != (l0.length : Int)))) else (larchlaw16_GcRenames.j0 k l1 a2 l0 true))
theorem larchlaw16_GcRenames.mono_l : ∀ k, (∀ y0 y1 y2 y3, LeO (larchlaw16_GcRenames.j0 k y0 y1 y2 y3) (larchlaw16_GcRenames.j0 (k + 1) y0 y1 y2 y3)) ∧ (∀ y0 y1 y2 y3 y4, LeO (larchlaw16_GcRenames.l0 k y0 y1 y2 y3 y4) (larchlaw16_GcRenames.l0 (k + 1) y0 y1 y2 y3 y4)) ∧ (∀ y0 y1 y2 y3 y4 y5 y6 y7, LeO (larchlaw16_GcRenames.l1 k y0 y1 y2 y3 y4 y5 y6 y7) (larchlaw16_GcRenames.l1 (k + 1) y0 y1 y2 y3 y4 y5 y6 y7)) ∧ (∀ y0 y1 y2 y3 y4 y5, LeO (larchlaw16_GcRenames.l2 k y0 y1 y2 y3 y4 y5) (larchlaw16_GcRenames.l2 (k + 1) y0 y1 y2 y3 y4 y5))
  | 0 => ⟨fun _ _ _ _ r h => by simp [larchlaw16_GcRenames.j0] at h, fun _ _ _ _ _ r h => by simp [larchlaw16_GcRenames.l0] at h, fun _ _ _ _ _ _ _ _ r h => by simp [larchlaw16_GcRenames.l1] at h, fun _ _ _ _ _ _ r h => by simp [larchlaw16_GcRenames.l2] at h⟩
  | k + 1 => by
    obtain ⟨ih0, ih1, ih2, ih3⟩ := larchlaw16_GcRenames.mono_l k
    refine ⟨?_, ?_, ?_, ?_⟩
    · intro y0 y1 y2 y3
      unfold larchlaw16_GcRenames.j0
      repeat' first
      | (with_reducible exact ih0 _ _ _ _)
      | (with_reducible exact ih1 _ _ _ _ _)
      | (with_reducible exact ih2 _ _ _ _ _ _ _ _)
      | (with_reducible exact ih3 _ _ _ _ _ _)
      | (with_reducible exact gc_Same.mono _ _ _ _ _)
      | (with_reducible exact LeO.refl _)
      | (with_reducible exact LeO.none _)
      | (with_reducible refine LeO.ite ?_ ?_)
      | (with_reducible refine LeO.bind ?_ (fun _ => ?_))
      | exact ih0 _ _ _ _
      | exact ih1 _ _ _ _ _
      | exact ih2 _ _ _ _ _ _ _ _
      | exact ih3 _ _ _ _ _ _
      | exact gc_Same.mono _ _ _ _ _
      | exact LeO.none _
      | refine LeO.ite ?_ ?_
      | refine LeO.bind ?_ (fun _ => ?_)
    · intro y0 y1 y2 y3 y4
      unfold larchlaw16_GcRenames.l0
      repeat' first
      | (with_reducible exact ih0 _ _ _ _)
      | (with_reducible exact ih1 _ _ _ _ _)
      | (with_reducible exact ih2 _ _ _ _ _ _ _ _)
      | (with_reducible exact ih3 _ _ _ _ _ _)
      | (with_reducible exact gc_Same.mono _ _ _ _ _)
      | (with_reducible exact LeO.refl _)
      | (with_reducible exact LeO.none _)
      | (with_reducible refine LeO.ite ?_ ?_)
      | (with_reducible refine LeO.bind ?_ (fun _ => ?_))
      | exact ih0 _ _ _ _
      | exact ih1 _ _ _ _ _
      | exact ih2 _ _ _ _ _ _ _ _
      | exact ih3 _ _ _ _ _ _
      | exact gc_Same.mono _ _ _ _ _
      | exact LeO.none _
      | refine LeO.ite ?_ ?_
      | refine LeO.bind ?_ (fun _ => ?_)
    · intro y0 y1 y2 y3 y4 y5 y6 y7
      unfold larchlaw16_GcRenames.l1
      repeat' first
      | (with_reducible exact ih0 _ _ _ _)
      | (with_reducible exact ih1 _ _ _ _ _)
      | (with_reducible exact ih2 _ _ _ _ _ _ _ _)
      | (with_reducible exact ih3 _ _ _ _ _ _)
      | (with_reducible exact gc_Same.mono _ _ _ _ _)
      | (with_reducible exact LeO.refl _)
      | (with_reducible exact LeO.none _)
      | (with_reducible refine LeO.ite ?_ ?_)
      | (with_reducible refine LeO.bind ?_ (fun _ => ?_))
      | exact ih0 _ _ _ _
      | exact ih1 _ _ _ _ _
      | exact ih2 _ _ _ _ _ _ _ _
      | exact ih3 _ _ _ _ _ _
      | exact gc_Same.mono _ _ _ _ _
      | exact LeO.none _
      | refine LeO.ite ?_ ?_
      | refine LeO.bind ?_ (fun _ => ?_)
    · intro y0 y1 y2 y3 y4 y5
      unfold larchlaw16_GcRenames.l2
      repeat' first
      | (with_reducible exact ih0 _ _ _ _)
      | (with_reducible exact ih1 _ _ _ _ _)
      | (with_reducible exact ih2 _ _ _ _ _ _ _ _)
      | (with_reducible exact ih3 _ _ _ _ _ _)
      | (with_reducible exact gc_Same.mono _ _ _ _ _)
      | (with_reducible exact LeO.refl _)
      | (with_reducible exact LeO.none _)
      | (with_reducible refine LeO.ite ?_ ?_)
      | (with_reducible refine LeO.bind ?_ (fun _ => ?_))
      | exact ih0 _ _ _ _
      | exact ih1 _ _ _ _ _
      | exact ih2 _ _ _ _ _ _ _ _
      | exact ih3 _ _ _ _ _ _
      | exact gc_Same.mono _ _ _ _ _
      | exact LeO.none _
      | refine LeO.ite ?_ ?_
      | refine LeO.bind ?_ (fun _ => ?_)
theorem larchlaw16_GcRenames.mono : ∀ a0 a1 a2 k, LeO (larchlaw16_GcRenames.f k a0 a1 a2) (larchlaw16_GcRenames.f (k + 1) a0 a1 a2) := by
  intro a0 a1 a2 k
  obtain ⟨ih0, ih1, ih2, ih3⟩ := larchlaw16_GcRenames.mono_l k
  unfold larchlaw16_GcRenames.f
  repeat' first
      | (with_reducible exact ih0 _ _ _ _)
      | (with_reducible exact ih1 _ _ _ _ _)
      | (with_reducible exact ih2 _ _ _ _ _ _ _ _)
      | (with_reducible exact ih3 _ _ _ _ _ _)
      | (with_reducible exact gc_Same.mono _ _ _ _ _)
      | (with_reducible exact LeO.refl _)
      | (with_reducible exact LeO.none _)
      | (with_reducible refine LeO.ite ?_ ?_)
      | (with_reducible refine LeO.bind ?_ (fun _ => ?_))
      | exact ih0 _ _ _ _
      | exact ih1 _ _ _ _ _
      | exact ih2 _ _ _ _ _ _ _ _
      | exact ih3 _ _ _ _ _ _
      | exact gc_Same.mono _ _ _ _ _
      | exact LeO.none _
      | refine LeO.ite ?_ ?_
      | refine LeO.bind ?_ (fun _ => ?_)

theorem goesV_ {P : Program} {ops : Array Oper} {Q : Exit → Act → World → Prop} {oi : Oper} {N : Option Tmp} {a : Act} {w : World} {K : Act → World → Prop} {f : FuncId} {fn : Func} {xs : Array Operand} {ts : Array TypeId} {t : Tmp} (cs : Array Value) (hf : P.funcs[f]? = some fn) (hname : (fn.name == "runtime.NumGoroutine") = false) (hb : fn.body.isSome = true) (args : Array Value)
    (hw : Region.wanted oi (yielded ops a.tmps) = true) (hN : oi.dst = N) (hop : oi.op = .call { callee := .value (.tmp t), args := xs, argTypes := ts }) (ht : a.eval (.tmp t) = .func (.func f) #[] cs) (hargs : xs.map a.eval ++ cs = args)
    (h : Calls P f args w fun e w' => ∃ v, e = .returned v ∧ K (a.put N v) w') : if Region.wanted oi (yielded ops a.tmps) = true then Oper.wp P oi a w K Q else K (a.put N undef) w := by
  refine call_ f args hw hN ?_ h
  have he := enters_ hf hname hb args w
  unfold execOp
  simp [hop, resolve, Deferred.ofValue, invoke, ht, hargs, he]
theorem number_calls {Bl Bk : Nat} {A0 : Option Addr} {c0 : Nat} {l0 : List S37} {k : Int} (a0 a1 t u : Int) (w : World) (hn : l0.length ≤ 100000000) (hl : w.cell? ⟨Bl, 0, none⟩ = some (.slice A0 l0.length c0)) (hk : w.cell? ⟨Bk, 0, none⟩ = some (.int .i64 k)) (h : larchlaw16_GcRenames_1.f a0 a1 l0 k = some (t, u)) :
    Calls Try.prog 27 #[.agg #[.int .i64 a0, .int .i64 a1], .pointer (some ⟨Bl, 0, none⟩), .pointer (some ⟨Bk, 0, none⟩)] w fun e w' => e = .returned (.agg #[.int .i64 t, .int .i64 u]) ∧ Below w.heap.size w w' := by
  have e := Option.some.inj h
  injection e with e1 e2
  subst e1
  subst e2
  exact numberC a0 a1 w hn hl hk
end
end Go.Proofs.Ytonkfcfpfpaceaa.A.P
