/- gc: a drawn region in a round; what the trace holds. -/
import Derived.RangeFuncBox
import Derived.Maps.AppendAt
import Derived.Test.YtonkfcfpfpaceaaG3
namespace Go.Proofs.Ytonkfcfpfpaceaa.A.P
open Go.RowKit Go.Shelf Go.Proofs.YtonkfcfpfpaceaaW.PrintWords Go.Proofs.YtonkfcfpfpaceaaW.PrintLast Go.Proofs.YtonkfcfpfpaceaaW.PrintMore
set_option linter.unusedVariables false
set_option linter.unusedSimpArgs false
/-! ### a drawn region, in a round of the wide fence -/
def Only (Q : Exit → Act → World → Prop) : Exit → Act → World → Prop
  | .normal, a, w => Q .normal a w
  | _, _, _ => False
theorem only_ {Q : Exit → Act → World → Prop} {a : Act} {w : World} (h : Q .normal a w) : Only Q .normal a w := h
theorem only_letsOut {Q : Exit → Act → World → Prop} : ¬ LetsOut (Only Q) := fun ⟨_, _, h⟩ => h
theorem wpIn_of_only {P : Program} {o : Oper} {a : Act} {w : World} {K : Act → World → Prop} {Q : Exit → Act → World → Prop} {l n : Nat} (hd : ∀ c, o.op ≠ .defer c) (h : o.wp P a w K (Only Q)) : o.wpIn (Fence.wide.inRound l) n P a w K Q := by
  refine ⟨fun f _ => trivial, ?_⟩
  rw [Oper.semAt_eq _ _ _ hd]
  unfold Oper.wp at h
  generalize (execOp a.eval o).run P w = r at *
  cases r with
  | ok x w' =>
    cases x <;> simp only [Oper.upon, Oper.uponIn] at h ⊢ <;>
      first
        | exact h
        | (refine ⟨fun hh => (by cases hh), CallsIn.inRound l (callsIn_wide.2 (h.mono fun e w'' he => ?_))⟩
           cases e with
           | returned v => exact he
           | panicked c => exact he.elim
           | outgrown => exact absurd he only_letsOut)
        | (refine ⟨fun hh => (by cases hh), fun c cs _ => ?_⟩
           obtain ⟨v, w2, r, s⟩ := h c cs
           exact ⟨v, w2, r, stepsIn_wide.2 s⟩)
  | halt x w' => cases x <;> simp only [Oper.upon, Oper.uponIn] at h ⊢ <;> first | exact h | exact h.elim
def notDefer (o : Oper) : Bool := match o.op with | .defer _ => false | _ => true
theorem wpOpsIn_of_only {P : Program} {ops : Array Oper} {Q : Exit → Act → World → Prop} {l n : Nat} (hnd : ops.all notDefer = true) : ∀ (order : List Nat) (a : Act) (w : World), wpOps P ops (Only Q) order a w → wpOpsIn (Fence.wide.inRound l) n P ops Q order a w
  | [], a, w, h => h
  | i :: rest, a, w, h => by
    unfold wpOpsIn
    unfold wpOps at h
    cases ho : ops[i]? with
    | none =>
      simp only [ho] at h
      exact wpOpsIn_of_only hnd rest a w h
    | some o =>
      simp only [ho] at h
      have hd : ∀ c, o.op ≠ .defer c := by
        obtain ⟨hi, e⟩ := Array.getElem?_eq_some_iff.1 ho
        have := Array.all_eq_true.1 hnd i hi
        rw [e] at this
        intro c hc
        simp [notDefer, hc] at this
      by_cases hw : Region.wanted o (yielded ops a.tmps) = true
      · simp only [hw, if_true] at h ⊢
        rcases h with h | ⟨_, h⟩
        · exact Oper.wpIn_mono (fun a w hh => wpOpsIn_of_only hnd rest a w hh) (wpIn_of_only hd h)
        · exact absurd h only_letsOut
      · simp only [hw, if_false, Bool.false_eq_true] at h ⊢
        exact ⟨fun _ _ => trivial, wpOpsIn_of_only hnd rest _ w h⟩
theorem startIn_ {P : Program} {ops : Array Oper} {Q : Exit → Act → World → Prop} {S : World → Prop} {ds : List Nat} {l0 nF : Nat} (hnd : ops.all notDefer = true) {id n : Nat} {a : Act} {w : World} (l : Array Bool) (hm : P.follows .mixedOrders = true) (hn : ops.size = n) (hl : Array.replicate n false = l) (hS : S w.drew)
    (h : S w.drew → wpAnyLast P .any ops (Only Q) S ds n l a w.drew) : (Code.region id ops true).wpIn (Fence.wide.inRound l0) nF P Q a w := by
  subst hn
  subst hl
  refine wpIn_region_draw fun t => ?_
  simp only [Region.schedule, hm, Bool.true_or, if_true]
  exact wpOpsIn_of_only hnd _ _ _ (wpAny_sound ops.size t _ a _ (wpAny_of_last _ _ _ _ (h hS)))
/-! ### the order that is reached, and the places -/
def addOne (o : List Int) (x : Int) : List Int := if x ∈ o then o else o ++ [x]
def addAll (o : List Int) (xs : List Int) : List Int := xs.foldl addOne o
theorem addAll_snoc (o xs : List Int) (x : Int) : addAll o (xs ++ [x]) = addOne (addAll o xs) x := by simp [addAll]
theorem addOne_len (o : List Int) (x : Int) : (addOne o x).length ≤ o.length + 1 := by unfold addOne; split <;> simp
theorem addAll_len (xs : List Int) : ∀ o : List Int, (addAll o xs).length ≤ o.length + xs.length := by
  induction xs with
  | nil => intro o; simp [addAll]
  | cons x t ih =>
    intro o
    have h1 := ih (addOne o x)
    have h2 := addOne_len o x
    simp only [addAll, List.foldl_cons, List.length_cons] at *
    omega
def lds {n : Nat} (ys : List (Ld n)) : List Int := ys.map fun y => y.1.2
/-- What is reached when the values vs are added. -/
def addL (H : List S37) (o : List Int) (vs : List S41) : List Int := addAll o (lds (ldUp H vs vs.length))
def placeOf (o : List Int) (x : Int) : Int := if x ∈ o then (o.idxOf x : Int) + 1 else 0
structure PlaceOk (D : DataW Unit) (o : List Int) : Prop where
  m : Maps.IsMap D
  h : ∀ x, (Lit.int .i64 x).wf = true → Maps.has D (.int .i64 x) = decide (x ∈ o)
  a : ∀ x, (Lit.int .i64 x).wf = true → D.atKey (.int .i64 x) (.lit (.int .i64 0)) = .lit (.int .i64 (placeOf o x))
theorem PlaceOk.nil : PlaceOk (.map []) [] := ⟨Maps.isMap_empty, fun x _ => by simp [Maps.has], fun x _ => by simp [placeOf, DataW.atKey]⟩
theorem idxOf_snoc_mem {o : List Int} {x y : Int} (h : y ∈ o) : (o ++ [x]).idxOf y = o.idxOf y := by rw [List.idxOf_append, if_pos h]
theorem idxOf_snoc_new {o : List Int} {x : Int} (h : x ∉ o) : (o ++ [x]).idxOf x = o.length := by
  rw [List.idxOf_append, if_neg h]; simp
theorem placeOf_snoc {o : List Int} {x : Int} (h : x ∉ o) (y : Int) : placeOf (o ++ [x]) y = if y = x then (o.length : Int) + 1 else placeOf o y := by
  unfold placeOf
  by_cases e : y = x
  · subst e
    simp [idxOf_snoc_new h]
  · by_cases hm : y ∈ o
    · simp [e, hm, idxOf_snoc_mem hm]
    · simp [e, hm]
theorem PlaceOk.put {D : DataW Unit} {o : List Int} (h : PlaceOk D o) {x : Int} (hx : x ∉ o) : PlaceOk (D.put (.int .i64 x) (.lit (.int .i64 ((o.length : Int) + 1)))) (o ++ [x]) := by
  refine ⟨h.m.put _ _, fun y hy => ?_, fun y hy => ?_⟩
  · by_cases e : y = x
    · subst e
      rw [Maps.has_put_same (k := .int .i64 y) h.m trivial]
      simp
    · rw [Maps.has_put_other (fun e' => e (by injection e')), h.h y hy]
      simp [e]
  · rw [placeOf_snoc hx]
    by_cases e : y = x
    · subst e
      rw [Maps.atKey_put_same (k := .int .i64 y) h.m trivial, if_pos rfl]
    · rw [Maps.atKey_put_other (fun e' => e (by injection e')), h.a y hy, if_neg e]
/-- The trace's block. -/
def TrB (W : World) (T M : Nat) (AH : Option Addr) (nh ch : Nat) (v : Value) : Prop := W.heap[T]? = some (.cells #[.slice AH nh ch, v, .map (some M)] 59 (0, 0))
/-- A trace: its block, the order's row, the map of places. -/
structure Tr (n₀ T M : Nat) (W : World) (AH : Option Addr) (nh ch : Nat) (v : Value) (o : List Int) : Prop where
  t : n₀ ≤ T
  g : n₀ ≤ M
  b : TrB W T M AH nh ch v
  r : Kd.R (Kd.int .i64) 3 W n₀ (fun _ => True) v o
  p : ∃ D, W.ownsMap Try.prog 3 (plainElem (H := Unit) Try.prog 3) M o.length D ∧ PlaceOk D o
end Go.Proofs.Ytonkfcfpfpaceaa.A.P
