/- The statements' 'few', as it answers, and the law GateStays's walk. -/
import Derived.Test.YthijcbihdkheoaaG8
import Derived.Test.YthijcbihdkheoaaOpen
import Derived.Test.YthijcbihdkheoaaPGatePlaysx1
namespace Go.Proofs.Ythijcbihdkheoaa.G
open Go.RowKit Go.Proofs.YthijcbihdkheoaaW.PrintWords Go.Proofs.YthijcbihdkheoaaW.PrintLast Go.Proofs.YthijcbihdkheoaaW.PrintMore
set_option linter.unusedSimpArgs false
set_option linter.unusedVariables false
open PGatePlays in
theorem rd_out (xs : List S34) (j : Nat) (h : xs.length ≤ j) : (rd_T34 xs (j : Int)).f2 = [] := by
  unfold rd_T34
  rw [Int.toNat_natCast, List.getD_eq_getElem?_getD, List.getElem?_eq_none h]
  rfl
open PGatePlays in
theorem rd_set (xs : List S34) (i j : Nat) (y : S34) (h : i < xs.length) : rd_T34 (xs.set i y) (j : Int) = if j = i then y else rd_T34 xs (j : Int) := by
  unfold rd_T34
  simp only [Int.toNat_natCast, List.getD_eq_getElem?_getD]
  by_cases e : j = i
  · subst e
    simp [h]
  · rw [if_neg e, List.getElem?_set_ne (fun h' => e h'.symm)]
open PGatePlays in
theorem few_l0 : ∀ (d : Nat) (xs : List S34) (i : Nat), xs.length ≤ 60 → i ≤ xs.length → xs.length - i = d → (∀ j : Nat, j < i → (rd_T34 xs (j : Int)).f2.length ≤ 200) →
    ∃ r, larchlaw22_few.l0 (d + 1) xs (i : Int) = some r ∧ r.length = xs.length ∧ ∀ j : Nat, (rd_T34 r (j : Int)).f2.length ≤ 200 := by
  intro d
  induction d with
  | zero =>
    intro xs i h60 hi hd hj
    refine ⟨xs, ?_, rfl, fun j => ?_⟩
    · simp only [larchlaw22_few.l0]
      rw [if_neg (by omega)]
    · by_cases h : j < i
      · exact hj j h
      · rw [rd_out xs j (by omega)]
        simp
  | succ d ih =>
    intro xs i h60 hi hd hj
    have hlt : i < xs.length := by omega
    obtain ⟨m, hm⟩ : ∃ m, m = mn (((rd_T34 xs (i : Int)).f2).length : Int) 200 := ⟨_, rfl⟩
    have hm0 : 0 ≤ m ∧ m ≤ ((rd_T34 xs (i : Int)).f2).length ∧ m ≤ 200 := by
      rw [hm]; unfold mn; split <;> omega
    obtain ⟨r, h1, h2, h3⟩ := ih (xs.set i ⟨(rd_T34 xs (i : Int)).f0, (rd_T34 xs (i : Int)).f1, ((rd_T34 xs (i : Int)).f2).take m.toNat⟩) (i + 1) (by rw [List.length_set]; omega) (by rw [List.length_set]; omega) (by rw [List.length_set]; omega) (fun j hlt' => by
      rw [rd_set _ _ _ _ hlt]
      by_cases e : j = i
      · rw [if_pos e]
        show (List.take _ _).length ≤ 200
        rw [List.length_take]
        omega
      · rw [if_neg e]
        exact hj j (by omega))
    refine ⟨r, ?_, by rw [h2, List.length_set], h3⟩
    rw [larchlaw22_few.l0, if_pos (by omega), if_pos (by omega), ← hm, if_pos (by omega), if_pos (by omega), show wrap64 ((i : Int) + 1) = ((i + 1 : Nat) : Int) from wrap_succ i xs.length hlt (by omega)]
    exact h1
open PGatePlays in
theorem few_any (A0 : Option Addr) (c0 : Nat) (l0 : List S34) (w : World) (hr : Kd.C k34 w A0 l0.length l0) (hc : l0.length ≤ c0) :
    Calls Try.prog 10 #[.slice A0 l0.length c0] w fun e w' => ∃ A c xs, e = .returned (.slice A (List.length xs) c) ∧ xs.length ≤ c ∧ xs.length ≤ 60 ∧ (∀ i : Int, (rd_T34 xs i).f2.length ≤ 200) ∧ Kd.C k34 w' A xs.length xs ∧ Below w.heap.size w w' := by
  obtain ⟨m, hm⟩ : ∃ m, m = mn (l0.length : Int) 60 := ⟨_, rfl⟩
  have hm0 : 0 ≤ m ∧ m ≤ l0.length ∧ m ≤ 60 := by
    rw [hm]; unfold mn; split <;> omega
  have hl : (l0.take m.toNat).length ≤ 60 := by rw [List.length_take]; omega
  obtain ⟨r, h1, h2, h3⟩ := few_l0 _ (l0.take m.toNat) 0 hl (by omega) rfl (fun j h => by omega)
  have hf : larchlaw22_few.f ((l0.take m.toNat).length - 0 + 1) l0 = some r := by
    unfold larchlaw22_few.f
    simp only [Option.bind_some, ← hm]
    rw [if_pos (by omega), if_pos (by omega), if_pos (by simp; omega)]
    exact h1
  have hh : Kd.Heap k34 := Kd.heap_iso _ (Kd.heap_pair (Kd.heap_int _) (Kd.heap_pair (Kd.heap_int _) (Kd.heap_slice _ (Kd.heap_int _))))
  refine (larchlaw22_few.calls _ (fun _ => True) A0 c0 l0 r w (Kd.V_mk hc (Open.foot_arg hh hr)) hf).mono ?_
  rintro e w' ⟨v, rfl, hn, hb⟩
  have hv := Kd.N_V (base' := 0) hn
  obtain ⟨A, c, rfl⟩ := Kd.V_slice hv
  obtain ⟨_, hle, hC⟩ := Kd.V_reads' hv
  refine ⟨A, c, r, rfl, hle, by omega, fun i => ?_, hC, hb⟩
  rcases Int.lt_or_le i 0 with hi | hi
  · have e : rd_T34 r i = rd_T34 r ((0 : Nat) : Int) := by
      unfold rd_T34
      rw [show i.toNat = (((0 : Nat) : Int)).toNat by omega]
    rw [e]
    exact h3 0
  · rw [show i = ((i.toNat : Nat) : Int) by omega]
    exact h3 _
end Go.Proofs.Ythijcbihdkheoaa.G
