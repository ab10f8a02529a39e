/- gc: the contracts of Reach, Sweep and Canon, as the laws use them. -/
import Derived.Test.YtonkfcfpfpaceaaG9a
import Derived.Test.YtonkfcfpfpaceaaG9b
namespace Go.Proofs.Ytonkfcfpfpaceaa.A.P
open Go.RowKit Go.Proofs.YtonkfcfpfpaceaaW.PrintWords Go.Proofs.YtonkfcfpfpaceaaW.PrintLast Go.Proofs.YtonkfcfpfpaceaaW.PrintMore
set_option linter.unusedVariables false
set_option linter.unusedSimpArgs false
theorem sweepN {α : Type} {d : Kd α} {e base : Nat} {w : World} {v : Value} {xs : List α} (h : Kd.N d e w base (fun k => base ≤ k) v xs) : Kd.N d e w base (fun k => base ≤ k ∧ base ≤ k ∧ k < w.heap.size) v xs :=
  Kd.N_mono (Kd.N_bound h) (fun _ hk => ⟨hk.1, hk.1, hk.2⟩)
def gc_Reach.f (l0 : List S37) (l1 : List S41) : Option (List Int × Int) :=
  if okIn l0 l1 = true then (heap_Check.f l0).bind fun er => if er = 0 then (traceO l0 l1).bind fun o => some (o, 0) else some ([], er) else none
def gc_Sweep.f (l0 : List S37) (l1 : List S41) : Option (List S37 × Int × Int) :=
  if okIn l0 l1 = true then (heap_Check.f l0).bind fun er => if er = 0 then (traceO l0 l1).bind fun o => gc_SweepW.f (l0.length + l0.length + 5) l0 o else some ([], 0, er) else none
def gc_Canon.f (l0 : List S37) (l1 : List S41) : Option (List S37 × List S41 × Int) :=
  if okIn l0 l1 = true then (heap_Check.f l0).bind fun er => if er = 0 then (traceO l0 l1).bind fun o => gc_CanonW.f (l0.length + 5) l0 l1 o else some ([], [], er) else none
set_option maxHeartbeats 1000000 in
theorem gc_Reach.calls (A0 : Option Addr) (c0 : Nat) (l0 : List S37) (A1 : Option Addr) (c1 : Nat) (l1 : List S41) (r1 : List Int) (r2 : Int) (w : World) (hr0 : Kd.C k37 w A0 l0.length l0) (hc0 : l0.length ≤ c0) (hr1 : Kd.C k41 w A1 l1.length l1) (hc1 : l1.length ≤ c1) (h : gc_Reach.f l0 l1 = some (r1, r2)) :
    Calls Try.prog 11 #[.slice A0 l0.length c0, .slice A1 l1.length c1] w fun e w' => ∃ v : Value, e = .returned (.tuple #[v, .int .i64 r2]) ∧ Kd.R (Kd.int .i64) 3 w' w.heap.size (fun _ => True) v r1 ∧ Below w.heap.size w w' := by
  unfold gc_Reach.f at h
  by_cases hok : okIn l0 l1 = true
  · rw [if_pos hok] at h
    obtain ⟨er, he, h⟩ := Option.bind_eq_some_iff.1 h
    by_cases h0 : er = 0
    · subst h0
      rw [if_pos rfl] at h
      obtain ⟨o, ho, h⟩ := Option.bind_eq_some_iff.1 h
      simp only [Option.some.injEq, Prod.mk.injEq] at h
      obtain ⟨rfl, rfl⟩ := h
      have HT := Lib.hid (traced_any A0 c0 l0 A1 c1 l1 w hr0 hc0 hr1 hok 0 o he (fun _ => ho))
      clear hr0 hc0 hr1 hc1 hok he ho
      go_enter Try.func11, Try.ntmps11
      go_wp2_with fail
      refine HT.out.mono ?_
      rintro e w1 ⟨hbw, (⟨h0_, -⟩ | ⟨-, T, M, vT, rfl, htr⟩)⟩
      · exact absurd rfl h0_
      have hT1 : w1.cell? ⟨T, 1, none⟩ = some vT := (blk_cell htr.b 1).trans rfl
      go_wp2
      go_ret2
      exact ⟨_, rfl, htr.r, hbw⟩
    · rw [if_neg h0] at h
      simp only [Option.some.injEq, Prod.mk.injEq] at h
      obtain ⟨rfl, rfl⟩ := h
      have HT := Lib.hid (traced_any A0 c0 l0 A1 c1 l1 w hr0 hc0 hr1 hok er [] he (fun h => absurd h h0))
      have hb : (er != 0) = true := by simpa using h0
      clear hr0 hc0 hr1 hc1 hok he
      go_enter Try.func11, Try.ntmps11
      go_wp2_with fail
      refine HT.out.mono ?_
      rintro e w1 ⟨hbw, (⟨h0_, rfl⟩ | ⟨h0_, -⟩)⟩
      · clear h0_
        go_wp2
        go_ret2
        exact ⟨_, rfl, Kd.R_nil _ _ _ _ _, hbw⟩
      · exact absurd h0_ h0
  · rw [if_neg hok] at h
    cases h
set_option maxHeartbeats 1000000 in
theorem gc_Sweep.calls (A0 : Option Addr) (c0 : Nat) (l0 : List S37) (A1 : Option Addr) (c1 : Nat) (l1 : List S41) (r1 : List S37) (r2 r3 : Int) (w : World) (hr0 : Kd.C k37 w A0 l0.length l0) (hc0 : l0.length ≤ c0) (hr1 : Kd.C k41 w A1 l1.length l1) (hc1 : l1.length ≤ c1) (h : gc_Sweep.f l0 l1 = some (r1, r2, r3)) :
    Calls Try.prog 13 #[.slice A0 l0.length c0, .slice A1 l1.length c1] w fun e w' => ∃ v : Value, e = .returned (.tuple #[v, .int .i64 r2, .int .i64 r3]) ∧ Kd.N k37 37 w' w.heap.size (fun k_ => w.heap.size ≤ k_) v r1 ∧ Below w.heap.size w w' := by
  unfold gc_Sweep.f at h
  by_cases hok : okIn l0 l1 = true
  · rw [if_pos hok] at h
    obtain ⟨er, he, h⟩ := Option.bind_eq_some_iff.1 h
    by_cases h0 : er = 0
    · subst h0
      rw [if_pos rfl] at h
      obtain ⟨o, ho, h⟩ := Option.bind_eq_some_iff.1 h
      refine (gc_SweepW.calls _ A0 c0 l0 A1 c1 l1.length o r1 r2 r3 w hr0 hc0 (traced_any A0 c0 l0 A1 c1 l1 w hr0 hc0 hr1 hok 0 o he (fun _ => ho)) h).mono ?_
      rintro e w' ⟨wT, hb1, v, rfl, hN, hb2⟩
      have hle := hb1.size
      exact ⟨v, rfl, Kd.N_mono (Kd.N_lower hN hle) (fun k hk => Nat.le_trans hle hk), below_step hb1 hb2⟩
    · rw [if_neg h0] at h
      simp only [Option.some.injEq, Prod.mk.injEq] at h
      obtain ⟨rfl, rfl, rfl⟩ := h
      have HT := Lib.hid (traced_any A0 c0 l0 A1 c1 l1 w hr0 hc0 hr1 hok er [] he (fun h => absurd h h0))
      have hb : (er != 0) = true := by simpa using h0
      clear hr0 hc0 hr1 hc1 hok he
      go_enter Try.func13, Try.ntmps13
      go_wp2_with fail
      refine HT.out.mono ?_
      rintro e w1 ⟨hbw, (⟨h0_, rfl⟩ | ⟨h0_, -⟩)⟩
      · clear h0_
        go_wp2
        go_ret3
        exact ⟨_, rfl, Kd.N_nil _ _ _ _ _, hbw⟩
      · exact absurd h0_ h0
  · rw [if_neg hok] at h
    cases h
set_option maxHeartbeats 1000000 in
theorem gc_Canon.calls (A0 : Option Addr) (c0 : Nat) (l0 : List S37) (A1 : Option Addr) (c1 : Nat) (l1 : List S41) (r1 : List S37) (r2 : List S41) (r3 : Int) (w : World) (hr0 : Kd.C k37 w A0 l0.length l0) (hc0 : l0.length ≤ c0) (hr1 : Kd.C k41 w A1 l1.length l1) (hc1 : l1.length ≤ c1) (h : gc_Canon.f l0 l1 = some (r1, r2, r3)) :
    Calls Try.prog 22 #[.slice A0 l0.length c0, .slice A1 l1.length c1] w fun e w' => ∃ v0_ v1_ : Value, e = .returned (.tuple #[v0_, v1_, .int .i64 r3]) ∧ Kd.S k37 37 w' w.heap.size (fun k_ => some k_ ≠ (v1_ : Value).ownBlock) v0_ r1 ∧ Kd.R k41 41 w' w.heap.size (fun _ => True) v1_ r2 ∧ Below w.heap.size w w' := by
  unfold gc_Canon.f at h
  by_cases hok : okIn l0 l1 = true
  · rw [if_pos hok] at h
    obtain ⟨er, he, h⟩ := Option.bind_eq_some_iff.1 h
    by_cases h0 : er = 0
    · subst h0
      rw [if_pos rfl] at h
      obtain ⟨o, ho, h⟩ := Option.bind_eq_some_iff.1 h
      refine (gc_CanonW.calls _ A0 c0 l0 A1 c1 l1 o r1 r2 r3 w hr0 hc0 hr1 hc1 (traced_any A0 c0 l0 A1 c1 l1 w hr0 hc0 hr1 hok 0 o he (fun _ => ho)) h).mono ?_
      rintro e w' ⟨wT, hb1, v, v1, rfl, hS, hR, hb2⟩
      have hle := hb1.size
      exact ⟨v, v1, rfl, Kd.S_lower hS hle, Kd.R_lower hR hle, below_step hb1 hb2⟩
    · rw [if_neg h0] at h
      simp only [Option.some.injEq, Prod.mk.injEq] at h
      obtain ⟨rfl, rfl, rfl⟩ := h
      have HT := Lib.hid (traced_any A0 c0 l0 A1 c1 l1 w hr0 hc0 hr1 hok er [] he (fun h => absurd h h0))
      have hb : (er != 0) = true := by simpa using h0
      clear hr0 hc0 hr1 hc1 hok he
      go_enter Try.func22, Try.ntmps22
      go_wp2_with fail
      refine HT.out.mono ?_
      rintro e w1 ⟨hbw, (⟨h0_, rfl⟩ | ⟨h0_, -⟩)⟩
      · clear h0_
        go_wp2
        go_ret3
        exact ⟨_, _, rfl, Kd.S_nil _ _ _ _ _, Kd.R_nil _ _ _ _ _, hbw⟩
      · exact absurd h0_ h0
  · rw [if_neg hok] at h
    cases h
end Go.Proofs.Ytonkfcfpfpaceaa.A.P
