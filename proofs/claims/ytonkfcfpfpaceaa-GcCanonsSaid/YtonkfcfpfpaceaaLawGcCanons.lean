/- The law GcCanons: For every input the call returns true and each argument reads afterwards as it read before. No condition. -/
import Derived.Test.YtonkfcfpfpaceaaQ7
import Derived.Test.YtonkfcfpfpaceaaOpens
import Derived.WalkKit
import Derived.ProofKit
import Derived.OpenShut
import Derived.ShutString
import Derived.ChangeOld
import Derived.Below
import Derived.SizedLaws
import Derived.Test.YtonkfcfpfpaceaaRows
import Derived.Test.YtonkfcfpfpaceaaWSized
namespace Go.Proofs.Ytonkfcfpfpaceaa.gcCanons
open Go.ChangeShapes Go.WideShapes Go.ChangeAt Go.RowKit Go.Proofs.YtonkfcfpfpaceaaW
open Go.ChangeMaps (open_string shut_string)
set_option linter.unusedVariables false
set_option linter.unusedSimpArgs false
theorem own : ownKnob Try.prog.godebug = none := by kernel_rfl
theorem laidOut : laidOutB Try.prog = true := by kernel_rfl
set_option maxRecDepth 100000 in
theorem lifted (os : Os) (started : os.Started) (H : Type) (enc : TypeId × Value → H) :
    ReturnsInHanded {} Try.checked os 6 .any (Rows.gcCanonsSpec.pre6 enc Try.prog Try.f6 Rows.gcCanonsRow.domain false) (Rows.gcCanonsSpec.post enc Try.prog Try.f6 false true false false) := by
  refine returnsInHanded_of_change_sized (C := Try.checked) own started (by kernel_rfl) Try.func6
    (ChangeSpec.witness6 (enc := enc) (C := Try.checked) false ⟨#[], #[.slice none 0 0, .slice none 0 0, .slice none 0 0, .slice none 0 0], []⟩ 8 (by kernel_rfl) (by kernel_rfl) (by kernel_rfl) (by kernel_rfl)) ?_
  intro W base args ds gs before hval0 hW hcnd hsz0 _
  have hsz : (DataW.weightsEach Try.prog (Try.f6.params.toList ++ Rows.gcCanonsSpec.plain.varTypes Try.prog) (ds ++ gs)).all (· ≤ reachBytes) = true := hsz0
  have hval : ∀ (j : Nat) t v, Try.f6.params[j]? = some t → args[j]? = some v → Value.okWide Try.prog W .any base t v := hval0
  have hW' := hW
  obtain ⟨p, q, hA0, hV, rfl, hfz, hnd⟩ := hW
  have hA : DataW.TrodAll enc Try.prog W 0 (fun _ => true) true Try.f6.params.toList args.toList ds p := hA0
  rw [Try.params6] at hA hval hsz
  obtain ⟨v0, vs0, d0, ds0, p0, q0, hargs, rfl, rfl, h0, r0⟩ := trodAll_cons hA
  obtain ⟨v1, vs1, d1, ds1, p1, q1, rfl, rfl, rfl, h1, r1⟩ := trodAll_cons r0
  obtain ⟨v2, vs2, d2, ds2, p2, q2, rfl, rfl, rfl, h2, r2⟩ := trodAll_cons r1
  obtain ⟨v3, vs3, d3, ds3, p3, q3, rfl, rfl, rfl, h3, r3⟩ := trodAll_cons r2
  obtain ⟨rfl, rfl, rfl⟩ := trodAll_nil r3
  obtain rfl : args = #[v0, v1, v2, v3] := by cases args; simp_all
  obtain ⟨rfl, rfl⟩ := trodVars_none hV
  have k0 := h0
  have lt0 : ∀ x ∈ p0, x.block < W.heap.size := by obtain ⟨m, hm⟩ := k0; exact DataW.trod_lt m _ _ _ hm
  obtain ⟨z0, A0, c0, rfl, hc0, hC0, hg0⟩ := Open.open_arg Open.opens22 (by obtain ⟨a, l, c, e⟩ := okWide_slice Try.underlying22 (hval 0 22 v0 rfl rfl); rw [e]; rfl) (Open.sized_arg hsz (j := 0) (t := 22) rfl rfl) h0
  have k1 := h1
  have lt1 : ∀ x ∈ p1, x.block < W.heap.size := by obtain ⟨m, hm⟩ := k1; exact DataW.trod_lt m _ _ _ hm
  obtain ⟨z1, A1, c1, rfl, hc1, hC1, hg1⟩ := Open.open_arg Open.opens23 (by obtain ⟨a, l, c, e⟩ := okWide_slice Try.underlying23 (hval 1 23 v1 rfl rfl); rw [e]; rfl) (Open.sized_arg hsz (j := 1) (t := 23) rfl rfl) h1
  have k2 := h2
  have lt2 : ∀ x ∈ p2, x.block < W.heap.size := by obtain ⟨m, hm⟩ := k2; exact DataW.trod_lt m _ _ _ hm
  obtain ⟨z2, A2, c2, rfl, hc2, hC2, hg2⟩ := Open.open_arg Open.opens22 (by obtain ⟨a, l, c, e⟩ := okWide_slice Try.underlying22 (hval 2 22 v2 rfl rfl); rw [e]; rfl) (Open.sized_arg hsz (j := 2) (t := 22) rfl rfl) h2
  have k3 := h3
  have lt3 : ∀ x ∈ p3, x.block < W.heap.size := by obtain ⟨m, hm⟩ := k3; exact DataW.trod_lt m _ _ _ hm
  obtain ⟨z3, A3, c3, rfl, hc3, hC3, hg3⟩ := Open.open_arg Open.opens23 (by obtain ⟨a, l, c, e⟩ := okWide_slice Try.underlying23 (hval 3 23 v3 rfl rfl); rw [e]; rfl) (Open.sized_arg hsz (j := 3) (t := 23) rfl rfl) h3
  clear hA0 hval0 hsz0 hsz
  refine (A.P.larchlaw16_GcCanons.calls (100000000001 + z0.length + z2.length) A0 c0 z0 A1 c1 z1 A2 c2 z2 A3 c3 z3 true ⟨rfl⟩ W hC0 hc0 hC1 hc1 hC2 hc2 hC3 hc3 (Q.GcCanons_f (Open.good_of hg0) (Open.wfH_of hg0) (Open.wfV_of hg1) (Open.good_of hg2) (Open.wfH_of hg2) (Open.wfV_of hg3) (by have := hg1.1; omega) (by have := hg3.1; omega) (by omega))).mono fun e W' ⟨he, bel⟩ => ?_
  subst he
  exact ⟨_, rfl, _, _, _, [], _, [], hW', trodAll_mk1 (shut_bool Try.underlying4 _), (trodAll_cons_mk (Below.trod laidOut (by kernel_rfl) (of_decide_eq_true (by kernel_rfl)) k0 bel lt0) (trodAll_cons_mk (Below.trod laidOut (by kernel_rfl) (of_decide_eq_true (by kernel_rfl)) k1 bel lt1) (trodAll_cons_mk (Below.trod laidOut (by kernel_rfl) (of_decide_eq_true (by kernel_rfl)) k2 bel lt2) (trodAll_cons_mk (Below.trod laidOut (by kernel_rfl) (of_decide_eq_true (by kernel_rfl)) k3 bel lt3) trodAll_mk0)))), rfl, bel.frame _, fun h => by cases h⟩
theorem over : Rows.gcCanonsRow.holds Try.pinned (OpenSpec.ofChange Rows.gcCanonsSpec) :=
  OpenClaim.holds_of_wide 6 Try.f6 rfl rfl rfl rfl rfl rfl rfl ⟨rfl, rfl, rfl, rfl, rfl⟩ rfl rfl rfl rfl rfl (by kernel_rfl) Try.func6 (by kernel_rfl)
    (of_decide_eq_true (by kernel_rfl)) (by unfold Func.isWrapper; first | (rw [if_pos (by decide +kernel)]; kernel_rfl) | (rw [if_neg (by decide +kernel)]; exact ⟨rfl, rfl⟩))
    (fun os started H enc _ => lifted os started H enc)
theorem proved : Rows.GcCanonsSaid := over
#print axioms proved
end Go.Proofs.Ytonkfcfpfpaceaa.gcCanons
namespace Go.Proofs.Ytonkfcfpfpaceaa
theorem gcCanons_holds : Rows.GcCanonsSaid := gcCanons.proved
end Go.Proofs.Ytonkfcfpfpaceaa
