/- What the kinds of the arguments are, and how large they can be. -/
import Derived.Test.YtbhdodkkebgjcaaOpen
import Derived.Test.YtbhdodkkebgjcaaAx0
namespace Go.Proofs.Ytbhdodkkebgjcaa.Open
open Go.RowKit Go.Proofs.YtbhdodkkebgjcaaW.PrintWords Go.Proofs.Ytbhdodkkebgjcaa.A.P
set_option linter.unusedVariables false
set_option linter.unusedSimpArgs false
theorem opens38 : Opens Try.prog k38 38 (fun x => (Lit.int .i64 x.f0).wf = true ∧ (Lit.int .i64 x.f1).wf = true ∧ (Lit.int .i64 x.f2).wf = true) :=
  opens_iso (fun x : S38 => (x.f0, x.f1, x.f2)) (fun p => ⟨p.1, p.2.1, p.2.2⟩) (fun _ => rfl) (opens_struct3 Try.underlying38 (opens_int Try.underlying3 (by kernel_rfl)) (opens_int Try.underlying3 (by kernel_rfl)) (opens_int Try.underlying3 (by kernel_rfl)) rfl rfl rfl (by kernel_rfl))
theorem opens22 : Opens Try.prog (Kd.slice 38 k38) 22 (fun xs => xs.length * 24 ≤ 140737488351232 ∧ ∀ x ∈ xs, (Lit.int .i64 x.f0).wf = true ∧ (Lit.int .i64 x.f1).wf = true ∧ (Lit.int .i64 x.f2).wf = true) :=
  opens_slice Try.underlying22 (by kernel_rfl) (by kernel_rfl) opens38
end Go.Proofs.Ytbhdodkkebgjcaa.Open
