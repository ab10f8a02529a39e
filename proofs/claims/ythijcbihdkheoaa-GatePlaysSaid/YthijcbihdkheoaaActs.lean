/- The argument of acts, as it is read. -/
import Derived.Test.YthijcbihdkheoaaOpen
import Derived.Test.YthijcbihdkheoaaPGatePlaysx0
namespace Go.Proofs.Ythijcbihdkheoaa.Open
open Go.RowKit Go.Deep Go.ChangeShapes Go.WideShapes Go.Proofs.YthijcbihdkheoaaW.PrintWords
theorem opens34 : Opens Try.prog PGatePlays.k34 34 (fun x : PGatePlays.S34 => (Lit.int .i64 x.f0).wf = true ∧ (Lit.int .i64 x.f1).wf = true ∧ ∀ y ∈ x.f2, (Lit.int .i64 y).wf = true) :=
  opens_iso (fun x : PGatePlays.S34 => (x.f0, x.f1, x.f2)) (fun p => ⟨p.1, p.2.1, p.2.2⟩) (fun _ => rfl)
    (opens_struct3 Try.underlying34 (opens_int Try.underlying3 (by kernel_rfl)) (opens_int Try.underlying3 (by kernel_rfl)) (opens_slice Try.underlying27 (by kernel_rfl) (opens_int Try.underlying3 (by kernel_rfl))) rfl rfl rfl (by kernel_rfl))
theorem opens22 : Opens Try.prog (Kd.slice 34 PGatePlays.k34) 22 (fun xs => ∀ x ∈ xs, (Lit.int .i64 x.f0).wf = true ∧ (Lit.int .i64 x.f1).wf = true ∧ ∀ y ∈ x.f2, (Lit.int .i64 y).wf = true) := opens_slice Try.underlying22 (by kernel_rfl) opens34
end Go.Proofs.Ythijcbihdkheoaa.Open
