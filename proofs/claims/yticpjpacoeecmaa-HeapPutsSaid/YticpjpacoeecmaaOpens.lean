/- What the kinds of the arguments are, and how large they can be. -/
import Derived.Test.YticpjpacoeecmaaOpen
import Derived.Test.YticpjpacoeecmaaQ1
import Derived.Test.YticpjpacoeecmaaQ2
namespace Go.Proofs.Yticpjpacoeecmaa.Open
open Go.RowKit Go.Proofs.YticpjpacoeecmaaW.PrintWords Go.Proofs.Yticpjpacoeecmaa.A.P Go.Proofs.Yticpjpacoeecmaa.Q
set_option linter.unusedVariables false
set_option linter.unusedSimpArgs false
theorem opens24 : Opens Try.prog k24 24 (fun x => (Lit.int .i64 x.f0).wf = true ∧ (Lit.int .i64 x.f1).wf = true) :=
  opens_iso (fun x : S24 => (x.f0, x.f1)) (fun p => ⟨p.1, p.2⟩) (fun _ => rfl) (opens_struct2 Try.underlying24 (opens_int Try.underlying3 (by kernel_rfl)) (opens_int Try.underlying3 (by kernel_rfl)) rfl rfl (by kernel_rfl))
theorem opens40 : Opens Try.prog k40 40 (fun x => x.f0.size ≤ 140737488351232 ∧ x.f1.length * 16 ≤ 140737488351232 ∧ ∀ v ∈ x.f1, (Lit.int .i64 v.f0).wf = true ∧ (Lit.int .i64 v.f1).wf = true) :=
  opens_iso (fun x : S40 => (x.f0, x.f1)) (fun p => ⟨p.1, p.2⟩) (fun _ => rfl) (opens_struct2 Try.underlying40 (opens_string Try.underlying9 (by kernel_rfl)) (opens_slice Try.underlying38 (by kernel_rfl) (by kernel_rfl) opens24) rfl rfl (by kernel_rfl))
theorem opens22 : Opens Try.prog (Kd.slice 40 k40) 22 (fun xs => xs.length * 40 ≤ 140737488351232 ∧ ∀ x ∈ xs, x.f0.size ≤ 140737488351232 ∧ x.f1.length * 16 ≤ 140737488351232 ∧ ∀ v ∈ x.f1, (Lit.int .i64 v.f0).wf = true ∧ (Lit.int .i64 v.f1).wf = true) :=
  opens_slice Try.underlying22 (by kernel_rfl) (by kernel_rfl) opens40
theorem good_of {l : List S40} (h : l.length * 40 ≤ 140737488351232 ∧ ∀ x ∈ l, x.f0.size ≤ 140737488351232 ∧ x.f1.length * 16 ≤ 140737488351232 ∧ ∀ v ∈ x.f1, (Lit.int .i64 v.f0).wf = true ∧ (Lit.int .i64 v.f1).wf = true) : Q.Good l :=
  ⟨by omega, fun x hx => by have := (h.2 x hx).2.1; omega⟩
theorem i64_of {n : Int} (h : (Lit.int .i64 n).wf = true) : I64 n := by
  simp [Lit.wf, IntKind.min, IntKind.max, IntKind.bits, IntKind.signed] at h
  unfold I64
  omega
theorem cells_two {cs : Array Value} {a b : Value} (h : cs.toList = [a, b]) : cs = #[a, b] := by
  apply Array.toList_inj.1
  simpa using h
end Go.Proofs.Yticpjpacoeecmaa.Open
