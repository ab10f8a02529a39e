/- What the kinds of the arguments are, and how large they can be. -/
import Derived.Test.YtonkfcfpfpaceaaOpen
import Derived.Test.YtonkfcfpfpaceaaR2
namespace Go.Proofs.Ytonkfcfpfpaceaa.Open
open Go.RowKit Go.Proofs.YtonkfcfpfpaceaaW.PrintWords Go.Proofs.Ytonkfcfpfpaceaa.A.P Go.Proofs.Ytonkfcfpfpaceaa.Q
set_option linter.unusedVariables false
set_option linter.unusedSimpArgs false
def OkV (x : S41) : Prop := (Lit.int .i64 x.f0).wf = true ∧ (Lit.int .i64 x.f1).wf = true
def OkX (x : S37) : Prop := x.f0.size ≤ 140737488351232 ∧ x.f1.length * 16 ≤ 140737488351232 ∧ ∀ v ∈ x.f1, OkV v
theorem opens41 : Opens Try.prog k41 41 OkV :=
  opens_iso (fun x : S41 => (x.f0, x.f1)) (fun p => ⟨p.1, p.2⟩) (fun _ => rfl) (opens_struct2 Try.underlying41 (opens_int Try.underlying3 (by kernel_rfl)) (opens_int Try.underlying3 (by kernel_rfl)) rfl rfl (by kernel_rfl))
theorem opens23 : Opens Try.prog (Kd.slice 41 k41) 23 (fun xs => xs.length * 16 ≤ 140737488351232 ∧ ∀ x ∈ xs, OkV x) :=
  opens_slice Try.underlying23 (by kernel_rfl) (by kernel_rfl) opens41
theorem opens37 : Opens Try.prog k37 37 OkX :=
  opens_iso (fun x : S37 => (x.f0, x.f1)) (fun p => ⟨p.1, p.2⟩) (fun _ => rfl) (opens_struct2 Try.underlying37 (opens_string Try.underlying9 (by kernel_rfl)) opens23 rfl rfl (by kernel_rfl))
theorem opens22 : Opens Try.prog (Kd.slice 37 k37) 22 (fun xs => xs.length * 40 ≤ 140737488351232 ∧ ∀ x ∈ xs, OkX x) :=
  opens_slice Try.underlying22 (by kernel_rfl) (by kernel_rfl) opens37
theorem good_of {l : List S37} (h : l.length * 40 ≤ 140737488351232 ∧ ∀ x ∈ l, OkX x) : Q.Good l :=
  ⟨by omega, fun x hx => by have := (h.2 x hx).2.1; omega⟩
theorem wfH_of {l : List S37} (h : l.length * 40 ≤ 140737488351232 ∧ ∀ x ∈ l, OkX x) : Q.WfH l := fun x hx v hv => ((h.2 x hx).2.2 v hv).2
theorem wfV_of {l : List S41} (h : l.length * 16 ≤ 140737488351232 ∧ ∀ x ∈ l, OkV x) : Q.WfV l := fun v hv => (h.2 v hv).2
end Go.Proofs.Ytonkfcfpfpaceaa.Open
