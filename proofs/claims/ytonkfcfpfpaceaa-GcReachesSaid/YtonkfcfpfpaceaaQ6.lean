/- gc, plain: the law GcReaches. -/
import Derived.Test.YtonkfcfpfpaceaaQ5
import Derived.Test.YtonkfcfpfpaceaaMD
namespace Go.Proofs.Ytonkfcfpfpaceaa.Q
open Go.RowKit Go.Proofs.YtonkfcfpfpaceaaW.PrintWords Go.Proofs.YtonkfcfpfpaceaaW.PrintMore Go.Proofs.Ytonkfcfpfpaceaa.A.P
set_option linter.unusedVariables false
set_option linter.unusedSimpArgs false
theorem GcReaches_f {l : List S37} {vs : List S41} (hg : Good l) (hw : WfH l) (hv : WfV vs) {k : Nat} (hk : 100000000000 + l.length < k) : larchlaw16_GcReaches.f k l vs = some true := by
  obtain ⟨k', rfl⟩ : ∃ m, k = m + 1 := ⟨k - 1, by omega⟩
  unfold larchlaw16_GcReaches.f
  obtain ⟨r, h1, h2⟩ := light_f hg (k := k' + 1) (by omega)
  rw [h1]
  simp only [Option.bind_some, larchlaw16_GcReaches.j0]
  cases r with
  | false => rfl
  | true =>
    have hL := Light.of (h2 rfl)
    simp only [if_true]
    by_cases h3 : (vs.length : Int) > 300
    · rw [decide_eq_true h3]; rfl
    · rw [decide_eq_false h3]
      have hok := hL.ok hw hv (by omega)
      have hlen := hL.len
      simp only [Bool.false_eq_true, if_false]
      rw [copy_f hg (by omega)]
      simp only [Option.bind_some]
      rw [reach_f hg hok, rreach_f hg hw hv (by omega) (by omega), sweep_f hg hw hv hok, rsweep_f hg hw hv (by omega) (by omega)]
      simp only [Option.bind_some]
      have hsl := hL.small.so (k := k') (by omega)
      have hwk := works_f (k := k') (by omega)
      by_cases hc : chk l = 0
      · rw [if_pos hc, if_pos hc]
        have hin := (trO_post hw hv).1
        have hil := hin.len
        simp only
        rw [si_f _ (by omega) (by omega), (swept_small hL hin).so (by omega), hsl, hwk]
        simp
      · rw [if_neg hc, if_neg hc]
        simp only
        rw [si_f _ (by simp) (by simp; omega), Small.nil.so (by omega), hsl, hwk]
        simp
end Go.Proofs.Ytonkfcfpfpaceaa.Q
