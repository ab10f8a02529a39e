/- gc, plain: the law GcCanons. -/
import Derived.Test.YtonkfcfpfpaceaaQ5
import Derived.Test.YtonkfcfpfpaceaaMF
namespace Go.Proofs.Ytonkfcfpfpaceaa.Q
open Go.RowKit Go.Proofs.YtonkfcfpfpaceaaW.PrintWords Go.Proofs.YtonkfcfpfpaceaaW.PrintMore Go.Proofs.Ytonkfcfpfpaceaa.A.P
set_option linter.unusedVariables false
set_option linter.unusedSimpArgs false
theorem GcCanons_f {l m : List S37} {a b : List S41} (hg : Good l) (hw : WfH l) (ha : WfV a) (hg2 : Good m) (hw2 : WfH m) (hb : WfV b) (hal : a.length ≤ 4000000000000000000) (hbl : b.length ≤ 4000000000000000000) {k : Nat} (hk : 100000000000 + l.length + m.length < k) : larchlaw16_GcCanons.f k l a m b = some true := by
  obtain ⟨k', rfl⟩ : ∃ q, k = q + 1 + 1 := ⟨k - 2, by omega⟩
  unfold larchlaw16_GcCanons.f
  obtain ⟨r, h1, h2⟩ := light_f hg (k := k' + 1 + 1) (by omega)
  obtain ⟨r', h1', h2'⟩ := light_f hg2 (k := k' + 1 + 1) (by omega)
  rw [h1, h1']
  simp only [Option.bind_some, larchlaw16_GcCanons.j0]
  cases r with
  | false => rfl
  | true =>
    cases r' with
    | false => rfl
    | true =>
      have hL := Light.of (h2 rfl)
      have hL2 := Light.of (h2' rfl)
      simp only [if_true]
      rw [wr (by omega) (by omega)]
      by_cases h3 : (a.length : Int) + (b.length : Int) > 300
      · rw [decide_eq_true h3]; rfl
      · rw [decide_eq_false h3]
        have hlen := hL.len
        have hlen2 := hL2.len
        simp only [Bool.false_eq_true, if_false]
        obtain ⟨r3, e3, i3⟩ := same_f hg hw hL ha (by omega) hg2 hw2 hL2 hb (by omega) (k := k' + 1) (by omega)
        rw [copy_f hg (by omega)]
        simp only [Option.bind_some]
        rw [canon_f hg hw ha (by omega) (hL.ok hw ha (by omega)), rcanon_f hg hw ha (by omega) (by omega), rcanon_f hg2 hw2 hb (by omega) (by omega)]
        simp only [Option.bind_some]
        rw [e3]
        simp only [Option.bind_some]
        have hsl := hL.small.so (k := k') (by omega)
        have hwk := works_f (k := k') (by omega)
        have hs1 := canon_small hL (trO_post hw ha).1
        by_cases hc : chk l = 0
        · simp only [if_pos hc, if_true, larchlaw16_GcCanons.j1]
          obtain ⟨q1, f1, j1⟩ := sos_f (canonH l (trO l a)) (canonH l (trO l a)) (by omega) (fun x hx => by have := hs1.2 x hx; omega) (k := k') (by omega)
          obtain ⟨q2, f2, j2⟩ := svs_f (canonV l (trO l a) a) (canonV l (trO l a) a) (by simp [canonV]; omega) (k := k') (by simp [canonV]; omega)
          obtain rfl : q1 = true := j1.2 rfl
          obtain rfl : q2 = true := j2.2 rfl
          rw [f1]
          simp only [Option.bind_some, if_true]
          rw [f2]
          simp only [Option.bind_some, if_true]
          by_cases hc2 : chk m = 0
          · simp only [if_pos hc2, if_true]
            obtain ⟨q3, f3, j3⟩ := sos_f (canonH l (trO l a)) (canonH m (trO m b)) (by omega) (fun x hx => by have := hs1.2 x hx; omega) (k := k') (by omega)
            obtain ⟨q4, f4, j4⟩ := svs_f (canonV l (trO l a) a) (canonV m (trO m b) b) (by simp [canonV]; omega) (k := k') (by simp [canonV]; omega)
            rw [f3]
            simp only [Option.bind_some]
            cases q3 with
            | true =>
              simp only [if_true]
              rw [f4]
              simp only [Option.bind_some]
              have hr : r3 = q4 := by
                cases r3 with
                | true => exact (j4.2 (i3.1 rfl).2.2.2).symm
                | false =>
                  cases q4 with
                  | false => rfl
                  | true => exact i3.2 ⟨hc, hc2, j3.1 rfl, j4.1 rfl⟩
              rw [hr, if_pos (by simp), hsl]
              simp only [Option.bind_some, if_true]
              rw [hwk]
              rfl
            | false =>
              have hr : r3 = false := by
                cases r3 with
                | true => have := j3.2 (i3.1 rfl).2.2.1; cases this
                | false => rfl
              simp only [Bool.false_eq_true, if_false]
              rw [hr, if_pos (by simp), hsl]
              simp only [Option.bind_some, if_true]
              rw [hwk]
              rfl
          · simp only [if_neg hc2, if_true]
            have hr : r3 = false := by
              cases r3 with
              | true => exact absurd (i3.1 rfl).2.1 hc2
              | false => rfl
            rw [hr]
            simp only [beq_self_eq_true, if_true]
            rw [hsl]
            simp only [Option.bind_some, if_true]
            rw [hwk]
            rfl
        · simp only [if_neg hc, larchlaw16_GcCanons.j1]
          have hr : r3 = false := by
            cases r3 with
            | true => exact absurd (i3.1 rfl).1 hc
            | false => rfl
          rw [Small.nil.so (by omega)]
          simp only [Option.bind_some, if_true]
          rw [sv_f [] (by simp) (by simp; omega)]
          simp only [Option.bind_some, if_true, if_neg hc]
          rw [hr]
          simp only [beq_self_eq_true, if_true]
          rw [hsl]
          simp only [Option.bind_some, if_true]
          rw [hwk]
          rfl
end Go.Proofs.Ytonkfcfpfpaceaa.Q
