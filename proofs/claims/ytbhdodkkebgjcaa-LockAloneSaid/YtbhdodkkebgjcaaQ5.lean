/- lock, plain: LockBack, LockAlone. -/
import Derived.Test.YtbhdodkkebgjcaaQ3
import Derived.Test.YtbhdodkkebgjcaaAx9
import Derived.Test.YtbhdodkkebgjcaaAx10
namespace Go.Proofs.Ytbhdodkkebgjcaa.Q
open Go.RowKit Go.Proofs.YtbhdodkkebgjcaaW.PrintWords Go.Proofs.Ytbhdodkkebgjcaa.A.P
set_option linter.unusedVariables false
set_option linter.unusedSimpArgs false
theorem same_eq {a b : List S38} (h : a = b) (hl : a.length ≤ 5864062014800) {k : Nat} (hk : a.length < k) : larchlaw19_same.f k a b = some true := by
  rw [same_f hl hk, decide_eq_true h]
theorem eta38 (x : S38) : (⟨x.f0, x.f1, x.f2⟩ : S38) = x := rfl
theorem back_j0 {l : List S38} (hl : l.length ≤ 5864062014634) (o w : Int) {k : Nat} (hk : l.length + 3 < k) : larchlaw19_LockBack.j0 k l o w = some true := by
  obtain ⟨k, rfl⟩ : ∃ m, k = m + 1 := ⟨k - 1, by omega⟩
  have no : ∀ e : Int, e ≠ 0 → lock_Leave.f k l o w = some ([], 0, e) → larchlaw19_LockBack.j0 (k + 1) l o w = some true := fun e he h => by
    rw [larchlaw19_LockBack.j0, h, Option.bind_some, if_neg he]
    rfl
  by_cases h : Rt l ∧ 1 ≤ o ∧ 0 ≤ w
  · obtain ⟨hR, ho, hw⟩ := h
    rcases split_at hR.1 o with ⟨A, x, B, rfl, rfl, hA, hB⟩ | ⟨A, B, rfl, hA, hB⟩
    · have h1 := leave_hit (A := A) (B := B) (x := x) (by omega) hR hw (k := k) (by omega)
      obtain ⟨hR2, _, _, _, _, h2⟩ := rt_mid.1 hR
      by_cases hf : x.f1 = w
      · rw [if_pos hf] at h1
        have hl2 : (A ++ B).length ≤ 5864062014700 := by simp at hl ⊢; omega
        have hk2 : (A ++ B).length < k := by simp at hk ⊢; omega
        subst hf
        rw [larchlaw19_LockBack.j0, h1, Option.bind_some, if_pos rfl, enter_new hl2 hR2 hA hB ho hw h2 hk2, Option.bind_some, if_pos rfl, same_eq rfl (by simp at hl ⊢; omega) (by simp at hk ⊢; omega), Option.bind_some, if_pos rfl, owner_f hl2, Option.bind_some, owner_miss (fun y hy => by
          rcases List.mem_append.1 hy with hy | hy
          · have := hA y hy; omega
          · have := hB y hy; omega)]
        rfl
      · rw [if_neg hf] at h1
        exact no 5 (by decide) h1
    · exact no 5 (by decide) (leave_miss (by omega) hR hA hB ho hw (by omega))
  · exact no 2 (by decide) (leave_bad (by omega) h (by omega))
theorem LockBack_f {l : List S38} (hl : l.length ≤ 5864062014634) (o w : Int) {k : Nat} (hk : l.length + 10 < k) : larchlaw19_LockBack.f k l o w = some true := by
  have hj := back_j0 hl o w (k := k) (by omega)
  unfold larchlaw19_LockBack.f
  rw [works_f (by omega), Option.bind_some, if_pos rfl, safe_f 1 (by omega) (by omega), Option.bind_some]
  by_cases hs : Safe l 1
  · rw [decide_eq_true hs, if_pos rfl]
    by_cases h : Rt l ∧ 1 ≤ o ∧ 0 ≤ w
    · obtain ⟨hR, ho, hw⟩ := h
      rcases split_at hR.1 o with ⟨A, x, B, rfl, rfl, hA, hB⟩ | ⟨A, B, rfl, hA, hB⟩
      · obtain ⟨hR2, _, _, _, h1, h2⟩ := rt_mid.1 hR
        have hx := hs.1 x (by simp)
        rw [enter_hit (by omega) hR hw (by decide) (by omega), Option.bind_some]
        by_cases hf : x.f1 = w
        · rw [if_pos hf, if_pos rfl, wr (by omega) (by omega)]
          have hR3 : Rt (A ++ (⟨x.f0, x.f1, x.f2 + 1⟩ : S38) :: B) := rt_mid.2 ⟨hR2, hA, hB, ho, h1, by simp only; omega⟩
          have e := exit_hit (A := A) (B := B) (x := ⟨x.f0, x.f1, x.f2 + 1⟩) (w := w) (k := k) (by simp at hl ⊢; omega) hR3 hw (by simp only; omega) (by simp at hk ⊢; omega)
          simp only at e
          rw [if_pos hf, if_neg (by omega), show x.f2 + 1 - 1 = x.f2 by omega] at e
          rw [e, Option.bind_some, if_pos rfl, same_eq rfl (by simp at hl ⊢; omega) (by simp at hk ⊢; omega), Option.bind_some, if_pos rfl, hj]
        · rw [if_neg hf, if_neg (by decide), hj]
      · rw [enter_new (by omega) hR hA hB ho hw (by decide) (by omega), Option.bind_some, if_pos rfl]
        have hR3 : Rt (A ++ (⟨o, w, 1⟩ : S38) :: B) := rt_mid.2 ⟨hR, hA, hB, ho, hw, Int.le_refl 1⟩
        have e := exit_hit (A := A) (B := B) (x := ⟨o, w, 1⟩) (w := w) (k := k) (by simp at hl ⊢; omega) hR3 hw (show (1 : Int) ≤ 1000000000000000 by decide) (by simp at hk ⊢; omega)
        simp only [if_true] at e
        rw [e, Option.bind_some, if_pos rfl, same_eq rfl (show (A ++ B).length ≤ _ by omega) (show (A ++ B).length < _ by omega), Option.bind_some, if_pos rfl, hj]
    · rw [enter_bad (by omega) (fun h5 => h ⟨h5.1, h5.2.1, h5.2.2.1⟩) (by omega), Option.bind_some, if_neg (by decide), hj]
  · rw [decide_eq_false hs, if_neg (by decide)]
theorem among_f (a : Int) : ∃ t, larchbase_Among.f a 20 = some t ∧ 0 ≤ t ∧ t ≤ 19 := by
  unfold larchbase_Among.f
  rw [if_neg (by decide), if_neg (by decide)]
  refine ⟨_, rfl, ?_⟩
  have h0 : IntKind.u64.wrap (20 : Int) = 20 := by decide
  rw [h0]
  have h1 : 0 ≤ IntKind.u64.wrap a := by unfold IntKind.wrap; simp [IntKind.signed, IntKind.bits]; omega
  have h2 : 0 ≤ Int.tmod (IntKind.u64.wrap a) 20 := Int.tmod_nonneg _ h1
  have h3 : Int.tmod (IntKind.u64.wrap a) 20 < 20 := Int.tmod_lt_of_pos _ (by decide)
  rw [wr (by omega) (by omega)]
  omega
theorem alone_l0 {A B : List S38} {o w w2 n : Int} (hl : (A ++ B).length ≤ 5864062014634) (hR : Rt (A ++ B)) (hA : ∀ y ∈ A, y.f0 < o) (hB : ∀ y ∈ B, o < y.f0) (ho : 1 ≤ o) (hw : 0 ≤ w) (hw2 : 0 ≤ w2) (hne : w2 ≠ w) (hn : n ≤ 20) :
    ∀ (d k : Nat) (i : Int), n - i = d → 0 ≤ i → (A ++ B).length + 5 + 2 * d < k → larchlaw19_LockAlone.l0 k (A ++ B) o w w2 n (if i < n then A ++ ⟨o, w, n - i⟩ :: B else A ++ B) i = some true := by
  have hl2 : A.length + B.length ≤ 5864062014634 := by simpa using hl
  intro d
  induction d with
  | zero =>
    intro k i hd hi hk
    obtain ⟨k, rfl⟩ : ∃ m, k = m + 1 := ⟨k - 1, by omega⟩
    have hin : ¬ (i < n) := by omega
    rw [if_neg hin, larchlaw19_LockAlone.l0, if_neg hin, enter_new (by omega) hR hA hB ho hw2 (by decide) (by omega), Option.bind_some, if_pos rfl, same_eq rfl (by omega) (by omega), Option.bind_some]
  | succ d ih =>
    intro k i hd hi hk
    obtain ⟨k, rfl⟩ : ∃ m, k = m + 1 + 1 := ⟨k - 2, by omega⟩
    have hk2 : A.length + B.length + 5 + 2 * (d + 1) < k + 1 + 1 := by simpa using hk
    have hin : i < n := by omega
    have hR3 : Rt (A ++ (⟨o, w, n - i⟩ : S38) :: B) := rt_mid.2 ⟨hR, hA, hB, ho, hw, by simp only; omega⟩
    have e1 := enter_hit (A := A) (B := B) (x := ⟨o, w, n - i⟩) (w := w2) (c := 1) (k := k + 1) (by simp; omega) hR3 hw2 (by decide) (by simp; omega)
    have e2 := exit_hit (A := A) (B := B) (x := ⟨o, w, n - i⟩) (w := w) (k := k) (by simp; omega) hR3 hw (by simp only; omega) (by simp; omega)
    simp only [if_true] at e1 e2
    rw [if_neg (Ne.symm hne)] at e1
    have h2 := ih k (i + 1) (by omega) (by omega) (by omega)
    rw [if_pos hin, larchlaw19_LockAlone.l0, if_pos hin, e1, Option.bind_some, if_pos rfl, owner_f (by simp; omega), Option.bind_some, owner_hit rfl hA]
    rw [show (w != w) = false by simp, larchlaw19_LockAlone.j2, if_neg (by decide), e2, Option.bind_some, if_pos rfl, wr (by omega) (by omega)]
    by_cases h3 : n - i = 1
    · rw [if_neg (by omega)] at h2
      rw [if_pos h3]
      exact h2
    · rw [if_pos (by omega), show n - (i + 1) = n - i - 1 by omega] at h2
      rw [if_neg h3]
      exact h2
theorem LockAlone_f {l : List S38} (hl : l.length ≤ 5864062014634) (o w w2 c : Int) {k : Nat} (hk : l.length + 60 < k) : larchlaw19_LockAlone.f k l o w w2 c = some true := by
  obtain ⟨t, ht, t0, t1⟩ := among_f c
  unfold larchlaw19_LockAlone.f
  rw [works_f (by omega), Option.bind_some, if_pos rfl, ht, Option.bind_some, wr (x := 1 + t) (by omega) (by omega)]
  have yes : ∀ m, larchlaw19_LockAlone.j0 k l o w w2 (1 + t) m true = some true := fun m => by
    obtain ⟨k, rfl⟩ : ∃ m, k = m + 1 := ⟨k - 1, by omega⟩
    rw [larchlaw19_LockAlone.j0, if_pos rfl]
  have mid : ∀ m : List S38, (owner l o ≥ 0 ∨ (0 ≤ w2 → w2 ≠ w → larchlaw19_LockAlone.j0 k l o w w2 (1 + t) m false = some true)) → (if w2 < 0 then larchlaw19_LockAlone.j0 k l o w w2 (1 + t) m true else if w2 = w then larchlaw19_LockAlone.j0 k l o w w2 (1 + t) m true else (larchlaw19_safe.f k l (1 + t)).bind fun t304 => (if t304 = true then ((lock_Owner.f l o).bind fun t305 => (larchlaw19_LockAlone.j0 k l o w w2 (1 + t) m (decide (t305 ≥ 0)))) else (larchlaw19_LockAlone.j0 k l o w w2 (1 + t) m true))) = some true := fun m hm => by
    by_cases h1 : w2 < 0
    · rw [if_pos h1, yes]
    · rw [if_neg h1]
      by_cases h2 : w2 = w
      · rw [if_pos h2, yes]
      · rw [if_neg h2, safe_f _ (by omega) (by omega), Option.bind_some]
        by_cases h3 : Safe l (1 + t)
        · rw [decide_eq_true h3, if_pos rfl, owner_f (by omega), Option.bind_some]
          by_cases h4 : owner l o ≥ 0
          · rw [decide_eq_true h4, yes]
          · rw [decide_eq_false h4]
            exact (hm.resolve_left h4) (by omega) h2
        · rw [decide_eq_false h3, if_neg (by decide), yes]
  by_cases h : Rt l ∧ 1 ≤ o ∧ 0 ≤ w
  · obtain ⟨hR, ho, hw⟩ := h
    rcases split_at hR.1 o with ⟨A, x, B, rfl, rfl, hA, hB⟩ | ⟨A, B, rfl, hA, hB⟩
    · obtain ⟨hR2, _, _, _, h1, h2⟩ := rt_mid.1 hR
      rw [enter_hit (by omega) hR hw (by omega) (by omega), Option.bind_some]
      by_cases hf : x.f1 = w
      · rw [if_pos hf, if_pos rfl]
        exact mid _ (.inl (by rw [owner_hit rfl hA]; omega))
      · rw [if_neg hf, if_neg (by decide), yes]
    · rw [enter_new (by omega) hR hA hB ho hw (by omega) (by omega), Option.bind_some, if_pos rfl]
      refine mid _ (.inr fun h1 h2 => ?_)
      obtain ⟨k, rfl⟩ : ∃ m, k = m + 1 := ⟨k - 1, by omega⟩
      rw [larchlaw19_LockAlone.j0, if_neg (by decide)]
      have := alone_l0 (n := 1 + t) hl hR hA hB ho hw h1 h2 (by omega) (1 + t).toNat k 0 (by omega) (by omega) (by omega)
      rw [if_pos (by omega), show 1 + t - 0 = 1 + t by omega] at this
      exact this
  · rw [enter_bad (by omega) (fun h5 => h ⟨h5.1, h5.2.1, h5.2.2.1⟩) (by omega), Option.bind_some, if_neg (by decide), yes]
end Go.Proofs.Ytbhdodkkebgjcaa.Q
