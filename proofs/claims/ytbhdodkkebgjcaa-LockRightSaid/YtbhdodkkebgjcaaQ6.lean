/- lock, plain: LockRight. -/
import Derived.Test.YtbhdodkkebgjcaaQ3
import Derived.Test.YtbhdodkkebgjcaaAx11
namespace Go.Proofs.Ytbhdodkkebgjcaa.Q
open Go.RowKit Go.Proofs.YtbhdodkkebgjcaaW.PrintWords Go.Proofs.Ytbhdodkkebgjcaa.A.P
set_option linter.unusedVariables false
set_option linter.unusedSimpArgs false
theorem among3_f (a : Int) : larchbase_Among.f a 3 = some 0 ∨ larchbase_Among.f a 3 = some 1 ∨ larchbase_Among.f a 3 = some 2 := by
  unfold larchbase_Among.f
  rw [if_neg (by decide), if_neg (by decide)]
  have h0 : IntKind.u64.wrap (3 : Int) = 3 := by decide
  rw [h0]
  have h1 : 0 ≤ IntKind.u64.wrap a := by simp [IntKind.wrap, IntKind.signed, IntKind.bits]; omega
  have h2 : 0 ≤ Int.tmod (IntKind.u64.wrap a) 3 := Int.tmod_nonneg _ h1
  have h3 : Int.tmod (IntKind.u64.wrap a) 3 < 3 := Int.tmod_lt_of_pos _ (by decide)
  rw [wr (by omega) (by omega)]
  have : Int.tmod (IntKind.u64.wrap a) 3 = 0 ∨ Int.tmod (IntKind.u64.wrap a) 3 = 1 ∨ Int.tmod (IntKind.u64.wrap a) 3 = 2 := by omega
  rcases this with h | h | h <;> rw [h] <;> simp
theorem owner_mem : ∀ {m : List S38} (h : Ris m) {x : S38}, x ∈ m → owner m x.f0 = x.f1
  | y :: r, h, x, hx => by
    obtain ⟨h1, h2⟩ := List.pairwise_cons.1 h
    rcases List.mem_cons.1 hx with rfl | hx
    · rw [owner, if_pos rfl]
    · rw [owner, if_neg (by have := h1 x hx; omega)]
      exact owner_mem h2 hx
structure Fine (l : List S38) (o : Int) (m : List S38) (e : Int) : Prop where
  has : (e ≠ 0 ∧ m = []) ∨ (e = 0 ∧ Rt m ∧ m.length ≤ l.length + 1 ∧ l.length ≤ m.length + 1 ∧ ∀ x ∈ l, x.f0 ≠ o → x ∈ m)
theorem enter_fine {l : List S38} (hl : l.length ≤ 5864062014634) {o w c : Int} (hR : Rt l) (hs : Safe l c) {k : Nat} (hk : l.length < k) : ∃ e, lock_Enter.f k l o w c = some e ∧ Fine l o e.1 e.2 := by
  by_cases h : 1 ≤ o ∧ 0 ≤ w ∧ 1 ≤ c
  · obtain ⟨ho, hw, hc⟩ := h
    rcases split_at hR.1 o with ⟨A, x, B, rfl, rfl, hA, hB⟩ | ⟨A, B, rfl, hA, hB⟩
    · obtain ⟨hR2, _, _, _, h1, h2⟩ := rt_mid.1 hR
      have hx := hs.1 x (by simp)
      have hc2 := hs.2
      refine ⟨_, enter_hit (by omega) hR hw hc hk, ?_⟩
      split
      · refine ⟨.inr ⟨rfl, rt_mid.2 ⟨hR2, hA, hB, ho, h1, by rw [wr (by omega) (by omega)]; simp only; omega⟩, by simp, by simp, fun y hy hne => ?_⟩⟩
        simp only [List.mem_append, List.mem_cons] at hy ⊢
        rcases hy with hy | rfl | hy
        · exact .inl hy
        · exact absurd rfl hne
        · exact .inr (.inr hy)
      · exact ⟨.inl ⟨by decide, rfl⟩⟩
    · refine ⟨_, enter_new (by omega) hR hA hB ho hw hc hk, ⟨.inr ⟨rfl, rt_mid.2 ⟨hR, hA, hB, ho, hw, hc⟩, by simp; omega, by simp; omega, fun y hy hne => ?_⟩⟩⟩
      simp only [List.mem_append, List.mem_cons] at hy ⊢
      rcases hy with hy | hy
      · exact .inl hy
      · exact .inr (.inr hy)
  · exact ⟨_, enter_bad (by omega) (fun h5 => h h5.2) hk, ⟨.inl ⟨by decide, rfl⟩⟩⟩
theorem leave_fine {l : List S38} (hl : l.length ≤ 5864062014634) {o w : Int} (hR : Rt l) {k : Nat} (hk : l.length < k) : ∃ e, lock_Leave.f k l o w = some e ∧ Fine l o e.1 e.2.2 := by
  by_cases h : 1 ≤ o ∧ 0 ≤ w
  · obtain ⟨ho, hw⟩ := h
    rcases split_at hR.1 o with ⟨A, x, B, rfl, rfl, hA, hB⟩ | ⟨A, B, rfl, hA, hB⟩
    · obtain ⟨hR2, _, _, _, h1, h2⟩ := rt_mid.1 hR
      refine ⟨_, leave_hit (by omega) hR hw hk, ?_⟩
      split
      · refine ⟨.inr ⟨rfl, hR2, by simp; omega, by simp; omega, fun y hy hne => ?_⟩⟩
        simp only [List.mem_append, List.mem_cons] at hy ⊢
        rcases hy with hy | rfl | hy
        · exact .inl hy
        · exact absurd rfl hne
        · exact .inr hy
      · exact ⟨.inl ⟨by decide, rfl⟩⟩
    · exact ⟨_, leave_miss (by omega) hR hA hB ho hw hk, ⟨.inl ⟨by decide, rfl⟩⟩⟩
  · exact ⟨_, leave_bad (by omega) (fun h5 => h h5.2) hk, ⟨.inl ⟨by decide, rfl⟩⟩⟩
theorem exit_fine {l : List S38} (hl : l.length ≤ 5864062014634) {o w c : Int} (hR : Rt l) (hs : Safe l c) {k : Nat} (hk : l.length < k) : ∃ e, lock_Exit.f k l o w = some e ∧ Fine l o e.1 e.2 := by
  by_cases h : 1 ≤ o ∧ 0 ≤ w
  · obtain ⟨ho, hw⟩ := h
    rcases split_at hR.1 o with ⟨A, x, B, rfl, rfl, hA, hB⟩ | ⟨A, B, rfl, hA, hB⟩
    · obtain ⟨hR2, _, _, _, h1, h2⟩ := rt_mid.1 hR
      have hx := hs.1 x (by simp)
      refine ⟨_, exit_hit (by omega) hR hw (by omega) hk, ?_⟩
      split
      · split
        · refine ⟨.inr ⟨rfl, hR2, by simp; omega, by simp; omega, fun y hy hne => ?_⟩⟩
          simp only [List.mem_append, List.mem_cons] at hy ⊢
          rcases hy with hy | rfl | hy
          · exact .inl hy
          · exact absurd rfl hne
          · exact .inr hy
        · refine ⟨.inr ⟨rfl, rt_mid.2 ⟨hR2, hA, hB, ho, h1, by simp only; omega⟩, by simp, by simp, fun y hy hne => ?_⟩⟩
          simp only [List.mem_append, List.mem_cons] at hy ⊢
          rcases hy with hy | rfl | hy
          · exact .inl hy
          · exact absurd rfl hne
          · exact .inr (.inr hy)
      · exact ⟨.inl ⟨by decide, rfl⟩⟩
    · exact ⟨_, exit_miss (by omega) hR hA hB ho hw hk, ⟨.inl ⟨by decide, rfl⟩⟩⟩
  · exact ⟨_, exit_bad (by omega) (fun h5 => h h5.2) hk, ⟨.inl ⟨by decide, rfl⟩⟩⟩
theorem right_l0 {l m : List S38} {o : Int} (hl : l.length ≤ 5864062014634) (hR : Rt m) (h1 : m.length ≤ l.length + 1) (h2 : l.length ≤ m.length + 1) (hx : ∀ x ∈ l, x.f0 ≠ o → x ∈ m) :
    ∀ (d k i : Nat), l.length - i = d → i ≤ l.length → l.length + 2 + d < k → larchlaw19_LockRight.l0 k l o m i = some true := by
  intro d
  induction d with
  | zero =>
    intro k i hd hi hk
    obtain ⟨k, rfl⟩ : ∃ m, k = m + 1 := ⟨k - 1, by omega⟩
    rw [larchlaw19_LockRight.l0, if_neg (by omega), rcheck_f (by omega) (by omega), Option.bind_some]
    unfold chk
    rw [if_pos hR, if_pos rfl, wr (by omega) (by omega), wr (by omega) (by omega), if_pos (by omega), decide_eq_true (by omega)]
  | succ d ih =>
    intro k i hd hi hk
    obtain ⟨k, rfl⟩ : ∃ m, k = m + 1 := ⟨k - 1, by omega⟩
    have hlt : i < l.length := by omega
    have h3 := ih k (i + 1) (by omega) (by omega) (by omega)
    rw [show ((i + 1 : Nat) : Int) = (i : Int) + 1 by omega] at h3
    rw [larchlaw19_LockRight.l0, if_pos (by omega), if_pos (by omega), wr (by omega) (by omega), rd_nat l i hlt]
    by_cases h4 : l[i].f0 = o
    · rw [if_pos h4, h3]
    · rw [if_neg h4, owner_f (by omega), Option.bind_some, owner_mem hR.1 (hx _ (List.getElem_mem hlt) h4), if_pos rfl, h3]
theorem right_j1 {l m : List S38} {o e : Int} (hl : l.length ≤ 5864062014634) (hf : Fine l o m e) {k : Nat} (hk : l.length + l.length + 5 < k) : larchlaw19_LockRight.j1 k l o m e = some true := by
  obtain ⟨k, rfl⟩ : ∃ m, k = m + 1 := ⟨k - 1, by omega⟩
  rw [larchlaw19_LockRight.j1]
  rcases hf.has with ⟨h1, rfl⟩ | ⟨rfl, hR, h1, h2, hx⟩
  · rw [if_neg h1]
    rfl
  · rw [if_pos rfl]
    exact right_l0 hl hR h1 h2 hx l.length k 0 (by omega) (by omega) (by omega)
theorem LockRight_f {l : List S38} (hl : l.length ≤ 5864062014634) (o w c which : Int) {k : Nat} (hk : l.length + l.length + 10 < k) : larchlaw19_LockRight.f k l o w c which = some true := by
  have yes : larchlaw19_LockRight.j0 k l o w c which true = some true := by
    obtain ⟨k, rfl⟩ : ∃ m, k = m + 1 := ⟨k - 1, by omega⟩
    rw [larchlaw19_LockRight.j0, if_pos rfl]
  unfold larchlaw19_LockRight.f
  rw [works_f (by omega), Option.bind_some, if_pos rfl, check_f (by omega) (by omega), Option.bind_some]
  unfold chk
  by_cases hR : Rt l
  · rw [if_pos hR, if_pos rfl, safe_f c (by omega) (by omega), Option.bind_some]
    by_cases hs : Safe l c
    · rw [decide_eq_true hs]
      obtain ⟨k, rfl⟩ : ∃ m, k = m + 1 := ⟨k - 1, by omega⟩
      obtain ⟨e1, h1, f1⟩ := enter_fine hl (o := o) (w := w) hR hs (k := k) (by omega)
      obtain ⟨e2, h2, f2⟩ := exit_fine hl (o := o) (w := w) hR hs (k := k) (by omega)
      obtain ⟨e3, h3, f3⟩ := leave_fine hl (o := o) (w := w) hR (k := k) (by omega)
      rw [larchlaw19_LockRight.j0, if_neg (by decide)]
      rcases among3_f which with h | h | h
      · rw [h, Option.bind_some, if_pos rfl, h1, Option.bind_some]
        exact right_j1 hl f1 (by omega)
      · rw [h, Option.bind_some, if_neg (by decide), if_pos rfl, h2, Option.bind_some]
        exact right_j1 hl f2 (by omega)
      · rw [h, Option.bind_some, if_neg (by decide), if_neg (by decide), if_pos rfl, h3, Option.bind_some]
        exact right_j1 hl f3 (by omega)
    · rw [decide_eq_false hs]
      exact yes
  · rw [if_neg hR, if_neg (by decide), yes]
end Go.Proofs.Ytbhdodkkebgjcaa.Q
