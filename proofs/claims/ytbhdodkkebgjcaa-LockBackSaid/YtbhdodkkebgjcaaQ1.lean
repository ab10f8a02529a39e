/- lock, plain: the checks, the places, what is alike. -/
import Derived.Test.YtbhdodkkebgjcaaAx1
import Derived.Test.YtbhdodkkebgjcaaAx4
import Derived.Test.YtbhdodkkebgjcaaL10
namespace Go.Proofs.Ytbhdodkkebgjcaa.Q
open Go.RowKit Go.Proofs.YtbhdodkkebgjcaaW.PrintWords Go.Proofs.Ytbhdodkkebgjcaa.A.P
set_option linter.unusedVariables false
set_option linter.unusedSimpArgs false
theorem wr {x : Int} (h0 : -9223372036854775808 ≤ x) (h1 : x ≤ 9223372036854775807) : wrap64 x = x := by unfold wrap64; omega
deriving instance DecidableEq for S38
/-- A right list. -/
def Rt (l : List S38) : Prop := Ris l ∧ ∀ x ∈ l, 1 ≤ x.f0 ∧ 0 ≤ x.f1 ∧ 1 ≤ x.f2
instance (l : List S38) : Decidable (Rt l) := inferInstanceAs (Decidable (_ ∧ _))
/-- What stands from a place on is right behind what was last. -/
def RtFrom (last : Int) : List S38 → Prop
  | [] => True
  | x :: r => last < x.f0 ∧ 0 ≤ x.f1 ∧ 1 ≤ x.f2 ∧ RtFrom x.f0 r
instance RtFrom.dec : (last : Int) → (l : List S38) → Decidable (RtFrom last l)
  | _, [] => isTrue trivial
  | last, x :: r => by unfold RtFrom; exact @instDecidableAnd _ _ _ (@instDecidableAnd _ _ _ (@instDecidableAnd _ _ _ (RtFrom.dec _ _)))
theorem rtFrom_iff : ∀ (l : List S38) (last : Int), RtFrom last l ↔ (∀ x ∈ l, last < x.f0) ∧ Ris l ∧ ∀ x ∈ l, 0 ≤ x.f1 ∧ 1 ≤ x.f2
  | [], last => by simp [RtFrom, Ris]
  | x :: r, last => by
    unfold RtFrom
    rw [rtFrom_iff r x.f0]
    unfold Ris
    simp only [List.mem_cons, List.pairwise_cons, forall_eq_or_imp]
    refine ⟨fun ⟨h1, h2, h3, h4, h5, h6⟩ => ⟨⟨h1, fun y hy => by have := h4 y hy; omega⟩, ⟨h4, h5⟩, ⟨⟨h2, h3⟩, h6⟩⟩, fun ⟨⟨h1, _⟩, ⟨h4, h5⟩, ⟨⟨h2, h3⟩, h6⟩⟩ => ⟨h1, h2, h3, h4, h5, h6⟩⟩
theorem rt_iff (l : List S38) : Rt l ↔ RtFrom 0 l := by
  rw [rtFrom_iff]
  unfold Rt
  exact ⟨fun ⟨h1, h2⟩ => ⟨fun x hx => by have := h2 x hx; omega, h1, fun x hx => ⟨(h2 x hx).2.1, (h2 x hx).2.2⟩⟩, fun ⟨h1, h2, h3⟩ => ⟨h2, fun x hx => ⟨by have := h1 x hx; omega, (h3 x hx).1, (h3 x hx).2⟩⟩⟩
def chk (l : List S38) : Int := if Rt l then 0 else 2
theorem drop_at {l : List S38} {i : Nat} (h : i < l.length) : l.drop i = rd_T38 l (i : Int) :: l.drop (i + 1) := by
  rw [rd_nat l i h, ← List.drop_eq_getElem_cons h]
theorem check_l0 (l : List S38) (hl : l.length ≤ 5864062014800) : ∀ (d k i : Nat) (last : Int), l.length - i = d → i ≤ l.length → d < k → lock_Check.l0 k last l l.length i = some (if RtFrom last (l.drop i) then 0 else 2) := by
  intro d
  induction d with
  | zero =>
    intro k i last hd hi hk
    obtain ⟨k, rfl⟩ : ∃ m, k = m + 1 := ⟨k - 1, by omega⟩
    simp only [lock_Check.l0]
    rw [if_neg (by omega), List.drop_of_length_le (by omega), if_pos (by simp [RtFrom])]
  | succ d ih =>
    intro k i last hd hi hk
    obtain ⟨k, rfl⟩ : ∃ m, k = m + 1 := ⟨k - 1, by omega⟩
    have hlt : i < l.length := by omega
    have h2 := ih k (i + 1) (rd_T38 l i).f0 (by omega) (by omega) (by omega)
    simp only [lock_Check.l0]
    rw [if_pos (by omega), if_pos (by omega), if_pos (by omega), wr (by omega) (by omega), drop_at hlt]
    rw [show ((i + 1 : Nat) : Int) = (i : Int) + 1 by omega] at h2
    rw [h2]
    by_cases h5 : (rd_T38 l i).f0 ≤ last
    · rw [if_pos h5, if_neg (by rintro ⟨h, _⟩; omega)]
    · rw [if_neg h5]
      by_cases h6 : (rd_T38 l i).f1 < 0
      · rw [if_pos h6, if_neg (by rintro ⟨_, h, _⟩; omega)]
      · rw [if_neg h6]
        by_cases h7 : (rd_T38 l i).f2 < 1
        · rw [if_pos h7, if_neg (by rintro ⟨_, _, h, _⟩; omega)]
        · rw [if_neg h7]
          by_cases h8 : RtFrom (rd_T38 l i).f0 (l.drop (i + 1))
          · rw [if_pos h8, if_pos ⟨by omega, by omega, by omega, h8⟩]
          · rw [if_neg h8, if_neg (by rintro ⟨_, _, _, h⟩; exact h8 h)]
theorem check_f {l : List S38} (hl : l.length ≤ 5864062014800) {k : Nat} (hk : l.length < k) : lock_Check.f k l = some (chk l) := by
  have := check_l0 l hl l.length k 0 0 (by omega) (by omega) hk
  unfold lock_Check.f chk
  rw [show (0 : Int) = ((0 : Nat) : Int) by rfl] at this ⊢
  rw [this]
  simp only [List.drop_zero, Int.natCast_zero, ← rt_iff]
theorem rcheck_l0 (l : List S38) (hl : l.length ≤ 5864062014800) : ∀ (d k i : Nat), l.length - i = d → i ≤ l.length → d < k → larchref19_Check.l0 k l i = some (if RtFrom (if i = 0 then 0 else max 0 (rd_T38 l (i - 1 : Nat)).f0) (l.drop i) then 0 else 2) := by
  intro d
  induction d with
  | zero =>
    intro k i hd hi hk
    obtain ⟨k, rfl⟩ : ∃ m, k = m + 1 := ⟨k - 1, by omega⟩
    simp only [larchref19_Check.l0]
    rw [if_neg (by omega), List.drop_of_length_le (by omega), if_pos (by simp [RtFrom])]
  | succ d ih =>
    intro k i hd hi hk
    obtain ⟨k, rfl⟩ : ∃ m, k = m + 1 := ⟨k - 1, by omega⟩
    have hlt : i < l.length := by omega
    have h2 := ih k (i + 1) (by omega) (by omega) (by omega)
    simp only [larchref19_Check.l0]
    rw [if_pos (by omega), if_pos (by omega), wr (x := (i : Int) + 1) (by omega) (by omega), drop_at hlt]
    rw [show ((i + 1 : Nat) : Int) = (i : Int) + 1 by omega, if_neg (show ¬ (i + 1 = 0) from Nat.succ_ne_zero i), show i + 1 - 1 = i from rfl] at h2
    rw [h2]
    by_cases h5 : (rd_T38 l i).f0 < 1
    · rw [if_pos h5, if_neg (by rintro ⟨h, _⟩; split at h <;> omega)]
    · rw [if_neg h5]
      have hm : max 0 (rd_T38 l i).f0 = (rd_T38 l i).f0 := by omega
      rw [hm]
      by_cases h6 : (rd_T38 l i).f1 < 0
      · rw [if_pos h6, if_neg (by rintro ⟨_, h, _⟩; omega)]
      · rw [if_neg h6]
        by_cases h7 : (rd_T38 l i).f2 < 1
        · rw [if_pos h7, if_neg (by rintro ⟨_, _, h, _⟩; omega)]
        · rw [if_neg h7]
          by_cases h0 : i = 0
          · subst h0
            rw [if_neg (by simp), if_pos rfl]
            by_cases h8 : RtFrom (rd_T38 l ((0 : Nat) : Int)).f0 (l.drop (0 + 1))
            · rw [if_pos h8, if_pos ⟨by omega, by omega, by omega, h8⟩]
            · rw [if_neg h8, if_neg (by rintro ⟨_, _, _, h⟩; exact h8 h)]
          · rw [if_pos (by omega), if_neg h0, wr (x := (i : Int) - 1) (by omega) (by omega), if_pos (by omega), if_pos (by omega), show (i : Int) - 1 = ((i - 1 : Nat) : Int) by omega]
            by_cases h9 : (rd_T38 l ((i - 1 : Nat) : Int)).f0 ≥ (rd_T38 l i).f0
            · rw [if_pos h9, if_neg (by rintro ⟨h, _⟩; omega)]
            · rw [if_neg h9]
              by_cases h8 : RtFrom (rd_T38 l i).f0 (l.drop (i + 1))
              · rw [if_pos h8, if_pos ⟨by omega, by omega, by omega, h8⟩]
              · rw [if_neg h8, if_neg (by rintro ⟨_, _, _, h⟩; exact h8 h)]
theorem rcheck_f {l : List S38} (hl : l.length ≤ 5864062014800) {k : Nat} (hk : l.length < k) : larchref19_Check.f k l = some (chk l) := by
  have := rcheck_l0 l hl l.length k 0 (by omega) (by omega) hk
  unfold larchref19_Check.f chk
  rw [if_pos rfl] at this
  rw [show (0 : Int) = ((0 : Nat) : Int) by rfl] at this ⊢
  rw [this]
  simp only [List.drop_zero, Int.natCast_zero, ← rt_iff]
def Safe (l : List S38) (c : Int) : Prop := (∀ x ∈ l, x.f2 ≤ 1099511627776) ∧ c ≤ 1099511627776
instance (l : List S38) (c : Int) : Decidable (Safe l c) := inferInstanceAs (Decidable (_ ∧ _))
theorem safe_l0 (l : List S38) (c : Int) (hl : l.length ≤ 5864062014800) : ∀ (d k i : Nat), l.length - i = d → i ≤ l.length → d < k → larchlaw19_safe.l0 k l c i = some (decide (Safe (l.drop i) c)) := by
  intro d
  induction d with
  | zero =>
    intro k i hd hi hk
    obtain ⟨k, rfl⟩ : ∃ m, k = m + 1 := ⟨k - 1, by omega⟩
    simp only [larchlaw19_safe.l0]
    rw [if_neg (by omega), List.drop_of_length_le (by omega)]
    simp [Safe]
  | succ d ih =>
    intro k i hd hi hk
    obtain ⟨k, rfl⟩ : ∃ m, k = m + 1 := ⟨k - 1, by omega⟩
    have hlt : i < l.length := by omega
    have h2 := ih k (i + 1) (by omega) (by omega) (by omega)
    simp only [larchlaw19_safe.l0]
    rw [show ((i + 1 : Nat) : Int) = (i : Int) + 1 by omega] at h2
    rw [if_pos (by omega), if_pos (by omega), wr (by omega) (by omega), drop_at hlt, h2]
    by_cases h5 : (rd_T38 l i).f2 > 1099511627776
    · rw [if_pos h5]
      refine congrArg some (decide_eq_false ?_).symm
      rintro ⟨h, _⟩
      have := h _ (List.mem_cons_self)
      omega
    · rw [if_neg h5]
      refine congrArg some (decide_eq_decide.2 ?_)
      unfold Safe
      simp only [List.mem_cons, forall_eq_or_imp]
      exact ⟨fun ⟨h, h'⟩ => ⟨⟨by omega, h⟩, h'⟩, fun ⟨⟨_, h⟩, h'⟩ => ⟨h, h'⟩⟩
theorem safe_f {l : List S38} (c : Int) (hl : l.length ≤ 5864062014800) {k : Nat} (hk : l.length < k) : larchlaw19_safe.f k l c = some (decide (Safe l c)) := by
  have := safe_l0 l c hl l.length k 0 (by omega) (by omega) hk
  simpa [larchlaw19_safe.f] using this
theorem at_l0 (l : List S38) (o : Int) (hl : l.length ≤ 5864062014800) : ∀ (d k i : Nat), l.length - i = d → i ≤ place l o → d < k → larchref19_at.l0 k l o i = some ((place l o : Int), isAt l o) := by
  intro d
  have hpl := place_le l o
  induction d with
  | zero =>
    intro k i hd hi hk
    obtain ⟨k, rfl⟩ : ∃ m, k = m + 1 := ⟨k - 1, by omega⟩
    simp only [larchref19_at.l0]
    obtain rfl : i = place l o := by omega
    rw [if_neg (by omega)]
    have : isAt l o = false := by unfold isAt; exact decide_eq_false (by rintro ⟨h, _⟩; omega)
    rw [this]
  | succ d ih =>
    intro k i hd hi hk
    obtain ⟨k, rfl⟩ : ∃ m, k = m + 1 := ⟨k - 1, by omega⟩
    have hlt : i < l.length := by omega
    simp only [larchref19_at.l0]
    rw [if_pos (by omega), if_pos (by omega), wr (by omega) (by omega)]
    by_cases h5 : i < place l o
    · have h6 := place_lt l o i hlt h5
      have h2 := ih k (i + 1) (by omega) (by omega) (by omega)
      rw [show ((i + 1 : Nat) : Int) = (i : Int) + 1 by omega] at h2
      rw [rd_nat l i hlt, if_pos h6, h2]
    · obtain rfl : i = place l o := by omega
      have h6 := place_ge l o hlt
      rw [if_neg (by rw [rd_nat l _ hlt]; omega)]
      have : isAt l o = ((rd_T38 l (place l o)).f0 == o) := by
        unfold isAt
        rw [Bool.eq_iff_iff, decide_eq_true_iff, beq_iff_eq]
        exact ⟨fun h => h.2, fun h => ⟨hlt, h⟩⟩
      rw [this]
theorem at_f {l : List S38} (o : Int) (hl : l.length ≤ 5864062014800) {k : Nat} (hk : l.length < k) : larchref19_at.f k l o = some ((place l o : Int), isAt l o) := by
  have := at_l0 l o hl l.length k 0 (by omega) (by omega) hk
  simpa [larchref19_at.f] using this
theorem same_l0 (a b : List S38) (hab : a.length = b.length) (hl : a.length ≤ 5864062014800) : ∀ (d k i : Nat), a.length - i = d → i ≤ a.length → d < k → larchlaw19_same.l0 k a b i = some (decide (a.drop i = b.drop i)) := by
  intro d
  induction d with
  | zero =>
    intro k i hd hi hk
    obtain ⟨k, rfl⟩ : ∃ m, k = m + 1 := ⟨k - 1, by omega⟩
    simp only [larchlaw19_same.l0]
    rw [if_neg (by omega), List.drop_of_length_le (by omega), List.drop_of_length_le (by omega)]
    simp
  | succ d ih =>
    intro k i hd hi hk
    obtain ⟨k, rfl⟩ : ∃ m, k = m + 1 := ⟨k - 1, by omega⟩
    have hlt : i < a.length := by omega
    have h2 := ih k (i + 1) (by omega) (by omega) (by omega)
    simp only [larchlaw19_same.l0]
    rw [show ((i + 1 : Nat) : Int) = (i : Int) + 1 by omega] at h2
    rw [if_pos (by omega), if_pos (by omega), if_pos (by omega), wr (by omega) (by omega), h2, drop_at hlt, drop_at (l := b) (i := i) (by omega)]
    obtain ⟨p, q, r⟩ := rd_T38 a i
    obtain ⟨p', q', r'⟩ := rd_T38 b i
    simp only
    by_cases e1 : p = p'
    · by_cases e2 : q = q'
      · by_cases e3 : r = r'
        · subst e1; subst e2; subst e3
          rw [if_neg (by simp)]
          refine congrArg some (decide_eq_decide.2 ?_)
          exact ⟨fun h => by rw [h], fun h => (List.cons.inj h).2⟩
        · rw [if_pos (by simp [e3])]
          exact congrArg some (decide_eq_false (fun h => e3 (S38.mk.inj (List.cons.inj h).1).2.2)).symm
      · rw [if_pos (by simp [e2])]
        exact congrArg some (decide_eq_false (fun h => e2 (S38.mk.inj (List.cons.inj h).1).2.1)).symm
    · rw [if_pos (by simp [e1])]
      exact congrArg some (decide_eq_false (fun h => e1 (S38.mk.inj (List.cons.inj h).1).1)).symm
theorem same_f {a b : List S38} (hl : a.length ≤ 5864062014800) {k : Nat} (hk : a.length < k) : larchlaw19_same.f k a b = some (decide (a = b)) := by
  unfold larchlaw19_same.f
  by_cases h : (a.length : Int) = b.length
  · rw [if_pos h]
    have := same_l0 a b (by omega) hl a.length k 0 (by omega) (by omega) hk
    simpa using this
  · rw [if_neg h]
    exact congrArg some (decide_eq_false (fun e => h (by rw [e]))).symm
end Go.Proofs.Ytbhdodkkebgjcaa.Q
