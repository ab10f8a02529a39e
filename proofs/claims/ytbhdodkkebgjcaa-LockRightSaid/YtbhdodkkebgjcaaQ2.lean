/- lock, plain: lists taken apart at an object; what entering, leaving and exiting come to. -/
import Derived.Test.YtbhdodkkebgjcaaQ1
import Derived.Test.YtbhdodkkebgjcaaAx2
import Derived.Test.YtbhdodkkebgjcaaAx3
import Derived.Test.YtbhdodkkebgjcaaAx7
namespace Go.Proofs.Ytbhdodkkebgjcaa.Q
open Go.RowKit Go.Proofs.YtbhdodkkebgjcaaW.PrintWords Go.Proofs.Ytbhdodkkebgjcaa.A.P
set_option linter.unusedVariables false
set_option linter.unusedSimpArgs false
theorem place_app : ∀ (A T : List S38) (o : Int), (∀ y ∈ A, y.f0 < o) → place (A ++ T) o = A.length + place T o
  | [], T, o, _ => by simp
  | x :: r, T, o, h => by
    rw [List.cons_append, place, if_pos (h x (List.mem_cons_self)), place_app r T o (fun y hy => h y (List.mem_cons_of_mem _ hy))]
    simp; omega
theorem place_zero {T : List S38} {o : Int} (h : ∀ y ∈ T, o ≤ y.f0) : place T o = 0 := by
  match T with
  | [] => rfl
  | x :: r =>
    rw [place, if_neg (by have := h x (List.mem_cons_self); omega)]
theorem rd_mid (A : List S38) (x : S38) (B : List S38) : rd_T38 (A ++ x :: B) (A.length : Int) = x := by
  rw [rd_nat _ _ (by simp), List.getElem_append_right (Nat.le_refl _)]
  simp
/-- A right list is either without an object, or has it in its midst. -/
theorem split_at {l : List S38} (h : Ris l) (o : Int) : (∃ A x B, l = A ++ x :: B ∧ x.f0 = o ∧ (∀ y ∈ A, y.f0 < o) ∧ (∀ y ∈ B, o < y.f0)) ∨ (∃ A B, l = A ++ B ∧ (∀ y ∈ A, y.f0 < o) ∧ (∀ y ∈ B, o < y.f0)) := by
  induction l with
  | nil => exact .inr ⟨[], [], rfl, by simp, by simp⟩
  | cons z r ih =>
    obtain ⟨h1, h2⟩ := List.pairwise_cons.1 h
    rcases Int.lt_trichotomy z.f0 o with hz | hz | hz
    · rcases ih h2 with ⟨A, x, B, rfl, hx, hA, hB⟩ | ⟨A, B, rfl, hA, hB⟩
      · exact .inl ⟨z :: A, x, B, rfl, hx, List.forall_mem_cons.2 ⟨hz, hA⟩, hB⟩
      · exact .inr ⟨z :: A, B, rfl, List.forall_mem_cons.2 ⟨hz, hA⟩, hB⟩
    · exact .inl ⟨[], z, r, rfl, hz, by simp, fun y hy => by have := h1 y hy; omega⟩
    · exact .inr ⟨[], z :: r, rfl, by simp, fun y hy => by
        rcases List.mem_cons.1 hy with rfl | hy
        · exact hz
        · have := h1 y hy; omega⟩
theorem rt_mid {A : List S38} {x : S38} {B : List S38} : Rt (A ++ x :: B) ↔ Rt (A ++ B) ∧ (∀ y ∈ A, y.f0 < x.f0) ∧ (∀ y ∈ B, x.f0 < y.f0) ∧ 1 ≤ x.f0 ∧ 0 ≤ x.f1 ∧ 1 ≤ x.f2 := by
  unfold Rt Ris
  simp only [List.pairwise_append, List.pairwise_cons, List.mem_append, List.mem_cons]
  constructor
  · rintro ⟨⟨h1, ⟨h2, h3⟩, h4⟩, h5⟩
    exact ⟨⟨⟨h1, h3, fun a ha b hb => h4 a ha b (.inr hb)⟩, fun y hy => h5 y (hy.elim .inl (fun h => .inr (.inr h)))⟩, fun y hy => h4 y hy x (.inl rfl), h2, h5 x (.inr (.inl rfl))⟩
  · rintro ⟨⟨⟨h1, h3, h4⟩, h5⟩, h6, h7, h8⟩
    refine ⟨⟨h1, ⟨h7, h3⟩, fun a ha b hb => ?_⟩, fun y hy => ?_⟩
    · rcases hb with rfl | hb
      · exact h6 a ha
      · exact h4 a ha b hb
    · rcases hy with hy | rfl | hy
      · exact h5 y (.inl hy)
      · exact h8
      · exact h5 y (.inr hy)
section
variable {A B : List S38} {x : S38} {o : Int}
theorem place_hit (hx : x.f0 = o) (hA : ∀ y ∈ A, y.f0 < o) : place (A ++ x :: B) o = A.length := by
  rw [place_app A _ o hA, place, if_neg (by omega)]
  rfl
theorem isAt_hit (hx : x.f0 = o) (hA : ∀ y ∈ A, y.f0 < o) : isAt (A ++ x :: B) o = true := by
  unfold isAt
  rw [place_hit hx hA, rd_mid]
  exact decide_eq_true ⟨by simp, hx⟩
theorem place_miss (hA : ∀ y ∈ A, y.f0 < o) (hB : ∀ y ∈ B, o < y.f0) : place (A ++ B) o = A.length := by
  rw [place_app A _ o hA, place_zero (fun y hy => by have := hB y hy; omega)]
  rfl
theorem isAt_miss (hA : ∀ y ∈ A, y.f0 < o) (hB : ∀ y ∈ B, o < y.f0) : isAt (A ++ B) o = false := by
  unfold isAt
  rw [place_miss hA hB]
  refine decide_eq_false ?_
  rintro ⟨h1, h2⟩
  match B, h1, h2, hB with
  | [], h1, _, _ => simp at h1
  | b :: r, _, h2, hB =>
    rw [rd_mid] at h2
    have := hB b (List.mem_cons_self)
    omega
theorem owner_hit (hx : x.f0 = o) (hA : ∀ y ∈ A, y.f0 < o) : owner (A ++ x :: B) o = x.f1 := by
  induction A with
  | nil => rw [List.nil_append, owner, if_pos hx]
  | cons a r ih =>
    rw [List.cons_append, owner, if_neg (by have := hA a (List.mem_cons_self); omega)]
    exact ih (fun y hy => hA y (List.mem_cons_of_mem _ hy))
theorem owner_miss {l : List S38} (h : ∀ y ∈ l, y.f0 ≠ o) : owner l o = -1 := owner_none l o (fun j hj => h _ (List.getElem_mem _))
end
theorem set_mid (A : List S38) (x y : S38) (B : List S38) : (A ++ x :: B).set A.length y = A ++ y :: B := by
  rw [List.set_append_right _ _ (Nat.le_refl _), Nat.sub_self]
  rfl
theorem look_f {l : List S38} (hl : l.length ≤ 5864062014700) (o w : Int) {k : Nat} (hk : l.length < k) : lock_look.f k l o w = some (if Rt l ∧ 1 ≤ o ∧ 0 ≤ w then ((place l o : Int), isAt l o, 0) else (0, false, 2)) := by
  unfold lock_look.f
  rw [check_f (by omega) hk, Option.bind_some]
  unfold chk
  by_cases h1 : Rt l
  · rw [if_pos h1, if_pos rfl]
    by_cases h2 : o < 1
    · rw [if_pos h2, if_neg (by omega)]
    · rw [if_neg h2]
      by_cases h3 : w < 0
      · rw [if_pos h3, if_neg (by omega)]
      · rw [if_neg h3, if_pos ⟨h1, by omega, by omega⟩]
        unfold api_Monitor_27.f
        rw [if_pos ⟨h1.1, hl, rfl⟩]
        rfl
  · rw [if_neg h1, if_neg (by decide), if_neg (fun h => h1 h.1)]
theorem look_ok {l : List S38} (hl : l.length ≤ 5864062014700) {o w : Int} (h1 : Rt l) (h2 : 1 ≤ o) (h3 : 0 ≤ w) {k : Nat} (hk : l.length < k) : lock_look.f k l o w = some ((place l o : Int), isAt l o, 0) := by
  rw [look_f hl o w hk, if_pos ⟨h1, h2, h3⟩]
theorem look_no {l : List S38} (hl : l.length ≤ 5864062014700) {o w : Int} (h : ¬ (Rt l ∧ 1 ≤ o ∧ 0 ≤ w)) {k : Nat} (hk : l.length < k) : lock_look.f k l o w = some (0, false, 2) := by
  rw [look_f hl o w hk, if_neg h]
theorem clone_f {l : List S38} (hl : l.length ≤ 5864062014700) : api_Monitor_22.f l = some l := by
  unfold api_Monitor_22.f
  rw [if_pos hl]
theorem enter_bad {l : List S38} (hl : l.length ≤ 5864062014700) {o w c : Int} (h : ¬ (Rt l ∧ 1 ≤ o ∧ 0 ≤ w ∧ 1 ≤ c)) {k : Nat} (hk : l.length < k) : lock_Enter.f k l o w c = some ([], 2) := by
  obtain ⟨k, rfl⟩ : ∃ m, k = m + 1 := ⟨k - 1, by omega⟩
  unfold lock_Enter.f
  by_cases h1 : Rt l ∧ 1 ≤ o ∧ 0 ≤ w
  · rw [look_ok hl h1.1 h1.2.1 h1.2.2 hk, Option.bind_some]
    simp only [reduceIte]
    rw [lock_Enter.j0, if_pos (decide_eq_true (Decidable.byContradiction fun hc => h ⟨h1.1, h1.2.1, h1.2.2, by omega⟩))]
  · rw [look_no hl h1 hk, Option.bind_some]
    simp only
    rw [if_neg (by decide), lock_Enter.j0, if_pos rfl]
theorem enter_hit {A B : List S38} {x : S38} (hl : (A ++ x :: B).length ≤ 5864062014700) {w c : Int} (hR : Rt (A ++ x :: B)) (hw : 0 ≤ w) (hc : 1 ≤ c) {k : Nat} (hk : (A ++ x :: B).length < k) : lock_Enter.f k (A ++ x :: B) x.f0 w c = some (if x.f1 = w then (A ++ ⟨x.f0, x.f1, wrap64 (x.f2 + c)⟩ :: B, 0) else ([], 8)) := by
  obtain ⟨k, rfl⟩ : ∃ m, k = m + 1 := ⟨k - 1, by omega⟩
  obtain ⟨_, hA, hB, ho, _, _⟩ := rt_mid.1 hR
  unfold lock_Enter.f
  rw [look_ok hl hR ho hw hk, Option.bind_some]
  simp only [reduceIte]
  have hlen : (A.length : Int) < ((A ++ x :: B).length : Int) := by simp; omega
  rw [lock_Enter.j0, if_neg (by simp; omega), place_hit rfl hA, isAt_hit rfl hA, if_pos rfl, if_pos (by omega), if_pos hlen, rd_mid]
  by_cases h1 : x.f1 = w
  · rw [if_pos h1, if_pos h1, clone_f hl, Option.bind_some, if_pos hlen, rd_mid, Int.toNat_natCast, set_mid]
  · rw [if_neg h1, if_neg h1]
theorem enter_new {A B : List S38} {o : Int} (hl : (A ++ B).length ≤ 5864062014700) {w c : Int} (hR : Rt (A ++ B)) (hA : ∀ y ∈ A, y.f0 < o) (hB : ∀ y ∈ B, o < y.f0) (ho : 1 ≤ o) (hw : 0 ≤ w) (hc : 1 ≤ c) {k : Nat} (hk : (A ++ B).length < k) : lock_Enter.f k (A ++ B) o w c = some (A ++ ⟨o, w, c⟩ :: B, 0) := by
  obtain ⟨k, rfl⟩ : ∃ m, k = m + 1 := ⟨k - 1, by omega⟩
  unfold lock_Enter.f
  rw [look_ok hl hR ho hw hk, Option.bind_some]
  simp only [reduceIte]
  rw [lock_Enter.j0, if_neg (by simp; omega), place_miss hA hB, isAt_miss hA hB, if_neg (by simp), clone_f hl, Option.bind_some]
  unfold api_Monitor_21.f
  rw [if_pos ⟨rfl, by omega, by simp; omega, hl⟩, Option.bind_some, Int.toNat_natCast, List.take_left, List.drop_left]
  simp
theorem leave_bad {l : List S38} (hl : l.length ≤ 5864062014700) {o w : Int} (h : ¬ (Rt l ∧ 1 ≤ o ∧ 0 ≤ w)) {k : Nat} (hk : l.length < k) : lock_Leave.f k l o w = some ([], 0, 2) := by
  unfold lock_Leave.f
  rw [look_no hl h hk, Option.bind_some]
  simp only
  rw [if_neg (by decide)]
theorem leave_hit {A B : List S38} {x : S38} (hl : (A ++ x :: B).length ≤ 5864062014700) {w : Int} (hR : Rt (A ++ x :: B)) (hw : 0 ≤ w) {k : Nat} (hk : (A ++ x :: B).length < k) : lock_Leave.f k (A ++ x :: B) x.f0 w = some (if x.f1 = w then (A ++ B, x.f2, 0) else ([], 0, 5)) := by
  obtain ⟨k, rfl⟩ : ∃ m, k = m + 1 := ⟨k - 1, by omega⟩
  obtain ⟨_, hA, hB, ho, _, _⟩ := rt_mid.1 hR
  unfold lock_Leave.f
  rw [look_ok hl hR ho hw hk, Option.bind_some]
  simp only [reduceIte]
  have hlen : (A.length : Int) < ((A ++ x :: B).length : Int) := by simp; omega
  rw [place_hit rfl hA, isAt_hit rfl hA, if_pos rfl, if_pos (by omega), if_pos hlen, rd_mid, lock_Leave.j0]
  by_cases h1 : x.f1 = w
  · rw [if_neg (by simp [h1]), if_pos h1, if_pos (by omega), if_pos hlen, clone_f hl, Option.bind_some, wr (by omega) (by omega)]
    unfold api_Monitor_24.f
    rw [if_pos ⟨by omega, rfl, by omega, hl⟩, Option.bind_some, rd_mid, Int.toNat_natCast, List.take_left, show A.length + 1 = A.length + 1 from rfl]
    simp
  · rw [if_pos (by simp [h1]), if_neg h1]
theorem leave_miss {A B : List S38} {o : Int} (hl : (A ++ B).length ≤ 5864062014700) {w : Int} (hR : Rt (A ++ B)) (hA : ∀ y ∈ A, y.f0 < o) (hB : ∀ y ∈ B, o < y.f0) (ho : 1 ≤ o) (hw : 0 ≤ w) {k : Nat} (hk : (A ++ B).length < k) : lock_Leave.f k (A ++ B) o w = some ([], 0, 5) := by
  obtain ⟨k, rfl⟩ : ∃ m, k = m + 1 := ⟨k - 1, by omega⟩
  unfold lock_Leave.f
  rw [look_ok hl hR ho hw hk, Option.bind_some]
  simp only [reduceIte]
  rw [isAt_miss hA hB, if_neg (by simp), lock_Leave.j0, if_pos rfl]
end Go.Proofs.Ytbhdodkkebgjcaa.Q
