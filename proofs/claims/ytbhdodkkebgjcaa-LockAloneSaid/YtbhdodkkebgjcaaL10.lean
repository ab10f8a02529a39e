/- The contracts of find and Owner, as plain functions. -/
import Derived.Test.YtbhdodkkebgjcaaL4
namespace Go.Proofs.Ytbhdodkkebgjcaa.A.P
open Go.RowKit Go.Proofs.YtbhdodkkebgjcaaW.PrintWords Go.Proofs.YtbhdodkkebgjcaaW.PrintLast Go.Proofs.YtbhdodkkebgjcaaW.PrintMore
set_option linter.unusedSimpArgs false
set_option linter.unusedVariables false
/-- Where a key belongs. -/
def place : List S38 → Int → Nat
  | [], _ => 0
  | x :: r, k => if x.f0 < k then place r k + 1 else 0
/-- Whether a key is there. -/
def has : List S38 → Int → Bool
  | [], _ => false
  | x :: r, k => x.f0 == k || has r k
/-- Who has an object. -/
def owner : List S38 → Int → Int
  | [], _ => -1
  | x :: r, o => if x.f0 = o then x.f1 else owner r o
def Ris (l : List S38) : Prop := l.Pairwise (fun a b => a.f0 < b.f0)
instance (l : List S38) : Decidable (Ris l) := inferInstanceAs (Decidable (l.Pairwise _))
theorem rd_nat (l : List S38) (i : Nat) (h : i < l.length) : rd_T38 l (i : Int) = l[i] := by
  simp [rd_T38, List.getD_eq_getElem?_getD, List.getElem?_eq_getElem h]
theorem Ris.rise {l : List S38} (h : Ris l) : Rise l := fun a b h0 h1 h2 => by
  obtain ⟨i, rfl⟩ : ∃ i : Nat, a = (i : Int) := ⟨a.toNat, by omega⟩
  obtain ⟨j, rfl⟩ : ∃ j : Nat, b = (j : Int) := ⟨b.toNat, by omega⟩
  rw [rd_nat l i (by omega), rd_nat l j (by omega)]
  exact List.pairwise_iff_getElem.1 h i j (by omega) (by omega) (by omega)
theorem place_le : ∀ l k, place l k ≤ l.length
  | [], _ => Nat.le_refl _
  | x :: r, k => by
    unfold place
    split
    · have := place_le r k; simp; omega
    · simp
theorem place_lt : ∀ (l : List S38) (k : Int) (j : Nat) (h : j < l.length), j < place l k → l[j].f0 < k
  | x :: r, k, j, h, hj => by
    unfold place at hj
    split at hj
    · rename_i hx
      match j with
      | 0 => exact hx
      | j + 1 => exact place_lt r k j (by simpa using h) (by omega)
    · omega
theorem place_ge : ∀ (l : List S38) (k : Int) (h : place l k < l.length), k ≤ l[place l k].f0
  | x :: r, k, h => by
    by_cases hx : x.f0 < k
    · have e : place (x :: r) k = place r k + 1 := by simp [place, hx]
      have h2 : place r k < r.length := by rw [e] at h; simpa using h
      have := place_ge r k h2
      simp only [e, List.getElem_cons_succ]
      exact this
    · have e : place (x :: r) k = 0 := by simp [place, hx]
      simp only [e, List.getElem_cons_zero]
      omega
theorem place_found {l : List S38} (h : Ris l) (k : Int) : Found l k (place l k) := by
  have hl := place_le l k
  refine ⟨by omega, by omega, fun j h0 h1 => ?_, fun j h0 h1 => ?_⟩
  · obtain ⟨i, rfl⟩ : ∃ i : Nat, j = (i : Int) := ⟨j.toNat, by omega⟩
    rw [rd_nat l i (by omega)]
    exact place_lt l k i _ (by omega)
  · obtain ⟨i, rfl⟩ : ∃ i : Nat, j = (i : Int) := ⟨j.toNat, by omega⟩
    have hp : place l k < l.length := by omega
    have h2 := place_ge l k hp
    rw [rd_nat l i (by omega)]
    rcases Nat.lt_or_ge (place l k) i with hi | hi
    · have := List.pairwise_iff_getElem.1 h _ _ hp (by omega) hi
      omega
    · obtain rfl : i = place l k := by omega
      exact h2
theorem Found.unique {l : List S38} {k i j : Int} (h : Found l k i) (h' : Found l k j) : i = j := by
  rcases Int.lt_trichotomy i j with hij | hij | hij
  · have h1 := h'.below i h.lo hij
    have h2 := h.above i (Int.le_refl _) (by have := h'.hi; omega)
    omega
  · exact hij
  · have h1 := h.below j h'.lo hij
    have h2 := h'.above j (Int.le_refl _) (by have := h.hi; omega)
    omega
/-- Whether the key stands at its place. -/
def isAt (l : List S38) (k : Int) : Bool := decide (place l k < l.length ∧ (rd_T38 l (place l k)).f0 = k)
def api_Monitor_27.f (l : List S38) (k : Int) (fn : Int) : Option (Int × Bool) := if Ris l ∧ l.length ≤ 5864062014700 ∧ fn = 7777028 then some ((place l k : Int), isAt l k) else none
theorem api_Monitor_27.calls (A0 : Option Addr) (c0 : Nat) (l0 : List S38) (a1 a2 : Int) (r1 : Int) (r2 : Bool) (w : World) (hr0 : Kd.C k38 w A0 l0.length l0) (hc0 : l0.length ≤ c0) (h : api_Monitor_27.f l0 a1 a2 = some (r1, r2)) :
    Calls Try.prog 27 #[.slice A0 l0.length c0, .int .i64 a1, .func (.func 28) #[] #[]] w fun e w' => e = .returned (.tuple #[.int .i64 r1, .bool r2]) ∧ Below w.heap.size w w' := by
  unfold api_Monitor_27.f at h
  split at h
  case isFalse => simp at h
  case isTrue hc =>
  obtain ⟨h1, h2, h3⟩ := hc
  simp only [Option.some.injEq, Prod.mk.injEq] at h
  obtain ⟨rfl, rfl⟩ := h
  refine (find_any A0 c0 l0 a1 w hr0 hc0 h2 h1.rise).mono ?_
  rintro e w' ⟨i, b, rfl, hb, hf, hbl⟩
  obtain rfl := hf.unique (place_found h1 a1)
  have : b = isAt l0 a1 := by
    unfold isAt
    rw [Bool.eq_iff_iff, hb, decide_eq_true_iff]
    exact ⟨fun h => ⟨by omega, h.2⟩, fun h => ⟨by omega, h.2⟩⟩
  rw [this]
  exact ⟨rfl, hbl⟩
theorem owner_none : ∀ (l : List S38) (o : Int), (∀ j (h : j < l.length), l[j].f0 ≠ o) → owner l o = -1
  | [], _, _ => rfl
  | x :: r, o, h => by
    unfold owner
    rw [if_neg (show ¬ x.f0 = o from h 0 (by simp))]
    exact owner_none r o (fun j hj => h (j + 1) (by simpa using hj))
theorem owner_at : ∀ (l : List S38) (o : Int) (k : Nat) (hk : k < l.length), l[k].f0 = o → (∀ j (h : j < l.length), j < k → l[j].f0 ≠ o) → owner l o = l[k].f1
  | x :: r, o, 0, hk, he, h => by
    unfold owner
    rw [if_pos (by simpa using he)]
    rfl
  | x :: r, o, k + 1, hk, he, h => by
    unfold owner
    rw [if_neg (show ¬ x.f0 = o from h 0 (by simp) (by omega))]
    exact owner_at r o k (Nat.lt_of_succ_lt_succ hk) (by simpa using he) (fun j hj hjk => h (j + 1) (by simpa using hj) (by omega))
theorem Idx.owner {l : List S38} {o k : Int} (h : Idx l o k) : (k = -1 ∧ owner l o = -1) ∨ (0 ≤ k ∧ k < l.length ∧ owner l o = (rd_T38 l k).f1) := by
  rcases h.has with ⟨rfl, h9⟩ | ⟨h0, h1, h2, h3⟩
  · exact .inl ⟨rfl, owner_none l o (fun j hj => by have := h9 j (by omega) (by omega); rwa [rd_nat l j hj] at this)⟩
  · obtain ⟨i, rfl⟩ : ∃ i : Nat, k = (i : Int) := ⟨k.toNat, by omega⟩
    refine .inr ⟨h0, h1, ?_⟩
    rw [rd_nat l i (by omega)] at h2 ⊢
    exact owner_at l o i _ h2 (fun j hj hji => by have := h3 j (by omega) (by omega); rwa [rd_nat l j hj] at this)
def lock_Owner.f (l : List S38) (o : Int) : Option Int := if l.length ≤ 5864062014700 then some (owner l o) else none
set_option maxHeartbeats 8000000 in
theorem lock_Owner.calls (A0 : Option Addr) (c0 : Nat) (l0 : List S38) (a1 : Int) (r : Int) (w : World) (hr0 : Kd.C k38 w A0 l0.length l0) (hc0 : l0.length ≤ c0) (h : lock_Owner.f l0 a1 = some r) :
    Calls Try.prog 19 #[.slice A0 l0.length c0, .int .i64 a1] w fun e w' => e = .returned (.int .i64 r) ∧ Below w.heap.size w w' := by
  unfold lock_Owner.f at h
  split at h
  case isFalse => simp at h
  case isTrue hc =>
  simp only [Option.some.injEq] at h
  subst h
  have HR := Aside0.mk hr0
  have HB := Aside0.mk (below_alloc (Below.refl w.heap.size w) (.cells #[.int .i64 a1] 3))
  have HS := Lib.hid (index_any A0 c0 l0 a1 w.heap.size (w.alloc (.cells #[.int .i64 a1] 3)) (Kd.C_below hr0 HB.out) hc0 (blk_new _ _) (by omega))
  have hmf : ∀ (fn : Fn) (first cap : Array Value) (w : World), (Instr.makeFunc fn first cap).run Try.prog w = .ok (.func fn first cap) w := fun _ _ _ _ => rfl
  clear hr0 hc0 hc
  obtain ⟨q, hq⟩ : ∃ q, owner l0 a1 = q := ⟨_, rfl⟩
  have HQ := Aside0.mk hq
  rw [hq]
  clear hq
  go_enter Try.func19, Try.ntmps19
  go_wp2_with fail
  refine HS.out.mono ?_
  rintro e w1 ⟨k, rfl, hk, hbl⟩
  have HBL := Aside0.mk (below_then HB.out HB.out.size hbl)
  clear hbl
  rcases hk.owner with ⟨rfl, ho⟩ | ⟨h0, h1, ho⟩
  · obtain rfl : q = -1 := HQ.out.symm.trans ho
    clear ho hk HQ
    go_wp2
    go_ret
    exact ⟨rfl, HBL.out⟩
  · have d1 : decide (k < 0) = false := decide_eq_false (by omega)
    obtain rfl : q = (rd_T38 l0 k).f1 := HQ.out.symm.trans ho
    obtain ⟨ad, e5, hx0, hx1, hx2⟩ := at_T38 (Kd.C_below HR.out HBL.out) k h0 h1
    cases e5
    clear ho hk HQ
    go_wp2
    go_ret
    exact ⟨rfl, HBL.out⟩
end Go.Proofs.Ytbhdodkkebgjcaa.A.P
