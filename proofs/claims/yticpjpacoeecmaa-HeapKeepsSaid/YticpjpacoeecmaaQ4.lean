/- heap, plain: the law HeapFrees, as a function. -/
import Derived.Test.YticpjpacoeecmaaQ7
import Derived.Test.YticpjpacoeecmaaAx11
namespace Go.Proofs.Yticpjpacoeecmaa.Q
open Go.RowKit Go.Proofs.YticpjpacoeecmaaW.PrintWords Go.Proofs.Yticpjpacoeecmaa.A.P
set_option linter.unusedVariables false
set_option linter.unusedSimpArgs false
/-- The numbers of the objects that are not free, from place i on. -/
def liveFrom : Nat → List S40 → List Int
  | _, [] => []
  | i, x :: l => if isFree x = true then liveFrom (i + 1) l else ((i : Int) + 1) :: liveFrom (i + 1) l
def live (l : List S40) : List Int := liveFrom 0 l
theorem liveFrom_len (l : List S40) : ∀ i, (liveFrom i l).length ≤ l.length := by
  induction l with
  | nil => intro i; simp [liveFrom]
  | cons x l ih =>
    intro i
    have := ih (i + 1)
    unfold liveFrom
    split <;> simp <;> omega
theorem live_l0 (l : List S40) (hl : l.length ≤ 3518437208830) : ∀ (d k i : Nat) (acc : List Int), l.length - i = d → i ≤ l.length → d < k → acc.length ≤ i → heap_Live.l0 k acc l l.length i = some (acc ++ liveFrom i (l.drop i)) := by
  intro d
  induction d with
  | zero =>
    intro k i acc hd hi hk ha
    obtain ⟨k, rfl⟩ : ∃ m, k = m + 1 := ⟨k - 1, by omega⟩
    simp only [heap_Live.l0]
    rw [if_neg (by omega), List.drop_of_length_le (by omega)]
    simp [liveFrom]
  | succ d ih =>
    intro k i acc hd hi hk ha
    obtain ⟨k, rfl⟩ : ∃ m, k = m + 1 := ⟨k - 1, by omega⟩
    have hlt : i < l.length := by omega
    have hdr : l.drop i = l[i] :: l.drop (i + 1) := List.drop_eq_getElem_cons hlt
    simp only [heap_Live.l0]
    rw [if_pos (by omega), if_pos (by omega), if_pos (by omega), rdi l i hlt, hdr]
    unfold heap_free.f
    simp only [Option.bind_some]
    rw [wr (by omega) (by omega)]
    unfold liveFrom
    by_cases h : isFree l[i] = true
    · rw [if_pos (show (l[i].f0.toList == ([] : List UInt8)) = true from h), if_pos h]
      exact ih k (i + 1) acc (by omega) (by omega) (by omega) (by omega)
    · rw [if_neg (show ¬ (l[i].f0.toList == ([] : List UInt8)) = true from h), if_neg h, if_pos (by omega)]
      have := ih k (i + 1) (acc ++ [(i : Int) + 1]) (by omega) (by omega) (by omega) (by simp; omega)
      rw [show ((i : Int) + 1) = ((i + 1 : Nat) : Int) by omega]
      rw [show (((i + 1 : Nat) : Int)) = (i : Int) + 1 by omega] at this ⊢
      rw [this]
      simp
theorem live_f {l : List S40} (hg : Good l) {k : Nat} (hk : l.length < k) : heap_Live.f k l = some (live l) := by
  have := live_l0 l hg.len l.length k 0 [] (by omega) (by omega) hk (by simp)
  simpa [heap_Live.f, live] using this
theorem rlive_l0 (l : List S40) (hl : l.length ≤ 3518437208830) : ∀ (d k i : Nat) (acc : List Int), l.length - i = d → i ≤ l.length → d < k → acc.length ≤ i → larchref15_Live.l0 k l acc i = some (acc ++ liveFrom i (l.drop i)) := by
  intro d
  induction d with
  | zero =>
    intro k i acc hd hi hk ha
    obtain ⟨k, rfl⟩ : ∃ m, k = m + 1 := ⟨k - 1, by omega⟩
    simp only [larchref15_Live.l0]
    rw [if_neg (by omega), List.drop_of_length_le (by omega)]
    simp [liveFrom]
  | succ d ih =>
    intro k i acc hd hi hk ha
    obtain ⟨k, rfl⟩ : ∃ m, k = m + 1 := ⟨k - 1, by omega⟩
    have hlt : i < l.length := by omega
    have hdr : l.drop i = l[i] :: l.drop (i + 1) := List.drop_eq_getElem_cons hlt
    simp only [larchref15_Live.l0]
    rw [if_pos (by omega), if_pos (by omega), rdi l i hlt, hdr, wr (by omega) (by omega)]
    unfold liveFrom
    by_cases h : isFree l[i] = true
    · rw [if_pos ((isFree_iff _).1 h), if_pos h]
      exact ih k (i + 1) acc (by omega) (by omega) (by omega) (by omega)
    · rw [if_neg (fun h' => h ((isFree_iff _).2 h')), if_neg h, if_pos (by omega)]
      have := ih k (i + 1) (acc ++ [(i : Int) + 1]) (by omega) (by omega) (by omega) (by simp; omega)
      rw [show (((i + 1 : Nat) : Int)) = (i : Int) + 1 by omega] at this
      rw [this]
      simp
theorem rlive_f {l : List S40} (hg : Good l) {k : Nat} (hk : l.length < k) : larchref15_Live.f k l = some (live l) := by
  have := rlive_l0 l hg.len l.length k 0 [] (by omega) (by omega) hk (by simp)
  simpa [larchref15_Live.f, live] using this
/-- The least place that is free (or the length). -/
def least (l : List S40) : Nat := (l.findIdx? isFree).getD l.length
/-- How the search for the least number goes over what lives. -/
theorem scan_l0 (x1 : Int) (x7 : List S40) (x10 : Int) (a : ByteArray) (ws : List S24) (l : List S40) (hl : l.length ≤ 5000) : ∀ (n k i q : Nat) (pre : List Int), l.length - i = n → i ≤ l.length → n + 1 < k → pre.length = q → q = i →
    ∃ k', k - (n + 1) ≤ k' ∧ k' ≤ k ∧ larchlaw15_HeapFrees.l0 k x1 x7 x10 (pre ++ liveFrom i (l.drop i)) ((i : Int) + 1) q a ws = larchlaw15_HeapFrees.j3 k' x1 x7 x10 (((i + ((l.drop i).findIdx? isFree).getD (l.drop i).length : Nat) : Int) + 1) a ws := by
  intro n
  induction n with
  | zero =>
    intro k i q pre hd hi hk hq hqi
    obtain ⟨k, rfl⟩ : ∃ m, k = m + 1 := ⟨k - 1, by omega⟩
    have hdr : l.drop i = [] := List.drop_of_length_le (by omega)
    refine ⟨k, by omega, by omega, ?_⟩
    simp only [larchlaw15_HeapFrees.l0]
    rw [hdr]
    simp only [liveFrom, List.append_nil, List.findIdx?_nil, List.length_nil, Nat.add_zero, Option.getD_none]
    rw [if_neg (by omega)]
  | succ n ih =>
    intro k i q pre hd hi hk hq hqi
    obtain ⟨k, rfl⟩ : ∃ m, k = m + 1 := ⟨k - 1, by omega⟩
    have hlt : i < l.length := by omega
    have hdr : l.drop i = l[i] :: l.drop (i + 1) := List.drop_eq_getElem_cons hlt
    by_cases h : isFree l[i] = true
    · -- the place is free: what stands at q is another number, or nothing
      have hf : (l.drop i).findIdx? isFree = some 0 := by rw [hdr, List.findIdx?_cons]; simp [h]
      refine ⟨k, by omega, by omega, ?_⟩
      rw [hf]
      simp only [larchlaw15_HeapFrees.l0, Nat.add_zero, Option.getD_some]
      have hlv : liveFrom i (l.drop i) = liveFrom (i + 1) (l.drop (i + 1)) := by rw [hdr]; simp [liveFrom, h]
      rw [hlv]
      by_cases hq2 : (q : Int) < ((pre ++ liveFrom (i + 1) (l.drop (i + 1))).length : Int)
      · rw [if_pos hq2, if_pos (by omega), if_neg]
        have hgt : ∀ (m : List S40) (i : Nat) (y : Int), y ∈ liveFrom i m → (i : Int) + 1 ≤ y := by
          intro m
          induction m with
          | nil => intro i y hy; simp [liveFrom] at hy
          | cons z m ihm =>
            intro i y hy
            unfold liveFrom at hy
            split at hy
            · have := ihm (i + 1) y hy; omega
            · rcases List.mem_cons.1 hy with rfl | hy
              · omega
              · have := ihm (i + 1) y hy; omega
        have hrd : rd (pre ++ liveFrom (i + 1) (l.drop (i + 1))) q ∈ liveFrom (i + 1) (l.drop (i + 1)) := by
          unfold rd
          have hq3 : q < (pre ++ liveFrom (i + 1) (l.drop (i + 1))).length := by omega
          rw [Int.toNat_natCast, List.getD_eq_getElem?_getD, List.getElem?_append_right (by omega), List.getElem?_eq_getElem (by rw [List.length_append] at hq3; omega)]
          exact List.getElem_mem _
        have := hgt _ _ _ hrd
        omega
      · rw [if_neg hq2]
    · have hf : (l.drop i).findIdx? isFree = ((l.drop (i + 1)).findIdx? isFree).map (· + 1) := by rw [hdr, List.findIdx?_cons]; simp [h]
      have hlv : liveFrom i (l.drop i) = ((i : Int) + 1) :: liveFrom (i + 1) (l.drop (i + 1)) := by rw [hdr]; simp [liveFrom, h]
      obtain ⟨k', h1, h2, h3⟩ := ih k (i + 1) (q + 1) (pre ++ [(i : Int) + 1]) (by omega) (by omega) (by omega) (by simp; omega) (by omega)
      refine ⟨k', by omega, by omega, ?_⟩
      simp only [larchlaw15_HeapFrees.l0]
      have hll : (pre ++ liveFrom i (l.drop i)).length = pre.length + 1 + (liveFrom (i + 1) (l.drop (i + 1))).length := by rw [hlv]; simp; omega
      rw [if_pos (by omega), if_pos (by omega), if_pos]
      · rw [wr (by omega) (by omega), wr (by omega) (by omega), hlv]
        rw [show (((i + 1 : Nat) : Int) + 1) = (i : Int) + 1 + 1 by omega, show ((q + 1 : Nat) : Int) = (q : Int) + 1 by omega, List.append_assoc, List.singleton_append] at h3
        rw [h3, hf]
        congr 2
        cases h9 : (l.drop (i + 1)).findIdx? isFree with
        | none => simp only [Option.map_none, Option.getD_none]; rw [hdr, List.length_cons]; omega
        | some j => simp only [Option.map_some, Option.getD_some]; push_cast; omega
      · unfold rd
        rw [hlv, Int.toNat_natCast, List.getD_eq_getElem?_getD, List.getElem?_append_right (by omega), show q - pre.length = 0 by omega]
        rfl
end Go.Proofs.Yticpjpacoeecmaa.Q
