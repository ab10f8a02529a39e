/- heap: the law HeapPuts, its walk and what it computes joined. -/
import Derived.Test.YticpjpacoeecmaaQ7
import Derived.Test.YticpjpacoeecmaaH6
namespace Go.Proofs.Yticpjpacoeecmaa.Q
open Go.RowKit Go.Proofs.YticpjpacoeecmaaW.PrintWords Go.Proofs.Yticpjpacoeecmaa.A.P
set_option linter.unusedVariables false
set_option linter.unusedSimpArgs false
theorem rput_l0 {l : List S40} {a : ByteArray} {ws : List S24} (hl : l.length ≤ 4096) : ∀ (d k i : Nat), l.length - i = d → i ≤ l.length → d < k → (∀ j (hj : j < l.length), j < i → isFree l[j] = false) →
    larchref15_Put.l0 k l l i a ws = some (match (l.drop i).findIdx? isFree with | some j => (l.set (i + j) ⟨a, ws⟩, ((i + j : Nat) : Int) + 1, 0) | none => if l.length = 4096 then ([], 0, 4) else (l ++ [⟨a, ws⟩], (l.length : Int) + 1, 0)) := by
  intro d
  induction d with
  | zero =>
    intro k i hd hi hk hf
    obtain ⟨k, rfl⟩ : ∃ m, k = m + 1 := ⟨k - 1, by omega⟩
    simp only [larchref15_Put.l0]
    rw [if_neg (by omega), List.drop_of_length_le (by omega)]
    simp only [List.findIdx?_nil]
    by_cases h : l.length = 4096
    · rw [if_pos (by omega), if_pos h]
    · rw [if_neg (by omega), if_neg h, if_pos (by omega), wr (by omega) (by omega)]
  | succ d ih =>
    intro k i hd hi hk hf
    obtain ⟨k, rfl⟩ : ∃ m, k = m + 1 := ⟨k - 1, by omega⟩
    have hlt : i < l.length := by omega
    have hdr : l.drop i = l[i] :: l.drop (i + 1) := List.drop_eq_getElem_cons hlt
    simp only [larchref15_Put.l0]
    rw [if_pos (by omega), if_pos (by omega), rdi l i hlt, wr (by omega) (by omega), hdr, List.findIdx?_cons]
    by_cases h : isFree l[i] = true
    · rw [if_pos ((isFree_iff _).1 h), h]
      simp
    · have h' : isFree l[i] = false := by simpa using h
      rw [if_neg (fun h2 => h ((isFree_iff _).2 h2)), h']
      have := ih k (i + 1) (by omega) (by omega) (by omega) (fun j hj hji => by
        rcases Nat.lt_or_ge j i with h3 | h3
        · exact hf j hj h3
        · obtain rfl : j = i := by omega
          exact h')
      rw [show ((i : Int) + 1) = ((i + 1 : Nat) : Int) by omega, this]
      cases (l.drop (i + 1)).findIdx? isFree with
      | none => simp
      | some j =>
        simp only [Bool.false_eq_true, if_false, Option.map_some]
        rw [show i + 1 + j = i + (j + 1) by omega]
theorem rput_f {l : List S40} (hg : Good l) {a : ByteArray} {ws : List S24} (hw : ws.length ≤ 8796093021952) {k : Nat} (hk : l.length + 1 < k) : larchref15_Put.f k l a ws = some (putS l a ws) := by
  unfold larchref15_Put.f putS
  rw [rcheck_f hg hk]
  rw [Option.bind_some]
  by_cases h0 : chk l = 0
  · obtain ⟨hl, hws, _⟩ := chk_zero h0
    rw [if_pos h0, if_pos h0]
    by_cases h1 : isFree ⟨a, ws⟩ = true
    · rw [if_pos ((isFree_iff _).1 h1), if_pos h1]
    · rw [if_neg (fun h => h1 ((isFree_iff _).2 h)), if_neg h1, rwords_f hg (by omega) (by omega)]
      rw [Option.bind_some]
      rw [wr (by omega) (by omega)]
      by_cases h2 : 65536 < wsum l + ws.length
      · rw [if_pos (by omega), if_pos h2]
      · rw [if_neg (by omega), if_neg h2, copy_f hg (by omega)]
        rw [Option.bind_some]
        rw [copy_f (l := [⟨a, ws⟩]) ⟨by simp, fun x hx => by rw [List.mem_singleton.1 hx]; exact hw⟩ (by simp; omega)]
        rw [Option.bind_some]
        rw [if_pos (by simp), show rd_T40 [(⟨a, ws⟩ : S40)] 0 = ⟨a, ws⟩ from rfl]
        have h9 := rput_l0 (l := l) (a := a) (ws := ws) hl l.length k 0 (by omega) (by omega) (by omega) (fun j _ h => absurd h (by omega))
        rw [List.drop_zero] at h9
        refine Eq.trans h9 ?_
        cases hfi : l.findIdx? isFree with
        | none => rfl
        | some i => simp only [Nat.zero_add]
  · rw [if_neg h0, if_neg h0]
    have : chk l = 150 := by
      rcases chk_cases l with h | h
      · exact absurd h.1 h0
      · exact h.1
    rw [this]
/-- What an array is made of: which kind its words have. -/
def kindOf (s : ByteArray) : Int := if s.toList = ([91, 73] : List UInt8) ∨ s.toList = ([91, 66] : List UInt8) then 1 else if s.toList = ([91, 74] : List UInt8) then 2 else 4
def arrS (s : ByteArray) (n : Int) : ByteArray × List S24 × Int :=
  if s.toList = ([] : List UInt8) ∨ n < 0 then (⟨#[]⟩, [], 2) else if n > 65536 then (⟨#[]⟩, [], 4) else (s, List.replicate n.toNat ⟨kindOf s, 0⟩, 0)
theorem rep_one (x : S24) {n : Int} (h0 : 0 ≤ n) (h1 : n ≤ 65536) : api_Value_42.f [x] n = some (List.replicate n.toNat x) := by
  simp only [api_Value_42.f]; rw [if_pos ⟨h0, h1⟩]
theorem arr_f (s : ByteArray) (n : Int) {k : Nat} (hk : 5 < k) : heap_Array.f k s n = some (arrS s n) := by
  obtain ⟨k, rfl⟩ : ∃ m, k = m + 2 := ⟨k - 2, by omega⟩
  have hj0 : ∀ b, heap_Array.j0 (k + 2) s n b = if b = true then some (⟨#[]⟩, [], 2) else if n > 65536 then some (⟨#[]⟩, [], 4) else if s.toList = ([91, 73] : List UInt8) then heap_Array.j1 (k + 1) s n s (s.toList == ([91, 73] : List UInt8)) 4 0 else heap_Array.j1 (k + 1) s n s (s.toList == ([91, 66] : List UInt8)) 4 0 := fun b => by simp only [heap_Array.j0]
  unfold heap_Array.f arrS
  by_cases h0 : s.toList = ([] : List UInt8)
  · rw [if_pos h0, hj0, if_pos rfl, if_pos (.inl h0)]
  · rw [if_neg h0, hj0]
    by_cases h1 : n < 0
    · rw [if_pos (decide_eq_true h1), if_pos (.inr h1)]
    · rw [if_neg (by simpa using h1), if_neg (show ¬ (s.toList = ([] : List UInt8) ∨ n < 0) from fun h => h.elim h0 h1)]
      by_cases h2 : n > 65536
      · rw [if_pos h2, if_pos h2]
      · rw [if_neg h2, if_neg h2]
        unfold kindOf
        by_cases h3 : s.toList = ([91, 73] : List UInt8)
        · rw [if_pos h3, if_pos (.inl h3)]
          simp only [heap_Array.j1]
          rw [if_pos (by rw [h3]; rfl), rep_one _ (by omega) (by omega)]
          rfl
        · rw [if_neg h3]
          by_cases h4 : s.toList = ([91, 66] : List UInt8)
          · rw [if_pos (.inr h4)]
            simp only [heap_Array.j1]
            rw [if_pos (by rw [h4]; rfl), rep_one _ (by omega) (by omega)]
            rfl
          · rw [if_neg (fun h => h.elim h3 h4)]
            simp only [heap_Array.j1]
            rw [if_neg (by simpa using h4)]
            by_cases h5 : s.toList = ([91, 74] : List UInt8)
            · rw [if_pos h5, if_pos h5, rep_one _ (by omega) (by omega)]
              rfl
            · rw [if_neg h5, if_neg h5, rep_one _ (by omega) (by omega)]
              rfl
theorem rarr_l0 (s : ByteArray) (a b : Int) (n : Nat) (hn : n ≤ 65536) : ∀ (d k i : Nat), n - i = d → i ≤ n → d < k → larchref15_Array.l0 k n i a b s (List.replicate i ⟨a, b⟩) = some (s, List.replicate n ⟨a, b⟩, 0) := by
  intro d
  induction d with
  | zero =>
    intro k i hd hi hk
    obtain ⟨k, rfl⟩ : ∃ m, k = m + 1 := ⟨k - 1, by omega⟩
    obtain rfl : i = n := by omega
    simp only [larchref15_Array.l0]
    rw [if_neg (by omega)]
  | succ d ih =>
    intro k i hd hi hk
    obtain ⟨k, rfl⟩ : ∃ m, k = m + 1 := ⟨k - 1, by omega⟩
    have := ih k (i + 1) (by omega) (by omega) (by omega)
    simp only [larchref15_Array.l0]
    rw [if_pos (by omega), if_pos (by simp; omega), wr (by omega) (by omega), ← List.replicate_succ', show ((i : Int) + 1) = ((i + 1 : Nat) : Int) by omega]
    exact this
theorem rarr_f (s : ByteArray) (n : Int) {k : Nat} (hk : 70000 < k) : larchref15_Array.f k s n = some (arrS s n) := by
  obtain ⟨k, rfl⟩ : ∃ m, k = m + 4 := ⟨k - 4, by omega⟩
  have hj3 : ∀ a b : Int, 0 ≤ n → n ≤ 65536 → larchref15_Array.j3 (k + 1) s n a b = some (s, List.replicate n.toNat ⟨a, b⟩, 0) := by
    intro a b h0 h1
    simp only [larchref15_Array.j3]
    obtain ⟨m, rfl⟩ := Int.eq_ofNat_of_zero_le h0
    exact rarr_l0 s a b m (by omega) m k 0 (by omega) (by omega) (by omega)
  have hj0 : ∀ b, larchref15_Array.j0 (k + 4) s n b = if b = true then some (⟨#[]⟩, [], 2) else if n > 65536 then some (⟨#[]⟩, [], 4) else if s.toList = ([91, 73] : List UInt8) then larchref15_Array.j1 (k + 3) s n true 4 0 else larchref15_Array.j1 (k + 3) s n (s.toList == ([91, 66] : List UInt8)) 4 0 := fun b => by simp only [larchref15_Array.j0]
  unfold larchref15_Array.f arrS
  by_cases h0 : s.toList = ([] : List UInt8)
  · rw [if_pos h0, hj0, if_pos rfl, if_pos (.inl h0)]
  · rw [if_neg h0, hj0]
    by_cases h1 : n < 0
    · rw [if_pos (decide_eq_true h1), if_pos (.inr h1)]
    · rw [if_neg (by simpa using h1), if_neg (show ¬ (s.toList = ([] : List UInt8) ∨ n < 0) from fun h => h.elim h0 h1)]
      by_cases h2 : n > 65536
      · rw [if_pos h2, if_pos h2]
      · rw [if_neg h2, if_neg h2]
        unfold kindOf
        by_cases h3 : s.toList = ([91, 73] : List UInt8)
        · have h5 : ¬ s.toList = ([91, 74] : List UInt8) := by rw [h3]; decide
          rw [if_pos h3, if_pos (.inl h3)]
          simp only [larchref15_Array.j1, larchref15_Array.j2, if_true]
          rw [if_neg h5, hj3 _ _ (by omega) (by omega)]
        · rw [if_neg h3]
          by_cases h4 : s.toList = ([91, 66] : List UInt8)
          · have h5 : ¬ s.toList = ([91, 74] : List UInt8) := by rw [h4]; decide
            rw [if_pos (.inr h4)]
            simp only [larchref15_Array.j1, larchref15_Array.j2]
            rw [if_pos (by rw [h4]; rfl), if_neg h5, hj3 _ _ (by omega) (by omega)]
          · rw [if_neg (fun h => h.elim h3 h4)]
            simp only [larchref15_Array.j1, larchref15_Array.j2]
            rw [if_neg (by simpa using h4)]
            by_cases h5 : s.toList = ([91, 74] : List UInt8)
            · rw [if_pos h5, if_pos h5, hj3 _ _ (by omega) (by omega)]
            · rw [if_neg h5, if_neg h5, hj3 _ _ (by omega) (by omega)]
/-- Beyond what there may be, no number matters. -/
theorem arr_min (s : ByteArray) (n : Int) : arrS s (if (65537 : Int) < n then 65537 else n) = arrS s n := by
  by_cases h : (65537 : Int) < n
  · rw [if_pos h]
    unfold arrS
    by_cases h0 : s.toList = ([] : List UInt8)
    · rw [if_pos (.inl h0), if_pos (.inl h0)]
    · rw [if_neg (show ¬ (s.toList = ([] : List UInt8) ∨ (65537 : Int) < 0) from fun h' => h'.elim h0 (by omega)), if_neg (show ¬ (s.toList = ([] : List UInt8) ∨ n < 0) from fun h' => h'.elim h0 (by omega)), if_pos (by omega), if_pos (by omega)]
  · rw [if_neg h]
theorem putS_small {l : List S40} (h : Small l) (h5 : l.length ≤ 5000) {a : ByteArray} {ws : List S24} (hw : ws.length ≤ 70000) : Small (putS l a ws).1 := by
  unfold putS
  split
  · split
    · exact Small.nil
    · split
      · exact Small.nil
      · cases l.findIdx? isFree with
        | some i => exact h.set _ (by simpa using hw)
        | none =>
          simp only
          split
          · exact Small.nil
          · refine ⟨by simp; omega, fun x hx => ?_⟩
            rcases List.mem_append.1 hx with h2 | h2
            · exact h.each x h2
            · rw [List.mem_singleton.1 h2]; exact hw
  · exact Small.nil
theorem arrS_small (s : ByteArray) (n : Int) : (arrS s n).2.1.length ≤ 70000 := by
  unfold arrS
  split
  · simp
  · split
    · simp
    · simp; omega
set_option maxRecDepth 100000 in
theorem HeapPuts_walk (A0 : Option Addr) (c0 : Nat) (l : List S40) (s : ByteArray) (A1 : Option Addr) (c1 : Nat) (ws : List S24) (kind : ByteArray) (size : Int) (w : World) (hr : Kd.C k40 w A0 l.length l) (hc0 : l.length ≤ c0) (hr1 : Kd.C k24 w A1 ws.length ws) (hc1 : ws.length ≤ c1) (hg : Good l) (hw : ws.length ≤ 8796093021952) :
    Calls Try.prog 8 #[.slice A0 l.length c0, .agg #[.string s, .slice A1 ws.length c1], .string kind, .int .i64 size] w fun e w' => e = .returned (.bool true) ∧ Below w.heap.size w w' := by
  obtain ⟨k, hk⟩ : ∃ k, k = 500000 + l.length := ⟨_, rfl⟩
  have hli := light_f hg (k := k) (by omega)
  by_cases hlt : l.length ≤ 5000 ∧ wsum l ≤ 70000
  · rw [decide_eq_true hlt] at hli
    by_cases h7 : (ws.length : Int) ≤ 70000
    · have hs := small_of hlt.1 hlt.2
      have hra := rarr_f kind (if (65537 : Int) < size then 65537 else size) (k := k) (by omega)
      rw [arr_min] at hra
      exact puts_yes k A0 c0 l s A1 c1 ws kind size _ (putS l s ws).1 (putS l s ws).2.1 (putS l s ws).2.2 (arrS kind size).1 (arrS kind size).2.1 (arrS kind size).2.2 w hr hc0 hr1 hc1 hli h7 (copy_f hg (by omega)) (put_f hg hw (by omega)) (rput_f hg hw (by omega)) (arr_f kind size (by omega)) rfl hra
        ((putS_small hs hlt.1 (by omega)).so (by omega)) ((Small.one (x := ⟨(arrS kind size).1, (arrS kind size).2.1⟩) (arrS_small kind size)).so (by omega)) (hs.so (by omega)) (works_f (by omega))
    · exact puts_no k A0 c0 l s A1 c1 ws kind size true w hr hc0 hli (.inr (by omega))
  · rw [decide_eq_false hlt] at hli
    exact puts_no k A0 c0 l s A1 c1 ws kind size false w hr hc0 hli (.inl rfl)
end Go.Proofs.Yticpjpacoeecmaa.Q
