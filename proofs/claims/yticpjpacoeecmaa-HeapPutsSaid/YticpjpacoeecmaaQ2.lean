/- heap, plain: get, word, set, free and put, of the program and of the document: the same. -/
import Derived.Test.YticpjpacoeecmaaQ1
import Derived.Test.YticpjpacoeecmaaAx6
import Derived.Test.YticpjpacoeecmaaAx10
import Derived.Test.YticpjpacoeecmaaH3
namespace Go.Proofs.Yticpjpacoeecmaa.Q
open Go.RowKit Go.Proofs.YticpjpacoeecmaaW.PrintWords Go.Proofs.Yticpjpacoeecmaa.A.P
set_option linter.unusedVariables false
set_option linter.unusedSimpArgs false
/-- A number of 64 bits. -/
def I64 (n : Int) : Prop := -9223372036854775808 ≤ n ∧ n ≤ 9223372036854775807
theorem chk_cases (l : List S40) : chk l = 0 ∧ bad l = false ∨ chk l = 150 ∧ bad l = true := by
  unfold chk
  cases h : bad l <;> simp
theorem chk_zero {l : List S40} (h : chk l = 0) : l.length ≤ 4096 ∧ wsum l ≤ 65536 ∧ (0 < l.length → isFree (rd_T40 l ((l.length : Int) - 1)) = false) ∧ l.any isOdd = false := by
  have hb : bad l = false := by
    rcases chk_cases l with h2 | h2
    · exact h2.2
    · omega
  unfold bad at hb
  simp only [Bool.or_eq_false_iff, decide_eq_false_iff_not, Bool.and_eq_false_iff] at hb
  refine ⟨by omega, by omega, fun h0 => ?_, hb.2⟩
  rcases hb.1.2 with h | h
  · exact absurd h0 h
  · exact h
theorem chk_of {l : List S40} (h1 : l.length ≤ 4096) (h2 : wsum l ≤ 65536) (h3 : 0 < l.length → isFree (rd_T40 l ((l.length : Int) - 1)) = false) (h4 : l.any isOdd = false) : chk l = 0 := by
  unfold chk
  have : bad l = false := by
    unfold bad
    rw [decide_eq_false (by omega), decide_eq_false (by omega), h4]
    by_cases h0 : 0 < l.length
    · rw [h3 h0]; simp
    · rw [decide_eq_false h0]; simp
  rw [this]; rfl
/-- Is there an object of a number? -/
def there (l : List S40) (n : Int) : Bool := decide (chk l = 0) && decide (1 ≤ n ∧ n ≤ l.length) && !isFree (rd_T40 l (n - 1))
theorem there_iff (l : List S40) (n : Int) : there l n = true ↔ chk l = 0 ∧ (1 ≤ n ∧ n ≤ l.length) ∧ isFree (rd_T40 l (n - 1)) = false := by
  simp [there, and_assoc]
theorem there_f {l : List S40} (hg : Good l) {n : Int} (hn : I64 n) : heap_there.f l n = some (there l n) := by
  have hlen := hg.len
  unfold heap_there.f there
  rw [check_f hg]
  simp only [Option.bind_some]
  by_cases h0 : chk l = 0
  · rw [if_pos h0, decide_eq_true h0]
    by_cases h1 : 1 ≤ n ∧ n ≤ l.length
    · have e : wrap64 (n - 1) = n - 1 := wr (by omega) (by omega)
      rw [decide_eq_true h1, e]
      unfold api_Object_44.f
      rw [if_pos (by omega), decide_eq_true (by omega)]
      simp only [Option.bind_some, if_true]
      rw [if_pos (by omega), if_pos (by omega)]
      rfl
    · rw [decide_eq_false h1]
      have : api_Object_44.f l (wrap64 (n - 1)) = some false := by
        unfold api_Object_44.f
        by_cases h2 : wrap64 (n - 1) ≥ 0
        · rw [if_pos h2, decide_eq_false]
          intro h3
          apply h1
          unfold wrap64 at h2 h3
          unfold I64 at hn
          omega
        · rw [if_neg h2]
      rw [this]
      simp
  · rw [if_neg h0, decide_eq_false h0]
    simp
/-- What is got: the object, and how it went. -/
def getS (l : List S40) (n : Int) : ByteArray × List S24 × Int := if there l n = true then ((rd_T40 l (n - 1)).f0, (rd_T40 l (n - 1)).f1, 0) else (⟨#[]⟩, [], 150)
theorem rd_mem {l : List S40} {n : Int} (h0 : 1 ≤ n) (h1 : n ≤ l.length) : rd_T40 l (n - 1) ∈ l := by
  obtain ⟨i, rfl⟩ : ∃ i : Nat, n = i + 1 := ⟨(n - 1).toNat, by omega⟩
  have hi : i < l.length := by omega
  rw [show ((i : Int) + 1 - 1) = i by omega, rdi l i hi]
  exact List.getElem_mem _
theorem there_words {l : List S40} {n : Int} (h : there l n = true) : (rd_T40 l (n - 1)).f1.length ≤ 65536 := by
  obtain ⟨h0, h1, _⟩ := (there_iff l n).1 h
  have := wsum_mem (rd_mem h1.1 h1.2)
  have := (chk_zero h0).2.1
  omega
theorem get_f {l : List S40} (hg : Good l) {n : Int} (hn : I64 n) : heap_Get.f l n = some (getS l n) := by
  have hlen := hg.len
  unfold heap_Get.f getS
  rw [there_f hg hn]
  simp only [Option.bind_some]
  by_cases h : there l n = true
  · obtain ⟨h0, h1, _⟩ := (there_iff l n).1 h
    have hw := there_words h
    rw [if_pos h, if_pos h, wr (by omega) (by omega), if_pos (by omega), if_pos (by omega)]
    unfold heap_own.f api_Value_43.f
    rw [if_pos (by omega)]
    rfl
  · rw [if_neg h, if_neg h]
theorem cut_one {l : List S40} {n : Int} (h0 : 1 ≤ n) (h1 : n ≤ l.length) : (l.take n.toNat).drop (n - 1).toNat = [rd_T40 l (n - 1)] := by
  obtain ⟨i, rfl⟩ : ∃ i : Nat, n = i + 1 := ⟨(n - 1).toNat, by omega⟩
  have hi : i < l.length := by omega
  rw [show ((i : Int) + 1 - 1) = i by omega, show ((i : Int) + 1).toNat = i + 1 by omega, rdi l i hi, Int.toNat_natCast, List.take_succ_eq_append_getElem hi, List.drop_left' (by rw [List.length_take]; omega)]
theorem good_one {l : List S40} (hg : Good l) {x : S40} (h : x ∈ l) : Good [x] := ⟨by simp, fun y hy => by rw [List.mem_singleton.1 hy]; exact hg.each _ h⟩
theorem rget_f {l : List S40} (hg : Good l) {n : Int} (hn : I64 n) {k : Nat} (hk : l.length + 1 < k) : larchref15_Get.f k l n = some (getS l n) := by
  have hlen := hg.len
  unfold larchref15_Get.f getS
  rw [rcheck_f hg hk]
  simp only [Option.bind_some]
  by_cases h0 : chk l = 0
  · rw [if_pos h0]
    by_cases h1 : n < 1
    · rw [if_pos h1, if_neg (by rw [there_iff]; omega)]
    · rw [if_neg h1]
      by_cases h2 : n > l.length
      · rw [if_pos h2, if_neg (by rw [there_iff]; omega)]
      · rw [if_neg h2, wr (by omega) (by omega), if_pos (by omega), if_pos (by omega)]
        by_cases h3 : (rd_T40 l (n - 1)).f0.toList = ([] : List UInt8)
        · rw [if_pos h3, if_neg (by rw [there_iff]; rw [← isFree_iff] at h3; simp [h3])]
        · rw [if_neg h3, if_pos (by omega), if_pos (by omega), cut_one (by omega) (by omega), copy_f (good_one hg (rd_mem (by omega) (by omega))) (by simp; omega)]
          simp only [Option.bind_some]
          rw [if_pos (by simp), if_pos (by rw [there_iff]; rw [← isFree_iff] at h3; exact ⟨h0, ⟨by omega, by omega⟩, by simpa using h3⟩)]
          rfl
  · rw [if_neg h0, if_neg (by rw [there_iff]; exact fun h => h0 h.1)]
def wordS (l : List S40) (n j : Int) : Int × Int × Int := if there l n = true ∧ 0 ≤ j ∧ j < (rd_T40 l (n - 1)).f1.length then ((rd_T24 (rd_T40 l (n - 1)).f1 j).f0, (rd_T24 (rd_T40 l (n - 1)).f1 j).f1, 0) else (0, 0, 150)
theorem word_f {l : List S40} (hg : Good l) {n j : Int} (hn : I64 n) : heap_Word.f l n j = some (wordS l n j) := by
  have hlen := hg.len
  unfold heap_Word.f wordS
  rw [there_f hg hn]
  simp only [Option.bind_some]
  by_cases h : there l n = true
  · obtain ⟨h0, h1, _⟩ := (there_iff l n).1 h
    rw [if_pos h, wr (by omega) (by omega), if_pos (by omega), if_pos (by omega)]
    unfold api_Value_38.f
    by_cases h2 : j ≥ 0
    · rw [if_pos h2]
      simp only [Option.bind_some]
      by_cases h3 : j < (rd_T40 l (n - 1)).f1.length
      · rw [if_pos (decide_eq_true h3), if_pos h2, if_pos h3, if_pos ⟨h, h2, h3⟩]
      · rw [if_neg (by simpa using h3), if_neg (fun h => h3 h.2.2)]
    · rw [if_neg h2]
      simp only [Option.bind_some]
      rw [if_neg (by simp), if_neg (fun h => h2 h.2.1)]
  · rw [if_neg h, if_neg (fun h' => h h'.1)]
theorem rword_f {l : List S40} (hg : Good l) {n j : Int} (hn : I64 n) {k : Nat} (hk : l.length + 1 < k) : larchref15_Word.f k l n j = some (wordS l n j) := by
  unfold larchref15_Word.f wordS
  rw [rget_f hg hn hk]
  simp only [Option.bind_some]
  unfold getS
  by_cases h : there l n = true
  · rw [if_pos h, if_pos rfl]
    simp only
    by_cases h2 : j < 0
    · rw [if_pos h2, if_neg (by omega)]
    · rw [if_neg h2]
      by_cases h3 : j ≥ (rd_T40 l (n - 1)).f1.length
      · rw [if_pos h3, if_neg (by omega)]
      · rw [if_neg h3, if_pos (by omega), if_pos (by omega), if_pos ⟨h, by omega, by omega⟩]
  · rw [if_neg h, if_neg (by decide), if_neg (fun h' => h h'.1)]
def setS (l : List S40) (n j v0 v1 : Int) : List S40 × Int := if (wordS l n j).2.2 = 0 ∧ (wordS l n j).1 = v0 then (l.set (n - 1).toNat ⟨(rd_T40 l (n - 1)).f0, (rd_T40 l (n - 1)).f1.set j.toNat ⟨v0, v1⟩⟩, 0) else ([], 150)
theorem word_ok {l : List S40} {n j : Int} (h : (wordS l n j).2.2 = 0) : there l n = true ∧ 0 ≤ j ∧ j < (rd_T40 l (n - 1)).f1.length := by
  unfold wordS at h
  split at h
  · assumption
  · simp at h
theorem set_f {l : List S40} (hg : Good l) {n j v0 v1 : Int} (hn : I64 n) : heap_Set.f l n j v0 v1 = some (setS l n j v0 v1) := by
  unfold heap_Set.f setS
  rw [word_f hg hn]
  simp only [Option.bind_some]
  by_cases h0 : (wordS l n j).2.2 = 0
  · rw [if_pos h0]
    by_cases h1 : (wordS l n j).1 = v0
    · obtain ⟨ht, hj0, hj1⟩ := word_ok h0
      obtain ⟨hc, hn1, _⟩ := (there_iff l n).1 ht
      have := (chk_zero hc).1
      have := there_words ht
      rw [if_pos h1, if_pos ⟨by omega, by omega, hn1.1, hn1.2, hj0, hj1⟩, if_pos ⟨h0, h1⟩]
    · rw [if_neg h1, if_neg (fun h => h1 h.2)]
  · rw [if_neg h0, if_neg (fun h => h0 h.1)]
theorem rset_f {l : List S40} (hg : Good l) {n j v0 v1 : Int} (hn : I64 n) {k : Nat} (hk : l.length + 1 < k) : larchref15_Set.f k l n j v0 v1 = some (setS l n j v0 v1) := by
  unfold larchref15_Set.f setS
  rw [rword_f hg hn hk]
  simp only [Option.bind_some]
  by_cases h0 : (wordS l n j).2.2 = 0
  · rw [if_pos h0]
    by_cases h1 : (wordS l n j).1 = v0
    · obtain ⟨ht, hj0, hj1⟩ := word_ok h0
      obtain ⟨hc, hn1, _⟩ := (there_iff l n).1 ht
      have := (chk_zero hc).1
      rw [if_pos h1, if_pos ⟨h0, h1⟩, copy_f hg (by omega)]
      simp only [Option.bind_some]
      rw [wr (by omega) (by omega), if_pos (by omega), if_pos (by omega), if_pos hj0, if_pos hj1]
    · rw [if_neg h1, if_neg (fun h => h1 h.2)]
  · rw [if_neg h0, if_neg (fun h => h0 h.1)]
/-- Free places at the end fall away. -/
def trim (l : List S40) : List S40 := (l.reverse.dropWhile isFree).reverse
theorem trim_nil : trim [] = [] := rfl
theorem trim_snoc (l : List S40) (x : S40) : trim (l ++ [x]) = if isFree x = true then trim l else l ++ [x] := by
  unfold trim
  rw [List.reverse_append, List.reverse_singleton, List.singleton_append, List.dropWhile_cons]
  split
  · rfl
  · simp
theorem rd_last (l : List S40) (x : S40) : rd_T40 (l ++ [x]) (((l ++ [x]).length : Int) - 1) = x := by
  rw [show (((l ++ [x]).length : Int) - 1) = (l.length : Nat) by simp, rdi _ _ (by simp)]
  simp
theorem free_l0 : ∀ (m k : Nat) (l : List S40), l.length = m → m ≤ 5001 → m < k → heap_Free.l0 k l = some (trim l, 0) := by
  intro m
  induction m with
  | zero =>
    intro k l hl hm hk
    obtain ⟨k, rfl⟩ : ∃ m, k = m + 1 := ⟨k - 1, by omega⟩
    obtain rfl := List.eq_nil_of_length_eq_zero hl
    simp only [heap_Free.l0]
    rw [if_neg (by simp), trim_nil]
  | succ m ih =>
    intro k l hl hm hk
    obtain ⟨k, rfl⟩ : ∃ m, k = m + 1 := ⟨k - 1, by omega⟩
    have hne : l ≠ [] := fun h => by subst h; simp at hl
    obtain ⟨l', x, rfl⟩ : ∃ l' x, l = l' ++ [x] := ⟨_, _, (List.dropLast_concat_getLast hne).symm⟩
    have hl' : l'.length = m := by simpa using hl
    simp only [heap_Free.l0]
    have e : wrap64 (((l' ++ [x]).length : Int) - 1) = ((l' ++ [x]).length : Int) - 1 := wr (by omega) (by omega)
    rw [e, if_pos (by omega), if_pos (by omega), if_pos (by omega), rd_last, trim_snoc]
    unfold heap_free.f
    simp only [Option.bind_some]
    by_cases h : isFree x = true
    · rw [if_pos (show (x.f0.toList == ([] : List UInt8)) = true from h), if_pos h, if_pos (by omega)]
      have : List.take (((l' ++ [x]).length : Int) - 1).toNat (l' ++ [x]) = l' := by
        rw [show (((l' ++ [x]).length : Int) - 1).toNat = l'.length by simp, List.take_left' rfl]
      rw [this]
      exact ih k l' hl' (by omega) (by omega)
    · rw [if_neg (show ¬ (x.f0.toList == ([] : List UInt8)) = true from h), if_neg h]
theorem rfree_l0 : ∀ (m k : Nat) (l : List S40), l.length = m → m ≤ 5001 → m < k → larchref15_Free.l0 k l = some (trim l, 0) := by
  intro m
  induction m with
  | zero =>
    intro k l hl hm hk
    obtain ⟨k, rfl⟩ : ∃ m, k = m + 1 := ⟨k - 1, by omega⟩
    obtain rfl := List.eq_nil_of_length_eq_zero hl
    simp only [larchref15_Free.l0]
    rw [if_neg (by simp), trim_nil]
  | succ m ih =>
    intro k l hl hm hk
    obtain ⟨k, rfl⟩ : ∃ m, k = m + 1 := ⟨k - 1, by omega⟩
    have hne : l ≠ [] := fun h => by subst h; simp at hl
    obtain ⟨l', x, rfl⟩ : ∃ l' x, l = l' ++ [x] := ⟨_, _, (List.dropLast_concat_getLast hne).symm⟩
    have hl' : l'.length = m := by simpa using hl
    simp only [larchref15_Free.l0]
    have e : wrap64 (((l' ++ [x]).length : Int) - 1) = ((l' ++ [x]).length : Int) - 1 := wr (by omega) (by omega)
    rw [e, if_pos (by omega), if_pos (by omega), if_pos (by omega), rd_last, trim_snoc]
    by_cases h : isFree x = true
    · rw [if_pos ((isFree_iff x).1 h), if_pos h, if_pos (by omega)]
      have : List.take (((l' ++ [x]).length : Int) - 1).toNat (l' ++ [x]) = l' := by
        rw [show (((l' ++ [x]).length : Int) - 1).toNat = l'.length by simp, List.take_left' rfl]
      rw [this]
      exact ih k l' hl' (by omega) (by omega)
    · rw [if_neg (fun h' => h ((isFree_iff x).2 h')), if_neg h]
def freeS (l : List S40) (n : Int) : List S40 × Int := if there l n = true then (trim (l.set (n - 1).toNat z40), 0) else ([], 150)
theorem free_f {l : List S40} (hg : Good l) {n : Int} (hn : I64 n) {k : Nat} (hk : l.length < k) : heap_Free.f k l n = some (freeS l n) := by
  unfold heap_Free.f freeS
  rw [there_f hg hn]
  simp only [Option.bind_some]
  by_cases h : there l n = true
  · obtain ⟨h0, h1, _⟩ := (there_iff l n).1 h
    have hl := (chk_zero h0).1
    rw [if_pos h, if_pos h]
    unfold api_Object_33.f
    rw [if_pos (by omega)]
    simp only [Option.bind_some]
    rw [wr (by omega) (by omega), if_pos (by omega), if_pos (by omega)]
    exact free_l0 l.length k _ (by simp) (by omega) hk
  · rw [if_neg h, if_neg h]
theorem rfree_f {l : List S40} (hg : Good l) {n : Int} (hn : I64 n) {k : Nat} (hk : l.length + 1 < k) : larchref15_Free.f k l n = some (freeS l n) := by
  unfold larchref15_Free.f freeS
  rw [rget_f hg hn hk]
  simp only [Option.bind_some]
  unfold getS
  by_cases h : there l n = true
  · obtain ⟨h0, h1, _⟩ := (there_iff l n).1 h
    have hl := (chk_zero h0).1
    rw [if_pos h, if_pos rfl, if_pos h, copy_f hg (by omega)]
    simp only [Option.bind_some]
    rw [wr (by omega) (by omega), if_pos (by omega), if_pos (by omega)]
    exact rfree_l0 l.length k _ (by simp) (by omega) (by omega)
  · rw [if_neg h, if_neg (by decide), if_neg h]
/-- Where a thing is put: the least place that is free, or behind all. -/
def putS (l : List S40) (a : ByteArray) (ws : List S24) : List S40 × Int × Int :=
  if chk l = 0 then (if isFree ⟨a, ws⟩ = true then ([], 0, 2) else if 65536 < wsum l + ws.length then ([], 0, 4) else
    match l.findIdx? isFree with
    | some i => (l.set i ⟨a, ws⟩, i + 1, 0)
    | none => if l.length = 4096 then ([], 0, 4) else (l ++ [⟨a, ws⟩], l.length + 1, 0)) else ([], 0, 150)
theorem put_f {l : List S40} (hg : Good l) {a : ByteArray} {ws : List S24} (hw : ws.length ≤ 8796093021952) {k : Nat} (hk : l.length + 1 < k) : heap_Put.f k l a ws = some (putS l a ws) := by
  obtain ⟨k, rfl⟩ : ∃ m, k = m + 1 := ⟨k - 1, by omega⟩
  unfold heap_Put.f putS
  rw [check_f hg]
  unfold api_Object_41.f
  simp only [Option.bind_some, if_true]
  by_cases h0 : chk l = 0
  · obtain ⟨hl, hws, _⟩ := chk_zero h0
    rw [if_pos h0, if_pos h0]
    unfold heap_free.f
    simp only [Option.bind_some]
    by_cases h1 : isFree ⟨a, ws⟩ = true
    · rw [if_pos (show (a.toList == ([] : List UInt8)) = true from h1), if_pos h1]
    · rw [if_neg (show ¬ (a.toList == ([] : List UInt8)) = true from h1), if_neg h1, words_f hg (by omega) (by omega)]
      simp only [Option.bind_some]
      rw [wr (by omega) (by omega)]
      by_cases h2 : 65536 < wsum l + ws.length
      · rw [if_pos (by omega), if_pos h2]
      · rw [if_neg (by omega), if_neg h2]
        have hown : heap_own.f a ws = some (a, ws) := by
          unfold heap_own.f api_Value_43.f
          rw [if_pos (by omega)]; rfl
        have hcop : api_Object_33.f l = some l := by unfold api_Object_33.f; rw [if_pos (by omega)]
        unfold idxI
        cases hi : l.findIdx? isFree with
        | none =>
          simp only
          rw [if_pos (by decide)]
          by_cases h3 : l.length = 4096
          · rw [if_pos (by omega), if_pos h3]
          · rw [if_neg (by omega), if_neg h3]
            simp only [heap_Put.j0]
            rw [hcop]
            simp only [Option.bind_some]
            rw [if_pos (by decide), if_pos (by omega), hown]
            simp only [Option.bind_some]
            rw [if_pos (by omega), if_pos (by simp; omega), wr (by omega) (by omega), h0]
            simp
        | some i =>
          have hil : i < l.length := by
            have := List.findIdx?_eq_some_iff_getElem.1 hi
            exact this.1
          simp only
          rw [if_neg (by omega)]
          simp only [heap_Put.j0]
          rw [hcop]
          simp only [Option.bind_some]
          rw [if_neg (by omega), hown]
          simp only [Option.bind_some]
          rw [if_pos (by omega), if_pos (by omega), wr (by omega) (by omega), h0]
          simp
  · rw [if_neg h0, if_neg h0]
    have : chk l = 150 := by
      rcases chk_cases l with h | h
      · exact absurd h.1 h0
      · exact h.1
    rw [this]
end Go.Proofs.Yticpjpacoeecmaa.Q
