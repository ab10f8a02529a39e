/- gc, plain: values and objects with their new numbers; the canon; what is alike. -/
import Derived.Test.YtonkfcfpfpaceaaR3
import Derived.Test.YtonkfcfpfpaceaaMA4
import Derived.Test.YtonkfcfpfpaceaaMA6
import Derived.Test.YtonkfcfpfpaceaaMA1
namespace Go.Proofs.Ytonkfcfpfpaceaa.Q
open Go.RowKit Go.Proofs.YtonkfcfpfpaceaaW.PrintWords Go.Proofs.YtonkfcfpfpaceaaW.PrintMore Go.Proofs.Ytonkfcfpfpaceaa.A.P
set_option linter.unusedVariables false
set_option linter.unusedSimpArgs false
/-- A value's new number. -/
def newN (H : List S37) (o : List Int) (v : S41) : Int := match ldTo H v with | some n => placeOf o n | none => 0
def anewV (H : List S37) (o : List Int) (v : S41) : S41 := if v.f0 = 4 then ⟨v.f0, newN H o v⟩ else v
theorem newN_none {H : List S37} {o : List Int} {v : S41} (h : ldTo H v = none) : newN H o v = 0 := by unfold newN; rw [h]
theorem newN_some {H : List S37} {o : List Int} {v : S41} {n : Int} (h : ldTo H v = some n) : newN H o v = placeOf o n := by unfold newN; rw [h]
theorem anewV_none {H : List S37} {o : List Int} {v : S41} (h : ldTo H v = none) : anewV H o v = z1 v := by unfold anewV z1; rw [newN_none h]
theorem anewV_some {H : List S37} {o : List Int} {v : S41} {n : Int} (h : ldTo H v = some n) : anewV H o v = ⟨4, placeOf o n⟩ := by
  unfold anewV
  rw [if_pos (ldTo_live h).2.1, newN_some h, (ldTo_live h).2.1]
theorem split_set {α : Type} {a b : List α} {x y : α} {k : Nat} (h : a.length = k) : (a ++ x :: b).set k y = a ++ y :: b := by
  rw [List.set_append_right k _ (by omega), h, Nat.sub_self, List.set_cons_zero]
theorem split_get {a b : List S41} {x : S41} {k : Nat} (h : a.length = k) : rd_T41 (a ++ x :: b) (k : Int) = x := by
  rw [rd41i (by simp; omega), List.getElem_append_right (by omega)]
  simp [h]
theorem setAll_up {H : List S37} {o : List Int} {vs : List S41} (hw : WfV vs) : ∀ k, k ≤ vs.length → setAll o (zs vs vs.length) (ldUp H vs k) = (vs.take k).map (anewV H o) ++ (vs.drop k).map z1
  | 0, _ => by simp [setAll, ldUp, zs]
  | k + 1, hk => by
    have hlt : k < vs.length := by omega
    have ih := setAll_up (H := H) (o := o) hw k (by omega)
    have hl : ((vs.take k).map (anewV H o)).length = k := by simp; omega
    rw [ldUp_succ]
    have e : setAll o (zs vs vs.length) (ldUp H vs k ++ (ldAt H vs k).toList) = setAll o (setAll o (zs vs vs.length) (ldUp H vs k)) (ldAt H vs k).toList := by simp [setAll]
    rw [e, ih, List.drop_eq_getElem_cons hlt, List.take_succ_eq_append_getElem hlt, List.map_append, List.map_cons, List.append_assoc]
    unfold ldAt
    rw [rd41i hlt]
    cases hld : ldTo H vs[k] with
    | none =>
      simp only [Option.bind_none, Option.toList_none, setAll, List.foldl_nil, List.map_cons, List.map_nil, List.singleton_append, anewV_none hld]
    | some n =>
      have hv := ldTo_live hld
      have hwn : (Lit.int .i64 n).wf = true := by rw [← hv.2.2]; exact hw _ (List.getElem_mem _)
      simp only [Option.bind_some, hwn, hlt, and_self, dite_true, Option.toList_some, setAll, List.foldl_cons, List.foldl_nil, setP]
      rw [split_get hl, split_set hl, List.map_cons, List.map_nil, List.singleton_append, anewV_some hld]
      simp only [z1, hv.2.1, if_true]
theorem anewL_eq {H : List S37} {o : List Int} {vs : List S41} (hw : WfV vs) : anewL H o vs = vs.map (anewV H o) := by
  unfold anewL
  rw [setAll_up hw _ (Nat.le_refl _)]
  simp
theorem anew_f {H : List S37} {o : List Int} {vs : List S41} (hw : WfV vs) (hl : vs.length ≤ 100000000) : gc_trace_anew.f o H vs = some (vs.map (anewV H o)) := by
  unfold gc_trace_anew.f
  rw [if_pos (by simp only [Bool.and_eq_true, decide_eq_true_eq]; exact ⟨hl, List.all_eq_true.2 fun v h => hw v h⟩), anewL_eq hw]
def objOf (H : List S37) (o : List Int) (x : Int) : S37 := ⟨(rd_T37 H (x - 1)).f0, (wordsOf H x).map (anewV H o)⟩
def canonH (H : List S37) (o : List Int) : List S37 := o.map (objOf H o)
def canonV (H : List S37) (o : List Int) (vs : List S41) : List S41 := vs.map (anewV H o)
theorem canonW_l0 {H : List S37} {o : List Int} {vs : List S41} (hl : H.length ≤ 5000) (hw : WfH H) (hb : ∀ x, x ∈ H → x.f1.length ≤ 70000) (hv : WfV vs) (hvl : vs.length ≤ 1000000) (ho : InH H o) : ∀ (d k i : Nat), o.length - i = d → i ≤ o.length → d < k →
    gc_CanonW.l0 k H vs o 0 ((o.take i).map (objOf H o)) o o.length i = some (canonH H o, canonV H o vs, 0) := by
  have hol := ho.len
  intro d
  induction d with
  | zero =>
    intro k i hd hi hk
    obtain ⟨k, rfl⟩ : ∃ m, k = m + 1 := ⟨k - 1, by omega⟩
    simp only [gc_CanonW.l0]
    rw [if_neg (by omega), List.take_of_length_le (by omega), anew_f hv (by omega)]
    rfl
  | succ d ih =>
    intro k i hd hi hk
    obtain ⟨k, rfl⟩ : ∃ m, k = m + 1 := ⟨k - 1, by omega⟩
    have hlt : i < o.length := by omega
    have h1 := ih k (i + 1) (by omega) (by omega) (by omega)
    have hlv := ho.2 _ (List.getElem_mem hlt)
    have e1 := hlv.1
    have e2 := hlv.2.1
    have hm := rd_mem e1 e2
    simp only [gc_CanonW.l0]
    rw [if_pos (by omega), if_pos (by omega), if_pos (by omega), rd_nat o i hlt, wr (x := o[i] - 1) (by omega) (by omega), if_pos (by omega), if_pos (by omega), anew_f (hw _ hm) (by have := hb _ hm; omega)]
    simp only [Option.bind_some]
    rw [List.length_map, List.length_take, if_pos (by omega), wr (by omega) (by omega), show ((i : Int) + 1) = ((i + 1 : Nat) : Int) by omega]
    rw [List.take_succ_eq_append_getElem hlt, List.map_append] at h1
    exact h1
theorem canon_f {H : List S37} (hg : Good H) (hw : WfH H) {vs : List S41} (hv : WfV vs) (hvl : vs.length ≤ 1000000) (hok : okIn H vs = true) :
    gc_Canon.f H vs = some (if chk H = 0 then (canonH H (trO H vs), canonV H (trO H vs) vs, 0) else ([], [], chk H)) := by
  unfold gc_Canon.f
  rw [if_pos hok, check_f hg]
  simp only [Option.bind_some]
  by_cases hc : chk H = 0
  · obtain ⟨h1, h2⟩ := chk_small hc
    have hin := (trO_post hw hv).1
    have hlen := hin.len
    rw [if_pos hc, if_pos hc, traceO_eq]
    simp only [Option.bind_some]
    unfold gc_CanonW.f
    rw [if_pos rfl]
    have := canonW_l0 (vs := vs) (by omega) hw (fun x hx => by have := h2 x hx; omega) hv hvl hin (trO H vs).length (H.length + 5) 0 (by omega) (by omega) (by omega)
    simpa using this
  · rw [if_neg hc, if_neg hc]
/-! ### the reference's -/
theorem place_at {r : List Int} (hn : r.Nodup) {q : Nat} (hq : q < r.length) : placeOf r r[q] = (q : Int) + 1 := by
  unfold placeOf
  rw [if_pos (List.getElem_mem _)]
  congr 1
  have := List.Nodup.idxOf_getElem hn q hq
  omega
theorem bytes_ext {a b : ByteArray} (h : a.toList = b.toList) : a = b := by
  obtain ⟨⟨x⟩⟩ := a
  obtain ⟨⟨y⟩⟩ := b
  have e1 : (⟨⟨x⟩⟩ : ByteArray).toList = x := by simp
  have e2 : (⟨⟨y⟩⟩ : ByteArray).toList = y := by simp
  rw [e1, e2] at h
  rw [h]
theorem s41_test (x y : S41) : ((!(x.f0 == y.f0) || (!(x.f1 == y.f1))) = true) ↔ x ≠ y := by
  obtain ⟨a, b⟩ := x
  obtain ⟨c, d⟩ := y
  simp only [Bool.or_eq_true, Bool.not_eq_true', beq_eq_false_iff_ne, ne_eq, S41.mk.injEq]
  constructor
  · rintro (h | h) ⟨h1, h2⟩
    · exact h h1
    · exact h h2
  · intro h
    by_cases h1 : a = c
    · exact .inr (fun h2 => h ⟨h1, h2⟩)
    · exact .inl h1
theorem ext41 {a b : List S41} (hl : a.length = b.length) (h : ∀ i (h1 : i < a.length) (h2 : i < b.length), a[i] = b[i]) : a = b := List.ext_getElem hl h
theorem svs_l0 (a b : List S41) (hl : a.length = b.length) (ha : a.length ≤ 100000000) : ∀ (d k i : Nat), a.length - i = d → i ≤ a.length → d < k → ∃ r, larchbase_SameValues.l0 k a b i = some r ∧ (r = true ↔ a.drop i = b.drop i) := by
  intro d
  induction d with
  | zero =>
    intro k i hd hi hk
    obtain ⟨k, rfl⟩ : ∃ m, k = m + 1 := ⟨k - 1, by omega⟩
    simp only [larchbase_SameValues.l0]
    rw [if_neg (by omega), List.drop_eq_nil_of_le (by omega), List.drop_eq_nil_of_le (by omega)]
    exact ⟨true, rfl, by simp⟩
  | succ d ih =>
    intro k i hd hi hk
    obtain ⟨k, rfl⟩ : ∃ m, k = m + 1 := ⟨k - 1, by omega⟩
    have h1 : i < a.length := by omega
    have h2 : i < b.length := by omega
    simp only [larchbase_SameValues.l0]
    rw [if_pos (by omega), if_pos (by omega), if_pos (by omega), rd41i h1, rd41i h2, List.drop_eq_getElem_cons h1, List.drop_eq_getElem_cons h2]
    by_cases he : a[i] = b[i]
    · rw [if_neg (fun h => (s41_test _ _).1 h he), wr (by omega) (by omega), show ((i : Int) + 1) = ((i + 1 : Nat) : Int) by omega]
      obtain ⟨r, g1, g2⟩ := ih k (i + 1) (by omega) (by omega) (by omega)
      exact ⟨r, g1, g2.trans ⟨fun h => by rw [he, h], fun h => (List.cons.inj h).2⟩⟩
    · rw [if_pos ((s41_test _ _).2 he)]
      exact ⟨false, rfl, by simp only [Bool.false_eq_true, false_iff]; exact fun h => he (List.cons.inj h).1⟩
theorem svs_f (a b : List S41) (ha : a.length ≤ 100000000) {k : Nat} (hk : a.length < k) : ∃ r, larchbase_SameValues.f k a b = some r ∧ (r = true ↔ a = b) := by
  unfold larchbase_SameValues.f
  by_cases hl : a.length = b.length
  · rw [if_pos (by omega)]
    have := svs_l0 a b hl ha a.length k 0 (by omega) (by omega) hk
    simpa using this
  · rw [if_neg (by omega)]
    exact ⟨false, rfl, by simp only [Bool.false_eq_true, false_iff]; exact fun h => hl (by rw [h])⟩
theorem evs_l0 (a b : List S41) (hl : a.length = b.length) (ha : a.length ≤ 100000000) : ∀ (d k i : Nat), a.length - i = d → i ≤ a.length → d < k → ∃ r, api_Value.l0 k a b a.length i = some r ∧ (r = true ↔ a.drop i = b.drop i) := by
  intro d
  induction d with
  | zero =>
    intro k i hd hi hk
    obtain ⟨k, rfl⟩ : ∃ m, k = m + 1 := ⟨k - 1, by omega⟩
    simp only [api_Value.l0]
    rw [if_neg (by omega), List.drop_eq_nil_of_le (by omega), List.drop_eq_nil_of_le (by omega)]
    exact ⟨true, rfl, by simp⟩
  | succ d ih =>
    intro k i hd hi hk
    obtain ⟨k, rfl⟩ : ∃ m, k = m + 1 := ⟨k - 1, by omega⟩
    have h1 : i < a.length := by omega
    have h2 : i < b.length := by omega
    simp only [api_Value.l0]
    rw [if_pos (by omega), if_pos (by omega), if_pos (by omega), if_pos (by omega), rd41i h1, rd41i h2, List.drop_eq_getElem_cons h1, List.drop_eq_getElem_cons h2]
    by_cases he : a[i] = b[i]
    · rw [if_neg (fun h => (s41_test _ _).1 h he), wr (by omega) (by omega), show ((i : Int) + 1) = ((i + 1 : Nat) : Int) by omega]
      obtain ⟨r, g1, g2⟩ := ih k (i + 1) (by omega) (by omega) (by omega)
      exact ⟨r, g1, g2.trans ⟨fun h => by rw [he, h], fun h => (List.cons.inj h).2⟩⟩
    · rw [if_pos ((s41_test _ _).2 he)]
      exact ⟨false, rfl, by simp only [Bool.false_eq_true, false_iff]; exact fun h => he (List.cons.inj h).1⟩
theorem evs_f (a b : List S41) (ha : a.length ≤ 100000000) {k : Nat} (hk : a.length < k) : ∃ r, api_Value.f k a b = some r ∧ (r = true ↔ a = b) := by
  unfold api_Value.f
  by_cases hl : a.length = b.length
  · rw [if_pos (by omega)]
    have := evs_l0 a b hl ha a.length k 0 (by omega) (by omega) hk
    simpa using this
  · rw [if_neg (by omega)]
    exact ⟨false, rfl, by simp only [Bool.false_eq_true, false_iff]; exact fun h => hl (by rw [h])⟩
theorem s37_iff (x y : S37) : x = y ↔ x.f0.toList = y.f0.toList ∧ x.f1 = y.f1 := by
  constructor
  · rintro rfl; exact ⟨rfl, rfl⟩
  · rintro ⟨h1, h2⟩
    obtain ⟨a, b⟩ := x
    obtain ⟨c, d⟩ := y
    have := bytes_ext h1
    simp only at this h2
    rw [this, h2]
theorem sos_l0 (a b : List S37) (hl : a.length = b.length) (ha : a.length ≤ 100000000) (he : ∀ x, x ∈ a → x.f1.length ≤ 1000000) : ∀ (d k i : Nat), a.length - i = d → i ≤ a.length → d + 1000000 < k → ∃ r, larchbase_SameObjects.l0 k a b i = some r ∧ (r = true ↔ a.drop i = b.drop i) := by
  intro d
  induction d with
  | zero =>
    intro k i hd hi hk
    obtain ⟨k, rfl⟩ : ∃ m, k = m + 1 := ⟨k - 1, by omega⟩
    simp only [larchbase_SameObjects.l0]
    rw [if_neg (by omega), List.drop_eq_nil_of_le (by omega), List.drop_eq_nil_of_le (by omega)]
    exact ⟨true, rfl, by simp⟩
  | succ d ih =>
    intro k i hd hi hk
    obtain ⟨k, rfl⟩ : ∃ m, k = m + 1 := ⟨k - 1, by omega⟩
    have h1 : i < a.length := by omega
    have h2 : i < b.length := by omega
    have hx := he _ (List.getElem_mem h1)
    simp only [larchbase_SameObjects.l0]
    rw [if_pos (by omega), if_pos (by omega), if_pos (by omega), rdi a i h1, rdi b i h2, List.drop_eq_getElem_cons h1, List.drop_eq_getElem_cons h2]
    have hiff := s37_iff a[i] b[i]
    by_cases e0 : a[i].f0.toList = b[i].f0.toList
    · rw [if_pos e0]
      obtain ⟨r, g1, g2⟩ := svs_f a[i].f1 b[i].f1 (by omega) (k := k) (by omega)
      rw [g1]
      simp only [Option.bind_some]
      cases r with
      | true =>
        rw [if_pos rfl, wr (by omega) (by omega), show ((i : Int) + 1) = ((i + 1 : Nat) : Int) by omega]
        have hab := hiff.2 ⟨e0, g2.1 rfl⟩
        obtain ⟨r2, g3, g4⟩ := ih k (i + 1) (by omega) (by omega) (by omega)
        exact ⟨r2, g3, g4.trans ⟨fun h => by rw [hab, h], fun h => (List.cons.inj h).2⟩⟩
      | false =>
        rw [if_neg (by simp)]
        exact ⟨false, rfl, by simp only [Bool.false_eq_true, false_iff]; exact fun h => by have := g2.2 (hiff.1 (List.cons.inj h).1).2; cases this⟩
    · rw [if_neg e0]
      exact ⟨false, rfl, by simp only [Bool.false_eq_true, false_iff]; exact fun h => e0 (hiff.1 (List.cons.inj h).1).1⟩
theorem sos_f (a b : List S37) (ha : a.length ≤ 100000000) (he : ∀ x, x ∈ a → x.f1.length ≤ 1000000) {k : Nat} (hk : a.length + 1000000 < k) : ∃ r, larchbase_SameObjects.f k a b = some r ∧ (r = true ↔ a = b) := by
  unfold larchbase_SameObjects.f
  by_cases hl : a.length = b.length
  · rw [if_pos (by omega)]
    have := sos_l0 a b hl ha he a.length k 0 (by omega) (by omega) hk
    simpa using this
  · rw [if_neg (by omega)]
    exact ⟨false, rfl, by simp only [Bool.false_eq_true, false_iff]; exact fun h => hl (by rw [h])⟩
theorem one_f (x y : S37) (hx : x.f1.length ≤ 1000000) {k : Nat} (hk : 1000000 < k) : ∃ r, gc_Same_1.f k x.f0 x.f1 y.f0 y.f1 = some r ∧ (r = true ↔ x = y) := by
  unfold gc_Same_1.f
  have hiff := s37_iff x y
  by_cases e0 : x.f0.toList = y.f0.toList
  · rw [if_pos e0]
    obtain ⟨r, g1, g2⟩ := evs_f x.f1 y.f1 (by omega) (k := k) (by omega)
    rw [g1]
    exact ⟨r, rfl, g2.trans ⟨fun h => hiff.2 ⟨e0, h⟩, fun h => (hiff.1 h).2⟩⟩
  · rw [if_neg e0]
    exact ⟨false, rfl, by simp only [Bool.false_eq_true, false_iff]; exact fun h => e0 (hiff.1 h).1⟩
theorem eos_l0 (a b : List S37) (hl : a.length = b.length) (ha : a.length ≤ 100000000) (he : ∀ x, x ∈ a → x.f1.length ≤ 1000000) : ∀ (d k i : Nat), a.length - i = d → i ≤ a.length → d + 1000000 < k → ∃ r, api_Object.l0 k b a a.length i = some r ∧ (r = true ↔ a.drop i = b.drop i) := by
  intro d
  induction d with
  | zero =>
    intro k i hd hi hk
    obtain ⟨k, rfl⟩ : ∃ m, k = m + 1 := ⟨k - 1, by omega⟩
    simp only [api_Object.l0]
    rw [if_neg (by omega), List.drop_eq_nil_of_le (by omega), List.drop_eq_nil_of_le (by omega)]
    exact ⟨true, rfl, by simp⟩
  | succ d ih =>
    intro k i hd hi hk
    obtain ⟨k, rfl⟩ : ∃ m, k = m + 1 := ⟨k - 1, by omega⟩
    have h1 : i < a.length := by omega
    have h2 : i < b.length := by omega
    have hx := he _ (List.getElem_mem h1)
    simp only [api_Object.l0]
    rw [if_pos (by omega), if_pos (by omega), if_pos (by omega), if_pos (by omega), rdi a i h1, rdi b i h2, List.drop_eq_getElem_cons h1, List.drop_eq_getElem_cons h2]
    obtain ⟨r, g1, g2⟩ := one_f a[i] b[i] hx (k := k) (by omega)
    rw [g1]
    simp only [Option.bind_some]
    cases r with
    | true =>
      rw [if_pos rfl, wr (by omega) (by omega), show ((i : Int) + 1) = ((i + 1 : Nat) : Int) by omega]
      have hab := g2.1 rfl
      obtain ⟨r2, g3, g4⟩ := ih k (i + 1) (by omega) (by omega) (by omega)
      exact ⟨r2, g3, g4.trans ⟨fun h => by rw [hab, h], fun h => (List.cons.inj h).2⟩⟩
    | false =>
      rw [if_neg (by simp)]
      exact ⟨false, rfl, by simp only [Bool.false_eq_true, false_iff]; exact fun h => by have := g2.2 (List.cons.inj h).1; cases this⟩
theorem eos_f (a b : List S37) (c : Int) (ha : a.length ≤ 100000000) (he : ∀ x, x ∈ a → x.f1.length ≤ 1000000) {k : Nat} (hk : a.length + 1000000 < k) : ∃ r, api_Object.f k a b c = some r ∧ (r = true ↔ a = b) := by
  unfold api_Object.f
  by_cases hl : a.length = b.length
  · rw [if_pos (by omega)]
    have := eos_l0 a b hl ha he a.length k 0 (by omega) (by omega) hk
    simpa using this
  · rw [if_neg (by omega)]
    exact ⟨false, rfl, by simp only [Bool.false_eq_true, false_iff]; exact fun h => hl (by rw [h])⟩
/-! ### light -/
theorem light_l0 (l : List S37) (hg : Good l) : ∀ (d k i : Nat), l.length - i = d → i ≤ l.length → d < k → wsum (l.take i) + i ≤ 1000 + 8796093021953 → ∃ r, larchlaw16_light.l0 k l ((wsum (l.take i) + i : Nat) : Int) i = some r ∧ (r = true → wsum l + l.length < 1000) := by
  intro d
  induction d with
  | zero =>
    intro k i hd hi hk hs
    obtain ⟨k, rfl⟩ : ∃ m, k = m + 1 := ⟨k - 1, by omega⟩
    have e2 : l.take i = l := List.take_of_length_le (by omega)
    simp only [larchlaw16_light.l0]
    rw [if_neg (by omega), e2]
    exact ⟨_, rfl, fun h => by have := of_decide_eq_true h; omega⟩
  | succ d ih =>
    intro k i hd hi hk hs
    obtain ⟨k, rfl⟩ : ∃ m, k = m + 1 := ⟨k - 1, by omega⟩
    have hlt : i < l.length := by omega
    have hlen := hg.len
    simp only [larchlaw16_light.l0]
    rw [if_pos (by omega)]
    by_cases h3 : ((wsum (l.take i) + i : Nat) : Int) < 1000
    · have he := hg.each _ (List.getElem_mem hlt)
      have hw := wsum_succ l i hlt
      obtain ⟨r, g1, g2⟩ := ih k (i + 1) (by omega) (by omega) (by omega) (by omega)
      rw [if_pos h3, if_pos (by omega), rdi l i hlt, wr (x := 1 + (l[i].f1.length : Int)) (by omega) (by omega), wr (by omega) (by omega), wr (x := (i : Int) + 1) (by omega) (by omega), show ((i : Int) + 1) = ((i + 1 : Nat) : Int) by omega,
        show ((wsum (l.take i) + i : Nat) : Int) + (1 + (l[i].f1.length : Int)) = ((wsum (l.take (i + 1)) + (i + 1) : Nat) : Int) by omega]
      exact ⟨r, g1, g2⟩
    · rw [if_neg h3]
      exact ⟨_, rfl, fun h => by have := of_decide_eq_true h; omega⟩
theorem light_f {l : List S37} (hg : Good l) {k : Nat} (hk : l.length < k) : ∃ r, larchlaw16_light.f k l = some r ∧ (r = true → wsum l + l.length < 1000) := by
  have := light_l0 l hg l.length k 0 (by omega) (by omega) hk (by simp [wsum])
  simpa [larchlaw16_light.f, wsum] using this
end Go.Proofs.Ytonkfcfpfpaceaa.Q
