/- Arguments of whatever nesting (whole numbers, strings, bools, slices, structs) read as Lean values, and how large they can be: 'Opens'. -/
import Derived.Test.YtonkfcfpfpaceaaWFoot
import Derived.Test.YtonkfcfpfpaceaaWMore
import Derived.Deep.Slices
import Derived.Deep.Fields
import Derived.ChangeArms
import Derived.SizedLaws
namespace Go.Proofs.Ytonkfcfpfpaceaa.Open
open Go.RowKit Go.Deep Go.ChangeShapes Go.WideShapes Go.Proofs.YtonkfcfpfpaceaaW.PrintWords
set_option linter.unusedVariables false
set_option linter.unusedSimpArgs false

/-- What reads at type t is of kind d; 'good' is what its size comes to. -/
structure Opens {α : Type} (P : Program) (d : Kd α) (t : TypeId) (good : α → Prop) : Prop where
  sz : P.cellsOf t = d.sz
  op : ∀ (H : Type) (enc : TypeId × Value → H) (w : World) (base : Nat) (spare : Nat → Bool) (held : Bool) (fuel : Nat) (cs : List Value) (x : DataW H × List MemPlace), DataW.trod enc P w base spare held fuel t cs = some x → (∀ n ∈ x.1.weights P t, n ≤ 140737488351232) → ∃ a, d.K w a cs ∧ good a

section
variable {P : Program} {t e : TypeId}
theorem opens_int {k : IntKind} (ht : P.underlying t = some (.int k)) (hc : P.cellsOf t = 1) : Opens P (Kd.int k) t (fun a => (Lit.int k a).wf = true) := ⟨hc, by
  intro H enc w base spare held fuel cs x h _
  obtain ⟨n, rfl, _, hw⟩ := DataW.trod_int ht h
  exact ⟨n, rfl, hw⟩⟩
theorem opens_string (ht : P.underlying t = some .string) (hc : P.cellsOf t = 1) : Opens P Kd.string t (fun s => s.size ≤ 140737488351232) := ⟨hc, by
  intro H enc w base spare held fuel cs x h hw
  obtain ⟨s, rfl, rfl, hs⟩ := DataW.trod_string ht h
  exact ⟨s, rfl, by have := hw s.data.toList.length (by simp [DataW.weights]); simpa using this⟩⟩
theorem weights_all {H : Type} {ds : List (DataW H)} {d : DataW H} (hd : d ∈ ds) {n : Nat} (hn : n ∈ d.weights P e) : n ∈ DataW.weightsAll P e ds := by
  induction ds with
  | nil => simp at hd
  | cons y r ih =>
    simp only [DataW.weightsAll, List.mem_append]
    rcases List.mem_cons.1 hd with rfl | hd
    · exact .inl hn
    · exact .inr (ih hd)
theorem opens_slice {α : Type} {d : Kd α} {good : α → Prop} (ht : P.underlying t = some (.slice e)) (hc : P.cellsOf t = 1) {B : Nat} (hB : P.bytesOf e = B) (hd : Opens P d e good) : Opens P (Kd.slice e d) t (fun xs => xs.length * B ≤ 140737488351232 ∧ ∀ x ∈ xs, good x) := ⟨hc, by
  intro H enc w base spare held fuel cs x h hw
  rcases open_slice ht h with ⟨rfl, _⟩ | ⟨a, len, cap, m, n, D, Pl, rfl, hb, hl, hm, hmm, hx, hi⟩
  · exact ⟨[], ⟨none, 0, rfl, Nat.le_refl _, Kd.C_nil d w⟩, by simp⟩
  · subst hx
    simp only [DataW.weights, ht] at hw
    have hlen : len * B ≤ 140737488351232 := by
      have := hw _ List.mem_cons_self
      rw [hB] at this
      simp only [List.length_map, List.length_range] at this
      exact Nat.le_trans (Nat.mul_le_mul_right _ (Nat.le_add_right _ _)) this
    have hml : len ≤ m := by rw [hmm]; split <;> omega
    have hwi : ∀ i, i < len → ∀ q ∈ (D i).weights P e, q ≤ 140737488351232 := fun i hil q hq =>
      hw q (List.mem_cons_of_mem _ (List.mem_append_left _ (weights_all (List.mem_map.2 ⟨i, List.mem_range.2 hil, rfl⟩) hq)))
    have key : ∀ i, i < len → ∃ p, good p ∧ ∃ c, c.length = d.sz ∧ d.K w p c ∧ ∀ j u, c[j]? = some u → w.cell? (a.add (i * d.sz + j)) = some u := by
      intro i him
      obtain ⟨cs', hcs, htr⟩ := hi i (by omega)
      obtain ⟨p, hp, hg⟩ := hd.op H enc w base spare held n cs' _ htr (hwi i him)
      rw [hd.sz] at hcs
      obtain ⟨_, hcl, hat⟩ := World.cells?_some hcs
      refine ⟨p, hg, cs', hcl, hp, fun j u hu => ?_⟩
      have hj : j < d.sz := by
        have := (List.getElem?_eq_some_iff.1 hu).1
        omega
      rw [← Go.Deep.add_add, hat j hj, hu]
    have build : ∀ k, k ≤ len → ∃ xs : List α, xs.length = k ∧ (∀ x ∈ xs, good x) ∧ ∀ j p, xs[j]? = some p → ∃ c, c.length = d.sz ∧ d.K w p c ∧ ∀ i u, c[i]? = some u → w.cell? (a.add (j * d.sz + i)) = some u := by
      intro k
      induction k with
      | zero => intro _; exact ⟨[], rfl, by simp, by simp⟩
      | succ k ih =>
        intro hk
        obtain ⟨xs, h1, h2, h3⟩ := ih (by omega)
        obtain ⟨p, hg, hpc⟩ := key k (by omega)
        refine ⟨xs ++ [p], by simp [h1], ?_, fun j q hq => ?_⟩
        · intro y hy
          rcases List.mem_append.1 hy with hy | hy
          · exact h2 y hy
          · rw [List.mem_singleton.1 hy]; exact hg
        · rcases Nat.lt_or_ge j xs.length with hj | hj
          · rw [List.getElem?_append_left hj] at hq
            exact h3 j q hq
          · have hj' := (List.getElem?_eq_some_iff.1 hq).1
            rw [List.length_append, List.length_singleton] at hj'
            obtain rfl : j = xs.length := by omega
            have hq' : p = q := by simpa using hq
            subst hq'
            rw [h1]
            exact hpc
    obtain ⟨xs, h1, h2, h3⟩ := build len (Nat.le_refl _)
    subst h1
    refine ⟨xs, ⟨some a, cap, rfl, hl, rfl, ?_, fun _ => ⟨a, rfl, h3⟩⟩, hlen, h2⟩
    simp only [maxLen] at hm
    omega⟩
theorem opens_iso {α β : Type} {d : Kd α} {good : α → Prop} (f : β → α) (g : α → β) (hfg : ∀ a, f (g a) = a) (hd : Opens P d t good) : Opens P (Kd.iso d f) t (fun b => good (f b)) := ⟨hd.sz, by
  intro H enc w base spare held fuel cs x h hw
  obtain ⟨a, hK, hg⟩ := hd.op H enc w base spare held fuel cs x h hw
  exact ⟨g a, by show d.K w (f (g a)) cs; rw [hfg]; exact hK, by rw [hfg]; exact hg⟩⟩
theorem opens_struct2 {α β : Type} {d0 : Kd α} {d1 : Kd β} {g0 : α → Prop} {g1 : β → Prop} {f0 f1 : Field} (hs : P.underlying t = some (.struct #[f0, f1])) (h0 : Opens P d0 f0.type g0) (h1 : Opens P d1 f1.type g1)
    (o0 : f0.offset = 0) (o1 : f1.offset = d0.sz) (hc : P.cellsOf t = d0.sz + d1.sz) : Opens P (Kd.pair d0 d1) t (fun x => g0 x.1 ∧ g1 x.2) := ⟨hc, by
  intro H enc w base spare held fuel cs x h hw
  obtain ⟨xs, n, _, hx, hlen, hxl, hf⟩ := DataW.trod_struct hs h
  subst hx
  match xs, hxl with
  | [y0, y1], _ =>
    have e0 := hf 0 f0 rfl
    have e1 := hf 1 f1 rfl
    rw [o0, h0.sz] at e0
    rw [o1, h1.sz] at e1
    simp only [DataW.weights, hs, List.map_cons, List.map_nil, DataW.weightsEach, List.append_nil, List.mem_append] at hw
    obtain ⟨a, ka, ga⟩ := h0.op H enc w base spare held n _ _ e0 (fun q hq => hw q (.inl hq))
    obtain ⟨b, kb, gb⟩ := h1.op H enc w base spare held n _ _ e1 (fun q hq => hw q (.inr hq))
    refine ⟨(a, b), ⟨_, _, ?_, ka, kb⟩, ga, gb⟩
    rw [List.drop_zero, List.take_of_length_le (i := d1.sz) (by rw [List.length_drop]; omega), List.take_append_drop]⟩
theorem opens_struct3 {α β γ : Type} {d0 : Kd α} {d1 : Kd β} {d2 : Kd γ} {g0 : α → Prop} {g1 : β → Prop} {g2 : γ → Prop} {f0 f1 f2 : Field} (hs : P.underlying t = some (.struct #[f0, f1, f2])) (h0 : Opens P d0 f0.type g0) (h1 : Opens P d1 f1.type g1) (h2 : Opens P d2 f2.type g2)
    (o0 : f0.offset = 0) (o1 : f1.offset = d0.sz) (o2 : f2.offset = d0.sz + d1.sz) (hc : P.cellsOf t = d0.sz + (d1.sz + d2.sz)) : Opens P (Kd.pair d0 (Kd.pair d1 d2)) t (fun x => g0 x.1 ∧ g1 x.2.1 ∧ g2 x.2.2) := ⟨hc, by
  intro H enc w base spare held fuel cs x h hw
  obtain ⟨xs, n, _, hx, hlen, hxl, hf⟩ := DataW.trod_struct hs h
  subst hx
  match xs, hxl with
  | [y0, y1, y2], _ =>
    have e0 := hf 0 f0 rfl
    have e1 := hf 1 f1 rfl
    have e2 := hf 2 f2 rfl
    rw [o0, h0.sz] at e0
    rw [o1, h1.sz] at e1
    rw [o2, h2.sz] at e2
    simp only [DataW.weights, hs, List.map_cons, List.map_nil, DataW.weightsEach, List.append_nil, List.mem_append] at hw
    obtain ⟨a, ka, ga⟩ := h0.op H enc w base spare held n _ _ e0 (fun q hq => hw q (.inl hq))
    obtain ⟨b, kb, gb⟩ := h1.op H enc w base spare held n _ _ e1 (fun q hq => hw q (.inr (.inl hq)))
    obtain ⟨c, kc, gc⟩ := h2.op H enc w base spare held n _ _ e2 (fun q hq => hw q (.inr (.inr hq)))
    refine ⟨(a, b, c), ⟨_, _, ?_, ka, _, _, rfl, kb, kc⟩, ga, gb, gc⟩
    rw [List.drop_zero, List.take_of_length_le (i := d2.sz) (by rw [List.length_drop]; omega)]
    rw [show cs.drop (d0.sz + d1.sz) = (cs.drop d0.sz).drop d1.sz by rw [List.drop_drop], List.take_append_drop, List.take_append_drop]⟩

/-- The weights of the j-th argument. -/
theorem sized_arg {H : Type} {ts : List TypeId} {ds : List (DataW H)} (hsz : (DataW.weightsEach P ts ds).all (· ≤ reachBytes) = true) {j : Nat} {d : DataW H} (ht : ts[j]? = some t) (hd : ds[j]? = some d) : ∀ n ∈ d.weights P t, n ≤ 140737488351232 := by
  intro n hn
  have := List.all_eq_true.1 hsz n (DataW.weights_mem_each ht hd n hn)
  have h2 : n ≤ reachBytes := by simpa using this
  have h3 : reachBytes = 140737488351232 := rfl
  omega
/-- An argument that is a slice, as it is read. -/
theorem open_arg {α : Type} {d : Kd α} {good : List α → Prop} {H : Type} {enc : TypeId × Value → H} {W : World} {base : Nat} {spare : Nat → Bool} {held : Bool} {v : Value} {dt : DataW H} {ps : List MemPlace}
    (hd : Opens P (Kd.slice e d) t good) (hv : v.cells.toList = [v]) (hw : ∀ n ∈ dt.weights P t, n ≤ 140737488351232) (h : DataW.Trod enc P W base spare held t v dt ps) :
    ∃ (xs : List α) (A : Option Addr) (c : Nat), v = .slice A xs.length c ∧ xs.length ≤ c ∧ d.C W A xs.length xs ∧ good xs := by
  obtain ⟨fuel, hf⟩ := h
  rw [hv] at hf
  obtain ⟨xs, ⟨A, c, he, hl, hC⟩, hg⟩ := hd.op H enc W base spare held fuel _ _ hf hw
  injection he with he
  exact ⟨xs, A, c, he, hl, hC, hg⟩
/-- An argument that is a struct, as it is read. -/
theorem open_struct {α : Type} {d : Kd α} {good : α → Prop} {H : Type} {enc : TypeId × Value → H} {W : World} {base : Nat} {spare : Nat → Bool} {held : Bool} {cs : Array Value} {dt : DataW H} {ps : List MemPlace}
    (hd : Opens P d t good) (hw : ∀ n ∈ dt.weights P t, n ≤ 140737488351232) (h : DataW.Trod enc P W base spare held t (.agg cs) dt ps) : ∃ a, d.K W a cs.toList ∧ good a := by
  obtain ⟨fuel, hf⟩ := h
  have hf' : DataW.trod enc P W base spare held fuel t cs.toList = some (dt, ps) := hf
  exact hd.op H enc W base spare held fuel _ _ hf' hw
/-- What came in, told by its blocks. -/
theorem foot_arg {α : Type} {d : Kd α} (hh : Kd.Heap d) {W : World} {A : Option Addr} {n : Nat} {xs : List α} (h : d.C W A n xs) : Kd.F d W (fun _ => True) A n xs := fun W' hk => hh.C (fun k hlt => hk k trivial hlt) h
end
end Go.Proofs.Ytonkfcfpfpaceaa.Open
