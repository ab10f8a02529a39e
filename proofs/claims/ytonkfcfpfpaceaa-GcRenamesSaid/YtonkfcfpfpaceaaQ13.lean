/- gc: the law GcRenames: the heap turned round has the same canon; joined with its walk. -/
import Derived.Test.YtonkfcfpfpaceaaR1b
import Derived.Test.YtonkfcfpfpaceaaR8
import Derived.Test.YtonkfcfpfpaceaaK3
import Derived.Test.YtonkfcfpfpaceaaK4
namespace Go.Proofs.Ytonkfcfpfpaceaa.Q
open Go.RowKit Go.Proofs.YtonkfcfpfpaceaaW.PrintWords Go.Proofs.YtonkfcfpfpaceaaW.PrintMore Go.Proofs.Ytonkfcfpfpaceaa.A.P
set_option linter.unusedVariables false
set_option linter.unusedSimpArgs false
theorem wsum_of (f : Int → S37) : ∀ o : List Int, wsum (o.map f) = (o.map fun x => (f x).f1.length).sum
  | [] => rfl
  | x :: t => by
    have := wsum_of f t
    unfold wsum at *
    simp only [List.map_cons, List.sum_cons, this]
theorem heap_of (H : List S37) : (nums1 H.length).map (fun x => rd_T37 H (x - 1)) = H := by
  refine List.ext_getElem (by simp [nums1]) fun i h1 h2 => ?_
  simp only [nums1, List.getElem_map, List.getElem_range]
  rw [show ((i : Int) + 1 - 1) = (i : Int) by omega, rdi H i h2]
theorem Light.fine {l : List S37} (h : Light l) : Good l := ⟨by have := h.len; omega, fun x hx => by have := h.each hx; omega⟩
def num (n : Nat) (k : Int) (v : S41) : S41 := ⟨v.f0, renN n k v.f0 v.f1⟩
theorem ren_l1 {l : List S37} {x1 : List S41} {a2 : Int} {x9 : List S37} {i : Nat} (hi : i < l.length) (hl : l.length ≤ 100000) (hw : (l[i].f1).length ≤ 100000) {p : Nat} (hp : Int.tmod (wrap64 ((i : Int) + a2)) (l.length : Int) = (p : Int)) (hp9 : p < x9.length) (k : Nat) :
    ∀ (d j : Nat) (acc : List S41), l[i].f1.length - j = d → j ≤ l[i].f1.length → acc.length = j →
      larchlaw16_GcRenames.l1 (k + d + 1) x1 l a2 x9 i j l[i].f0 acc = larchlaw16_GcRenames.l0 k x1 l a2 (x9.set p ⟨l[i].f0, acc ++ (l[i].f1.drop j).map (num l.length a2)⟩) (wrap64 ((i : Int) + 1)) := by
  intro d
  induction d with
  | zero =>
    intro j acc hd hj ha
    simp only [larchlaw16_GcRenames.l1, Nat.add_zero]
    rw [if_pos (by omega), if_pos (by omega), rdi l i hi, if_neg (by omega), if_neg (by omega), hp, if_pos (by omega), if_pos (by omega), List.drop_eq_nil_of_le (by omega), Int.toNat_natCast, List.map_nil, List.append_nil]
  | succ d ih =>
    intro j acc hd hj ha
    have hlt : j < l[i].f1.length := by omega
    rw [show k + (d + 1) + 1 = (k + d + 1) + 1 by omega, larchlaw16_GcRenames.l1]
    rw [if_pos (by omega), if_pos (by omega), rdi l i hi, if_pos (by omega), if_pos (by omega), rd41i hlt]
    simp only [larchlaw16_GcRenames_1.f, Option.bind_some]
    rw [if_pos (by omega), wr (by omega) (by omega), show ((j : Int) + 1) = ((j + 1 : Nat) : Int) by omega, ih (j + 1) _ (by omega) (by omega) (by simp [ha]), List.drop_eq_getElem_cons hlt, List.map_cons, List.append_assoc]
    rfl
def turned (l : List S37) (k0 : Nat) (i : Nat) : S37 := ⟨(rd_T37 l i).f0, (rd_T37 l i).f1.map (num l.length k0)⟩
theorem spot_inj {n k0 i j : Nat} (hi : i < n) (hj : j < n) (h : (i + k0) % n = (j + k0) % n) : i = j := by
  have h1 := Nat.div_add_mod (i + k0) n
  have h2 := Nat.div_add_mod (j + k0) n
  rw [h] at h1
  rcases Nat.lt_trichotomy ((i + k0) / n) ((j + k0) / n) with g | g | g
  · have := Nat.mul_le_mul_left n (show (i + k0) / n + 1 ≤ (j + k0) / n by omega)
    rw [Nat.mul_add] at this
    omega
  · rw [g] at h1
    omega
  · have := Nat.mul_le_mul_left n (show (j + k0) / n + 1 ≤ (i + k0) / n by omega)
    rw [Nat.mul_add] at this
    omega
theorem ren_l0 {l : List S37} {x1 : List S41} {k0 : Nat} (hl : l.length ≤ 100000) (hk0 : k0 < l.length) (hw : ∀ x ∈ l, x.f1.length ≤ 100000) (k : Nat) :
    ∀ (d i : Nat) (x9 : List S37), l.length - i = d → i ≤ l.length → x9.length = l.length → (∀ j, j < i → x9[(j + k0) % l.length]? = some (turned l k0 j)) →
      ∃ (m : List S37) (q : Nat), q = wsum (l.drop i) + 2 * d ∧ m.length = l.length ∧ (∀ j, j < l.length → m[(j + k0) % l.length]? = some (turned l k0 j)) ∧
        larchlaw16_GcRenames.l0 (k + q + 1) x1 l k0 x9 i = larchlaw16_GcRenames.l2 k x1 l k0 m [] 0 := by
  intro d
  induction d with
  | zero =>
    intro i x9 hd hi h9 hm
    refine ⟨x9, _, rfl, h9, fun j hj => hm j (by omega), ?_⟩
    rw [show wsum (l.drop i) = 0 by rw [List.drop_eq_nil_of_le (by omega)]; rfl]
    simp only [larchlaw16_GcRenames.l0, Nat.add_zero, Nat.mul_zero]
    rw [if_neg (by omega)]
  | succ d ih =>
    intro i x9 hd hi h9 hm
    have hlt : i < l.length := by omega
    have hpl : (i + k0) % l.length < l.length := Nat.mod_lt _ (by omega)
    have hp : Int.tmod (wrap64 ((i : Int) + (k0 : Int))) (l.length : Int) = (((i + k0) % l.length : Nat) : Int) := by
      rw [wr (by omega) (by omega), show ((i : Int) + (k0 : Int)) = ((i + k0 : Nat) : Int) by omega]
      rfl
    have hwi := hw _ (List.getElem_mem hlt)
    have hx9 : (x9.set ((i + k0) % l.length) (turned l k0 i)).length = l.length := by rw [List.length_set, h9]
    obtain ⟨m, q, hq, hml, hmm, he⟩ := ih (i + 1) (x9.set ((i + k0) % l.length) (turned l k0 i)) (by omega) (by omega) hx9 (fun j hj => by
      by_cases hji : j = i
      · subst hji
        rw [List.getElem?_set_self (by omega)]
      · rw [List.getElem?_set_ne (fun e => hji (spot_inj (n := l.length) (k0 := k0) (by omega) hlt e.symm))]
        exact hm j (by omega))
    refine ⟨m, _, rfl, hml, hmm, ?_⟩
    have hws : wsum (l.drop i) = l[i].f1.length + wsum (l.drop (i + 1)) := by
      rw [List.drop_eq_getElem_cons hlt]
      rfl
    rw [show k + (wsum (l.drop i) + 2 * (d + 1)) + 1 = ((k + q + 1) + l[i].f1.length + 1) + 1 by omega]
    have h1 := ren_l1 (x1 := x1) (a2 := (k0 : Int)) (x9 := x9) hlt hl hwi hp (by omega) (k + q + 1) l[i].f1.length 0 [] (by omega) (by omega) rfl
    rw [wr (by omega) (by omega), show ((i : Int) + 1) = ((i + 1 : Nat) : Int) by omega, List.drop_zero, List.nil_append] at h1
    have ht : turned l k0 i = ⟨l[i].f0, l[i].f1.map (num l.length k0)⟩ := by unfold turned; rw [rdi l i hlt]
    rw [ht] at he
    rw [he] at h1
    rw [larchlaw16_GcRenames.l0, if_pos (by omega), if_pos (by omega), rdi l i hlt]
    exact h1
theorem ren_l2 {l m : List S37} {x1 : List S41} {a2 : Int} (hx : x1.length ≤ 100000) (k : Nat) : ∀ (d j : Nat) (acc : List S41), x1.length - j = d → j ≤ x1.length → acc.length = j →
    larchlaw16_GcRenames.l2 (k + d + 1) x1 l a2 m acc j = (gc_Same.f k l x1 m (acc ++ (x1.drop j).map (num l.length a2))).bind fun bt => if bt.1 = true then some (bt.2 == 0) else some false := by
  intro d
  induction d with
  | zero =>
    intro j acc hd hj ha
    simp only [larchlaw16_GcRenames.l2, Nat.add_zero]
    rw [if_neg (by omega), List.drop_eq_nil_of_le (by omega), List.map_nil, List.append_nil]
  | succ d ih =>
    intro j acc hd hj ha
    have hlt : j < x1.length := by omega
    rw [show k + (d + 1) + 1 = (k + d + 1) + 1 by omega, larchlaw16_GcRenames.l2]
    rw [if_pos (by omega), if_pos (by omega), rd41i hlt]
    simp only [larchlaw16_GcRenames_1.f, Option.bind_some]
    rw [if_pos (by omega), wr (by omega) (by omega), show ((j : Int) + 1) = ((j + 1 : Nat) : Int) by omega, ih (j + 1) _ (by omega) (by omega) (by simp [ha]), List.drop_eq_getElem_cons hlt, List.map_cons, List.append_assoc]
    rfl

def phi (n k0 : Nat) (x : Int) : Int := ((((x - 1).toNat + k0) % n : Nat) : Int) + 1
def psi (n k0 : Nat) (y : Int) : Int := ((((y - 1).toNat + (n - k0)) % n : Nat) : Int) + 1
theorem phi_bounds {n k0 : Nat} (hn : 0 < n) (x : Int) : 1 ≤ phi n k0 x ∧ phi n k0 x ≤ n := by
  unfold phi
  have := Nat.mod_lt ((x - 1).toNat + k0) hn
  omega
theorem psi_bounds {n k0 : Nat} (hn : 0 < n) (x : Int) : 1 ≤ psi n k0 x ∧ psi n k0 x ≤ n := by
  unfold psi
  have := Nat.mod_lt ((x - 1).toNat + (n - k0)) hn
  omega
theorem phi_psi {n k0 : Nat} (hk : k0 < n) {y : Int} (h0 : 1 ≤ y) (h1 : y ≤ n) : phi n k0 (psi n k0 y) = y := by
  unfold phi psi
  rw [show ((((y - 1).toNat + (n - k0)) % n : Nat) : Int) + 1 - 1 = ((((y - 1).toNat + (n - k0)) % n : Nat) : Int) by omega, Int.toNat_natCast, Nat.mod_add_mod, show (y - 1).toNat + (n - k0) + k0 = (y - 1).toNat + n by omega, Nat.add_mod_right, Nat.mod_eq_of_lt (by omega)]
  omega
theorem phi_inj {n k0 : Nat} {x y : Int} (hx : 1 ≤ x ∧ x ≤ n) (hy : 1 ≤ y ∧ y ≤ n) (h : phi n k0 x = phi n k0 y) : x = y := by
  unfold phi at h
  have := spot_inj (n := n) (k0 := k0) (i := (x - 1).toNat) (j := (y - 1).toNat) (by omega) (by omega) (by omega)
  omega
theorem ren_phi {n k0 : Nat} (hk : k0 < n) (hn : n ≤ 100000) {x : Int} (h0 : 1 ≤ x) (h1 : x ≤ n) : renN n k0 4 x = phi n k0 x := by
  unfold renN phi
  rw [if_pos ⟨rfl, h0, h1⟩, wr (x := x - 1 + (k0 : Int)) (by omega) (by omega)]
  have e : Int.tmod (x - 1 + (k0 : Int)) (n : Int) = ((((x - 1).toNat + k0) % n : Nat) : Int) := by
    rw [show x - 1 + (k0 : Int) = (((x - 1).toNat + k0 : Nat) : Int) by omega]
    rfl
  have := Nat.mod_lt ((x - 1).toNat + k0) (show 0 < n by omega)
  rw [e, wr (by omega) (by omega)]
structure Turn (l m : List S37) (k0 : Nat) : Prop where
  len : m.length = l.length
  lt : k0 < l.length
  small : l.length ≤ 100000
  at_ : ∀ j, j < l.length → m[(j + k0) % l.length]? = some (turned l k0 j)
theorem Turn.rd {l m : List S37} {k0 : Nat} (h : Turn l m k0) {x : Int} (h0 : 1 ≤ x) (h1 : x ≤ l.length) : rd_T37 m (phi l.length k0 x - 1) = ⟨(rd_T37 l (x - 1)).f0, (wordsOf l x).map (num l.length k0)⟩ := by
  have hj := h.at_ (x - 1).toNat (by omega)
  unfold phi
  rw [show ((((x - 1).toNat + k0) % l.length : Nat) : Int) + 1 - 1 = ((((x - 1).toNat + k0) % l.length : Nat) : Int) by omega]
  unfold rd_T37 at *
  rw [Int.toNat_natCast, List.getD_eq_getElem?_getD, hj]
  simp only [Option.getD_some, turned, wordsOf, rd_T37, Int.toNat_natCast]
theorem Turn.words {l m : List S37} {k0 : Nat} (h : Turn l m k0) {x : Int} (h0 : 1 ≤ x) (h1 : x ≤ l.length) : wordsOf m (phi l.length k0 x) = (wordsOf l x).map (num l.length k0) := by
  unfold wordsOf
  rw [h.rd h0 h1]
  rfl
theorem Turn.free {l m : List S37} {k0 : Nat} (h : Turn l m k0) {x : Int} (h0 : 1 ≤ x) (h1 : x ≤ l.length) : isFree (rd_T37 m (phi l.length k0 x - 1)) = isFree (rd_T37 l (x - 1)) := by
  rw [h.rd h0 h1]
  rfl
theorem num_ref {n k0 : Nat} (hk : k0 < n) (hn : n ≤ 100000) {v : S41} (h4 : v.f0 = 4) (h0 : 1 ≤ v.f1) (h1 : v.f1 ≤ n) : num n k0 v = ⟨4, phi n k0 v.f1⟩ := by
  unfold num
  rw [h4, ren_phi hk hn h0 h1]
theorem num_else {n : Nat} {k : Int} {v : S41} (h : ¬ (v.f0 = 4 ∧ 1 ≤ v.f1 ∧ v.f1 ≤ n)) : num n k v = v := by
  unfold num renN
  rw [if_neg h]
theorem Turn.ld {l m : List S37} {k0 : Nat} (h : Turn l m k0) (v : S41) : ldTo m (num l.length k0 v) = (ldTo l v).map (phi l.length k0) := by
  have hpos : 0 < l.length := by have := h.lt; omega
  by_cases hv : v.f0 = 4 ∧ 1 ≤ v.f1 ∧ v.f1 ≤ l.length
  · have hb := phi_bounds (k0 := k0) hpos v.f1
    rw [num_ref h.lt h.small hv.1 hv.2.1 hv.2.2, ldTo_eq, ldTo_eq]
    simp only [h.len, h.free hv.2.1 hv.2.2]
    by_cases hf : isFree (rd_T37 l (v.f1 - 1)) = false
    · rw [if_pos ⟨trivial, hb.1, hb.2, hf⟩, if_pos ⟨hv.1, hv.2.1, hv.2.2, hf⟩]
      rfl
    · rw [if_neg (fun g => hf g.2.2.2), if_neg (fun g => hf g.2.2.2)]
      rfl
  · rw [num_else hv, ldTo_eq, ldTo_eq, h.len, if_neg (fun g => hv ⟨g.1, g.2.1, g.2.2.1⟩), if_neg (fun g => hv ⟨g.1, g.2.1, g.2.2.1⟩)]
    rfl
theorem num_wf {n k0 : Nat} (hk : k0 < n) (hn : n ≤ 100000) {v : S41} (h : (Lit.int .i64 v.f1).wf = true) : (Lit.int .i64 (num n k0 v).f1).wf = true := by
  by_cases hv : v.f0 = 4 ∧ 1 ≤ v.f1 ∧ v.f1 ≤ n
  · have hb := phi_bounds (n := n) (k0 := k0) (by omega) v.f1
    rw [num_ref hk hn hv.1 hv.2.1 hv.2.2]
    exact wf_small (by simp only; omega) (by simp only; omega)
  · rw [num_else hv]
    exact h
theorem nums_wf {n k0 : Nat} (hk : k0 < n) (hn : n ≤ 100000) {vs : List S41} (h : WfV vs) : WfV (vs.map (num n k0)) := fun u hu => by
  obtain ⟨v, hm, rfl⟩ := List.mem_map.1 hu
  exact num_wf hk hn (h v hm)
theorem ld_bounds {l : List S37} {v : S41} {y : Int} (h : ldTo l v = some y) : 1 ≤ y ∧ y ≤ l.length := ⟨(ldTo_live h).1.1, (ldTo_live h).1.2.1⟩
theorem leads_bounds {l : List S37} {vs : List S41} {y : Int} (h : y ∈ leadsL l vs) : 1 ≤ y ∧ y ≤ l.length := by
  obtain ⟨v, _, hv⟩ := List.mem_filterMap.1 h
  exact ld_bounds hv
theorem Turn.vrel {l m : List S37} {k0 : Nat} (h : Turn l m k0) (vs : List S41) : VRel l m (phi l.length k0) (fun x => 1 ≤ x ∧ x ≤ l.length) vs (vs.map (num l.length k0)) :=
  ⟨leads_map vs (fun v _ => h.ld v), fun y hy => leads_bounds hy⟩
theorem Turn.sim {l m : List S37} {k0 : Nat} (h : Turn l m k0) (hw : WfH l) : Sim l m (phi l.length k0) (fun x => 1 ≤ x ∧ x ≤ l.length) where
  inj := fun x y hx hy e => phi_inj hx hy e
  wf1 := fun x hx => hw _ (rd_mem hx.1 hx.2)
  wf2 := fun x hx => by rw [h.words hx.1 hx.2]; exact nums_wf h.lt h.small (hw _ (rd_mem hx.1 hx.2))
  step := fun x hx => by rw [h.words hx.1 hx.2]; exact h.vrel _
theorem idx_map {f : Int → Int} {y : Int} : ∀ (o : List Int), (∀ x, x ∈ o → f x = f y → x = y) → (o.map f).idxOf (f y) = o.idxOf y
  | [], _ => rfl
  | x :: o, h => by
    rw [List.map_cons, List.idxOf_cons, List.idxOf_cons, idx_map o (fun u hu => h u (by simp [hu]))]
    by_cases e : x = y
    · subst e
      rw [show (f x == f x) = true by simp, show (x == x) = true by simp]
    · have e2 : ¬ f x = f y := fun g => e (h x (by simp) g)
      rw [show (f x == f y) = false by simpa using e2, show (x == y) = false by simpa using e]
theorem place_map {f : Int → Int} {y : Int} {o : List Int} (hy : y ∈ o) (h : ∀ x, x ∈ o → f x = f y → x = y) : placeOf (o.map f) (f y) = placeOf o y := by
  unfold placeOf
  rw [if_pos hy, if_pos (List.mem_map.2 ⟨y, hy, rfl⟩), idx_map o h]
theorem z1_num {n : Nat} {k : Int} (v : S41) : z1 (num n k v) = z1 v := by
  unfold z1
  by_cases h : v.f0 = 4
  · have : (num n k v).f0 = 4 := h
    rw [if_pos h, if_pos this]
    rfl
  · rw [num_else (fun g => h g.1)]
theorem Turn.anew {l m : List S37} {k0 : Nat} (h : Turn l m k0) {o : List Int} (ho : ∀ x, x ∈ o → 1 ≤ x ∧ x ≤ (l.length : Int)) {v : S41} (hv : ∀ y, ldTo l v = some y → y ∈ o) : anewV m (o.map (phi l.length k0)) (num l.length k0 v) = anewV l o v := by
  have e := h.ld v
  cases hl : ldTo l v with
  | none =>
    rw [hl] at e
    rw [anewV_none e, anewV_none hl, z1_num]
  | some y =>
    rw [hl] at e
    have hy := hv y hl
    rw [anewV_some (n := phi l.length k0 y) e, anewV_some hl, place_map hy (fun x hx g => phi_inj (ho x hx) (ho y hy) g)]
theorem Turn.obj {l m : List S37} {k0 : Nat} (h : Turn l m k0) {o : List Int} (ho : ∀ x, x ∈ o → 1 ≤ x ∧ x ≤ (l.length : Int)) {x : Int} (hx : x ∈ o) (hc : ∀ y, y ∈ leadsL l (wordsOf l x) → y ∈ o) : objOf m (o.map (phi l.length k0)) (phi l.length k0 x) = objOf l o x := by
  have hb := ho x hx
  unfold objOf
  rw [h.words hb.1 hb.2, h.rd hb.1 hb.2, List.map_map]
  congr 1
  exact List.map_congr_left fun v hv => h.anew ho (fun y hy => hc y (leads_mem hv hy))
theorem Turn.canon {l m : List S37} {k0 : Nat} (h : Turn l m k0) (hw : WfH l) {vs : List S41} (hv : WfV vs) :
    canonH m (trO m (vs.map (num l.length k0))) = canonH l (trO l vs) ∧ canonV m (trO m (vs.map (num l.length k0))) (vs.map (num l.length k0)) = canonV l (trO l vs) vs := by
  obtain ⟨hin, hr, hcl⟩ := trO_post hw hv
  obtain ⟨e, hP⟩ := trO_sim (h.sim hw) hv (nums_wf h.lt h.small hv) (h.vrel vs)
  rw [e]
  refine ⟨?_, ?_⟩
  · unfold canonH
    rw [List.map_map]
    exact List.map_congr_left fun x hx => h.obj hP hx (hcl x hx)
  · unfold canonV
    rw [List.map_map]
    exact List.map_congr_left fun v hm => h.anew hP (fun y hy => hr y (leads_mem hm hy))
theorem Turn.each {l m : List S37} {k0 : Nat} (h : Turn l m k0) {x : S37} (hx : x ∈ m) : ∃ y : Int, 1 ≤ y ∧ y ≤ l.length ∧ x = ⟨(rd_T37 l (y - 1)).f0, (wordsOf l y).map (num l.length k0)⟩ := by
  obtain ⟨i, hi, rfl⟩ := List.mem_iff_getElem.1 hx
  have hl := h.len
  have hpos : 0 < l.length := by have := h.lt; omega
  have hb := psi_bounds (k0 := k0) hpos ((i : Int) + 1)
  refine ⟨psi l.length k0 ((i : Int) + 1), hb.1, hb.2, ?_⟩
  rw [← h.rd hb.1 hb.2, phi_psi h.lt (by omega) (by omega), show ((i : Int) + 1 - 1) = (i : Int) by omega, rdi m i hi]
theorem Turn.sum {l m : List S37} {k0 : Nat} (h : Turn l m k0) : wsum m ≤ wsum l := by
  have hl := h.len
  have hpos : 0 < l.length := by have := h.lt; omega
  have e1 := wsum_of (fun x => rd_T37 m (x - 1)) (nums1 m.length)
  rw [heap_of] at e1
  have e2 := wsum_of (fun x => rd_T37 l (x - 1)) (nums1 l.length)
  rw [heap_of] at e2
  have e3 : ((nums1 m.length).map fun x => (rd_T37 m (x - 1)).f1.length) = ((nums1 m.length).map (psi l.length k0)).map fun x => (rd_T37 l (x - 1)).f1.length := by
    rw [List.map_map]
    refine List.map_congr_left fun x hx => ?_
    have hx' := (nums1_mem _ _).1 hx
    have hb := psi_bounds (k0 := k0) hpos x
    have := h.rd hb.1 hb.2
    rw [phi_psi h.lt hx'.1 (by omega)] at this
    show (rd_T37 m (x - 1)).f1.length = (rd_T37 l (psi l.length k0 x - 1)).f1.length
    rw [this]
    simp [wordsOf]
  have := sum_sub (fun x => (rd_T37 l (x - 1)).f1.length) ((nums1 m.length).map (psi l.length k0)) (nums1 l.length) (by
    rw [List.nodup_iff_pairwise_ne, List.pairwise_map]
    refine List.Pairwise.imp_of_mem ?_ (List.nodup_iff_pairwise_ne.1 (nums1_nodup m.length))
    intro a b ha hb hne e
    have ha' := (nums1_mem _ _).1 ha
    have hb' := (nums1_mem _ _).1 hb
    have g1 := phi_psi (k0 := k0) h.lt (y := a) ha'.1 (by omega)
    have g2 := phi_psi (k0 := k0) h.lt (y := b) hb'.1 (by omega)
    rw [e] at g1
    exact hne (g1.symm.trans g2)) (fun x hx => by
    obtain ⟨y, hy, rfl⟩ := List.mem_map.1 hx
    exact (nums1_mem _ _).2 (psi_bounds hpos y))
  rw [e3] at e1
  omega
theorem Turn.light {l m : List S37} {k0 : Nat} (h : Turn l m k0) (hL : Light l) : Light m := ⟨by rw [h.len]; exact hL.len, by have := h.sum; have := hL.sum; omega⟩
theorem Turn.wf {l m : List S37} {k0 : Nat} (h : Turn l m k0) (hw : WfH l) : WfH m := fun x hx => by
  obtain ⟨y, h0, h1, rfl⟩ := h.each hx
  exact nums_wf h.lt h.small (hw _ (rd_mem h0 h1))
theorem all_live {l : List S37} (h : (live l).length = l.length) {x : S37} (hx : x ∈ l) : isFree x = false := by
  rw [live_nf, nf, List.countP_eq_length] at h
  simpa using h x hx
theorem Turn.chk {l m : List S37} {k0 : Nat} (h : Turn l m k0) (hL : Light l) (hlv : (live l).length = l.length) : chk m = 0 := by
  have hLm := h.light hL
  have hf : ∀ x, x ∈ m → isFree x = false := fun x hx => by
    obtain ⟨y, h0, h1, rfl⟩ := h.each hx
    have g := all_live hlv (rd_mem h0 h1)
    unfold isFree at g ⊢
    exact g
  exact chk_of (by have := hLm.len; omega) (by have := hLm.sum; omega) (fun hp => hf _ (rd_mem (l := m) (n := (m.length : Int)) (by omega) (by omega))) (any_of' fun x hx => odd_of_not_free (hf x hx))

theorem among_f (t : Int) {n : Nat} (h0 : 0 < n) (h1 : n ≤ 100000) : ∃ k0 : Nat, k0 < n ∧ larchbase_Among.f t (n : Int) = some (k0 : Int) := by
  have e1 : IntKind.u64.wrap (n : Int) = n := by
    show (n : Int) % 18446744073709551616 = n
    omega
  have e2 : IntKind.u64.wrap t = t % 18446744073709551616 := rfl
  obtain ⟨m, hm⟩ : ∃ m : Nat, t % 18446744073709551616 = (m : Int) := ⟨(t % 18446744073709551616).toNat, by omega⟩
  refine ⟨m % n, Nat.mod_lt _ h0, ?_⟩
  unfold larchbase_Among.f
  rw [e1, e2, hm, if_neg (by omega), if_neg (by omega)]
  have e3 : Int.tmod (m : Int) (n : Int) = ((m % n : Nat) : Int) := rfl
  have := Nat.mod_lt m h0
  rw [e3, wr (by omega) (by omega)]
theorem GcRenames_walk (A0 : Option Addr) (c0 : Nat) (l : List S37) (A1 : Option Addr) (c1 : Nat) (vs : List S41) (t : Int) (w : World) (hr : Kd.C k37 w A0 l.length l) (hc0 : l.length ≤ c0) (hr1 : Kd.C k41 w A1 vs.length vs) (hc1 : vs.length ≤ c1) (hg : Good l) (hw : WfH l) (hv : WfV vs) :
    Calls Try.prog 8 #[.slice A0 l.length c0, .slice A1 vs.length c1, .int .i64 t] w fun e w' => e = .returned (.bool true) ∧ Below w.heap.size w w' := by
  obtain ⟨k, hk⟩ : ∃ k, k = 1000000 + l.length := ⟨_, rfl⟩
  have hwk := works_f (k := k) (by omega)
  obtain ⟨r, hli, h2⟩ := light_f hg (k := k) (by omega)
  cases r with
  | false => exact renames_no1 k A0 c0 l A1 c1 vs t w hr hc0 hwk hli
  | true =>
    have hL := Light.of (h2 rfl)
    have hlen := hL.len
    have hck := rcheck_f hg (k := k) (by omega)
    have hlv := rlive_f hg (k := k) (by omega)
    by_cases h3 : (300 : Int) < vs.length
    · exact renames_no2 k A0 c0 l A1 c1 vs t w hr hc0 hwk hli h3
    · by_cases hc : chk l = 0
      · rw [hc] at hck
        by_cases h0 : (l.length : Int) = 0
        · exact renames_no4 k A0 c0 l A1 c1 vs t w hr hc0 hwk hli h3 hck h0
        · by_cases hll : (live l).length = l.length
          · obtain ⟨k0, hk0, ham⟩ := among_f t (n := l.length) (by omega) (by omega)
            have hb : ∀ x ∈ l, x.f1.length ≤ 100000 := fun x hx => by have := hL.each hx; omega
            obtain ⟨m, q, hq, hml, hmm, he⟩ := ren_l0 (x1 := vs) (k0 := k0) (by omega) hk0 hb (4000000 + vs.length + 1) l.length 0 (List.replicate l.length z37) (by omega) (by omega) (by simp) (fun j hj => by omega)
            have hT : Turn l m k0 := ⟨hml, hk0, by omega, hmm⟩
            have hLm := hT.light hL
            have hwm := hT.wf hw
            obtain ⟨q1, q2, q3⟩ := same_f hg hw hL hv (by omega) hLm.fine hwm hLm (nums_wf hT.lt hT.small hv) (by simp; omega) (k := 4000000) (by omega)
            have hcm := hT.chk hL hll
            have hcan := hT.canon hw hv
            obtain rfl : q1 = true := q3.2 ⟨hc, hcm, hcan.1.symm, hcan.2.symm⟩
            rw [if_pos hc, hcm] at q2
            have h5 := ren_l2 (l := l) (m := m) (x1 := vs) (a2 := (k0 : Int)) (by omega) 4000000 vs.length 0 [] (by omega) (by omega) rfl
            rw [List.drop_zero, List.nil_append, q2] at h5
            refine renames_yes k (4000000 + vs.length + 1 + q + 1) A0 c0 l A1 c1 vs t (k0 : Int) (live l) true ⟨rfl⟩ w hr hc0 hr1 hc1 hwk hli (by omega) hck (by omega) hlv hll (by omega) ham ?_
            rw [Int.toNat_natCast]
            refine (he.trans h5).trans ?_
            rfl
          · exact renames_no5 k A0 c0 l A1 c1 vs t w hr hc0 hwk hli h3 hck h0 (live l) hlv hll
      · exact renames_no3 k A0 c0 l A1 c1 vs t w hr hc0 hwk hli h3 (chk l) hck hc
end Go.Proofs.Ytonkfcfpfpaceaa.Q
