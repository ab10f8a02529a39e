/- heap: the copy of a list, the search in it, and whether it is right. -/
import Derived.Test.YticpjpacoeecmaaC1
import Derived.Test.YticpjpacoeecmaaAx3
import Derived.Test.YticpjpacoeecmaaAx4
import Derived.Lib.Hide
import Derived.Laws.MakeOwn
namespace Go.Proofs.Yticpjpacoeecmaa.A.P
open Go.RowKit Go.Proofs.YticpjpacoeecmaaW.PrintWords Go.Proofs.YticpjpacoeecmaaW.PrintLast Go.Proofs.YticpjpacoeecmaaW.PrintMore Go.Proofs.Yticpjpacoeecmaa.C
set_option linter.unusedVariables false
set_option linter.unusedSimpArgs false
/-- Cells one behind the other, in a block of their own: a row of the call's own whose elements share. -/
theorem made_N {α : Type} {d : Kd α} {w w2 : World} {e g : Nat} {ok : Nat → Prop} {xs : List α} {inner : List Value} (hb : w.heap.size ≤ g) (hg : w2.heap[g]? = some (.cells inner.toArray e (0, 0))) (hm : xs.length ≤ 9223372036854775807)
    (hr : Reps (fun x c => Kd.FK d w ok x c) d.sz xs inner) (hold : ∀ k, k < w.heap.size → w2.heap[k]? = w.heap[k]?) :
    Kd.N d e w2 w.heap.size (fun k => ok k ∨ w.heap.size ≤ k) (.slice (some ⟨g, 0, none⟩) xs.length xs.length) xs := by
  have how : w2.ownsRow w.heap.size e d.sz (.slice (some ⟨g, 0, none⟩) xs.length xs.length) xs.length inner :=
    ⟨hr.1, .inr ⟨g, xs.length, inner.toArray, rfl, hb, hg, Nat.le_refl _, by simpa [maxLen] using hm, by simpa using hr.1, by rw [← hr.1]; simp⟩⟩
  refine ⟨fun k hk => ?_, Kd.chunks d.sz xs.length inner, Kd.chunks_length _ _ _, ⟨fun k hk => hk.symm, inner, by rw [Kd.chunks_length]; exact how, Kd.reps_raw hr (fun x c hp => ⟨d.K_len (Kd.FK_now hp), d.K_one (Kd.FK_now hp)⟩)⟩, fun j x c hx hc => ?_⟩
  · have : g = k := by simpa [Value.ownBlock] using hk
    subst this
    exact .inr hb
  · rw [Kd.chunks_get hc]
    have h1 := Kd.FK_bound (hr.2 j x hx)
    refine Kd.FK_mono (Kd.FK_step h1 (fun k hk hlt => hold k hlt)) (fun k hk => ⟨.inl hk.1, fun he => ?_⟩)
    have : k = g := by simpa [Value.ownBlock] using he
    have := hk.2
    omega
/-- .. whose elements lead nowhere. -/
theorem made_R {α : Type} {d : Kd α} {w w2 : World} {e g : Nat} {xs : List α} {inner : List Value} (hb : w.heap.size ≤ g) (hg : w2.heap[g]? = some (.cells inner.toArray e (0, 0))) (hm : xs.length ≤ 9223372036854775807)
    (hr : Reps (fun x c => d.K w x c) d.sz xs inner) (hKM : ∀ x c, d.K w x c → d.M w2 w.heap.size (fun k => True ∧ some k ≠ (Value.slice (some ⟨g, 0, none⟩) xs.length xs.length).ownBlock) x c) :
    Kd.R d e w2 w.heap.size (fun _ => True) (.slice (some ⟨g, 0, none⟩) xs.length xs.length) xs := by
  have how : w2.ownsRow w.heap.size e d.sz (.slice (some ⟨g, 0, none⟩) xs.length xs.length) xs.length inner :=
    ⟨hr.1, .inr ⟨g, xs.length, inner.toArray, rfl, hb, hg, Nat.le_refl _, by simpa [maxLen] using hm, by simpa using hr.1, by rw [← hr.1]; simp⟩⟩
  exact ⟨fun _ _ => trivial, inner, how, hr.imp_ hKM⟩
theorem laid_all (cur cs : List Value) (h : cur.length = cs.length) : laidAt cur 0 cs = cs := by
  simp [laidAt, List.drop_eq_nil_of_le (Nat.le_of_eq h)]
theorem inner_of {α : Type} {R : α → List Value → Prop} {S : Nat} {w : World} {A : Option Addr} {xs : List α} (h : ReadsRow R S w A xs.length xs) :
    ∃ inner, Reps R S xs inner ∧ (0 < xs.length → ∃ ad, A = some ad ∧ ∀ j u, inner[j]? = some u → w.cell? (ad.add j) = some u) := by
  rcases Nat.eq_zero_or_pos xs.length with h0 | h0
  · obtain rfl : xs = [] := List.eq_nil_of_length_eq_zero h0
    exact ⟨[], Reps.none _ _, fun hp => absurd hp (by simp)⟩
  · obtain ⟨ad, rfl, _⟩ := h.2.2 h0
    obtain ⟨inner, hr, hc⟩ := h.inner_
    exact ⟨inner, hr, fun _ => ⟨ad, rfl, hc⟩⟩
theorem reps_one {α : Type} {R : α → List Value → Prop} {S : Nat} {xs : List α} {inner : List Value} (hr : Reps R S xs inner) (hS : 0 < S) (hR : ∀ x c, R x c → ∀ u ∈ c, u.oneCell' = true) : ∀ u ∈ inner, u.oneCell' = true := by
  intro u hu
  obtain ⟨i, hi, rfl⟩ := List.mem_iff_getElem.1 hu
  have hl := hr.1
  have hj : i / S < xs.length := by rw [Nat.div_lt_iff_lt_mul hS]; omega
  refine hR _ _ (hr.2 (i / S) xs[i / S] (List.getElem?_eq_getElem hj)) _ ?_
  have hdm : S * (i / S) + i % S = i := Nat.div_add_mod i S
  have hml : i % S < S := Nat.mod_lt _ hS
  rw [List.mem_iff_getElem?]
  refine ⟨i % S, ?_⟩
  rw [List.getElem?_take_of_lt hml, List.getElem?_drop, show i / S * S + i % S = i by rw [Nat.mul_comm]; exact hdm, List.getElem?_eq_getElem hi]

set_option maxHeartbeats 4000000 in
/-- copied: a new row with the same cells. -/
theorem copied40 (A0 : Option Addr) (c0 n : Nat) (cs : List Value) (w : World) (hn : cs.length = n * 2) (hm : n ≤ 1000000) (hA : 0 < n → ∃ ad, A0 = some ad ∧ ∀ j u, cs[j]? = some u → w.cell? (ad.add j) = some u) (h1 : ∀ u ∈ cs, u.oneCell' = true) :
    Calls Try.prog 33 #[.slice A0 n c0] w fun e w' => e = .returned (.slice (some ⟨w.heap.size, 0, none⟩) n n) ∧ w'.heap[w.heap.size]? = some (.cells cs.toArray 40 (0, 0)) ∧ Below w.heap.size w w' ∧ w.heap.size < w'.heap.size := by
  obtain ⟨i0, hi, hz0, hz1, hz2⟩ := info_parts info40
  have hmk : ∀ W : World, (Instr.makeSlice 22 (.int .i64 (n : Int)) (.int .i64 (n : Int))).run Try.prog W = .ok (.slice (some ⟨W.heap.size, 0, none⟩) n n) (W.alloc (.cells (madeCells (.agg #[(.string ⟨#[]⟩), (.slice none 0 0)] : Value).cells (n * 2)) 40)) := by
    intro W
    have h := run_make (P := Try.prog) W 22 40 i0 _ Try.underlying22 hi hz0 .i64 .i64 (n : Int) (n : Int) (by omega) (by omega) (by rw [hz2]; omega) (by omega)
    rw [hz1] at h
    simpa using h
  have HN := Aside0.mk hn
  have HA := Lib.hid hA
  have H1 := Lib.hid h1
  clear hn hA h1 hi hz0 hz1 hz2
  obtain ⟨zs, hzs⟩ : ∃ zs : List Value, Aside0 (madeCells (.agg #[(.string ⟨#[]⟩), (.slice none 0 0)] : Value).cells (n * 2) = zs.toArray) := ⟨(madeCells (.agg #[(.string ⟨#[]⟩), (.slice none 0 0)] : Value).cells (n * 2)).toList, ⟨by simp⟩⟩
  have HZ : Aside0 (zs.length = n * 2) := ⟨by have h := size_madeCells (.agg #[(.string ⟨#[]⟩), (.slice none 0 0)] : Value).cells (n * 2); rw [hzs.out] at h; simpa using h⟩
  simp only [hzs.out] at hmk
  have HFIT : Aside0 (0 + cs.length ≤ zs.length) := ⟨by rw [HN.out, HZ.out]; omega⟩
  go_enter Try.func33, Try.ntmps33
  go_wp2_with ((with_reducible refine gate_builtin (b := .copy) (xs := #[.tmp 7, .tmp 8]) rfl ?_); refine wpList_copy_sz (by rfl) (.tmp 7) (.tmp 8) 22 22 (by rfl) 40 2 (by decide) Try.underlying22 (by kernel_rfl) _ A0 n n n c0 (by rfl) (by rfl) w.heap.size 0 zs 40 (heap_alloc_new w _) n (Nat.min_self n) cs HN.out (fun hp => ⟨rfl, (HA.out hp).elim fun ad h => ⟨ad, h.1, fun j v hj => pw_cell_below (below_alloc (Below.refl _ _) _) (h.2 j v hj)⟩⟩) HFIT.out H1.out ?_; intro w2 hg2 hgr2)
  go_ret
  have hg := hg2.out
  rw [laid_all zs cs (by rw [HN.out, HZ.out])] at hg
  refine ⟨rfl, hg, ?_, ?_⟩
  · exact (below_alloc (Below.refl _ _) _).grown hgr2.out (by simp) (fun k hk => by injection hk with hk; omega)
  · have := hgr2.out.size
    simp at this
    omega

set_option maxHeartbeats 4000000 in
/-- copied: a new row with the same cells. -/
theorem copied24 (A0 : Option Addr) (c0 n : Nat) (cs : List Value) (w : World) (hn : cs.length = n * 2) (hm : n ≤ 1000000) (hA : 0 < n → ∃ ad, A0 = some ad ∧ ∀ j u, cs[j]? = some u → w.cell? (ad.add j) = some u) (h1 : ∀ u ∈ cs, u.oneCell' = true) :
    Calls Try.prog 43 #[.slice A0 n c0] w fun e w' => e = .returned (.slice (some ⟨w.heap.size, 0, none⟩) n n) ∧ w'.heap[w.heap.size]? = some (.cells cs.toArray 24 (0, 0)) ∧ Below w.heap.size w w' ∧ w.heap.size < w'.heap.size := by
  obtain ⟨i0, hi, hz0, hz1, hz2⟩ := info_parts info24
  have hmk : ∀ W : World, (Instr.makeSlice 38 (.int .i64 (n : Int)) (.int .i64 (n : Int))).run Try.prog W = .ok (.slice (some ⟨W.heap.size, 0, none⟩) n n) (W.alloc (.cells (madeCells (.agg #[(.int .i64 0), (.int .i64 0)] : Value).cells (n * 2)) 24)) := by
    intro W
    have h := run_make (P := Try.prog) W 38 24 i0 _ Try.underlying38 hi hz0 .i64 .i64 (n : Int) (n : Int) (by omega) (by omega) (by rw [hz2]; omega) (by omega)
    rw [hz1] at h
    simpa using h
  have HN := Aside0.mk hn
  have HA := Lib.hid hA
  have H1 := Lib.hid h1
  clear hn hA h1 hi hz0 hz1 hz2
  obtain ⟨zs, hzs⟩ : ∃ zs : List Value, Aside0 (madeCells (.agg #[(.int .i64 0), (.int .i64 0)] : Value).cells (n * 2) = zs.toArray) := ⟨(madeCells (.agg #[(.int .i64 0), (.int .i64 0)] : Value).cells (n * 2)).toList, ⟨by simp⟩⟩
  have HZ : Aside0 (zs.length = n * 2) := ⟨by have h := size_madeCells (.agg #[(.int .i64 0), (.int .i64 0)] : Value).cells (n * 2); rw [hzs.out] at h; simpa using h⟩
  simp only [hzs.out] at hmk
  have HFIT : Aside0 (0 + cs.length ≤ zs.length) := ⟨by rw [HN.out, HZ.out]; omega⟩
  go_enter Try.func43, Try.ntmps43
  go_wp2_with ((with_reducible refine gate_builtin (b := .copy) (xs := #[.tmp 7, .tmp 8]) rfl ?_); refine wpList_copy_sz (by rfl) (.tmp 7) (.tmp 8) 38 38 (by rfl) 24 2 (by decide) Try.underlying38 (by kernel_rfl) _ A0 n n n c0 (by rfl) (by rfl) w.heap.size 0 zs 24 (heap_alloc_new w _) n (Nat.min_self n) cs HN.out (fun hp => ⟨rfl, (HA.out hp).elim fun ad h => ⟨ad, h.1, fun j v hj => pw_cell_below (below_alloc (Below.refl _ _) _) (h.2 j v hj)⟩⟩) HFIT.out H1.out ?_; intro w2 hg2 hgr2)
  go_ret
  have hg := hg2.out
  rw [laid_all zs cs (by rw [HN.out, HZ.out])] at hg
  refine ⟨rfl, hg, ?_, ?_⟩
  · exact (below_alloc (Below.refl _ _) _).grown hgr2.out (by simp) (fun k hk => by injection hk with hk; omega)
  · have := hgr2.out.size
    simp at this
    omega

def api_Object_33.f (l0 : List S40) : Option (List S40) := if l0.length ≤ 1000000 then some l0 else none
theorem api_Object_33.calls (P0_ : Nat → Prop) (A0 : Option Addr) (c0 : Nat) (l0 : List S40) (r : List S40) (w : World) (hs0 : Kd.V k40 40 w w.heap.size (fun k_ => P0_ k_) (.slice A0 l0.length c0) l0) (h : api_Object_33.f l0 = some r) :
    Calls Try.prog 33 #[.slice A0 l0.length c0] w fun e w' => ∃ v0_ : Value, e = .returned (v0_) ∧ Kd.N k40 40 w' w.heap.size (fun k_ => (P0_ k_ ∨ w.heap.size ≤ k_)) v0_ r ∧ Below w.heap.size w w' := by
  unfold api_Object_33.f at h
  split at h
  case isFalse => simp at h
  case isTrue hm =>
    obtain rfl := Option.some.inj h
    have hF := Kd.F_rows (Kd.V_F hs0)
    obtain ⟨inner, hr, hc⟩ := inner_of hF
    refine (copied40 A0 c0 l0.length inner w hr.1 hm hc (reps_one hr (by decide) (fun x c hx u hu => k40.K_one (Kd.FK_now hx) u hu))).mono ?_
    rintro e w' ⟨rfl, hg, hb, hlt⟩
    exact ⟨_, rfl, made_N (Nat.le_refl _) hg (by omega) hr (fun k hk => hb.block k hk), hb⟩
def api_Value_43.f (l0 : List S24) : Option (List S24) := if l0.length ≤ 1000000 then some l0 else none
theorem api_Value_43.calls (A0 : Option Addr) (c0 : Nat) (l0 : List S24) (r : List S24) (w : World) (hr0 : Kd.C k24 w A0 l0.length l0) (hc0 : l0.length ≤ c0) (h : api_Value_43.f l0 = some r) :
    Calls Try.prog 43 #[.slice A0 l0.length c0] w fun e w' => ∃ v0_ : Value, e = .returned (v0_) ∧ Kd.R k24 24 w' w.heap.size (fun _ => True) v0_ r ∧ Below w.heap.size w w' := by
  unfold api_Value_43.f at h
  split at h
  case isFalse => simp at h
  case isTrue hm =>
    obtain rfl := Option.some.inj h
    obtain ⟨inner, hr, hc⟩ := inner_of hr0
    refine (copied24 A0 c0 l0.length inner w hr.1 hm hc (reps_one hr (by decide) (fun x c hx u hu => k24.K_one hx u hu))).mono ?_
    rintro e w' ⟨rfl, hg, hb, hlt⟩
    exact ⟨_, rfl, made_R (Nat.le_refl _) hg (by omega) hr (fun x c hx => by rw [k24_open hx]; exact k24_mkM _ _ _ x), hb⟩

/-- Where the first element is that p tells; -1 where there is none. -/
structure Idx (p : S40 → Bool) (xs : List S40) (k : Int) : Prop where
  has : (k = -1 ∧ ∀ j : Int, 0 ≤ j → j < xs.length → p (rd_T40 xs j) = false) ∨ (0 ≤ k ∧ k < xs.length ∧ p (rd_T40 xs k) = true ∧ ∀ j : Int, 0 ≤ j → j < k → p (rd_T40 xs j) = false)
def IdxPost (p : S40 → Bool) (xs : List S40) (w : World) (e : Ending) (w' : World) : Prop := ∃ k : Int, e = .returned (.int .i64 k) ∧ Idx p xs k ∧ Below w.heap.size w w'
/-- Is a place free? -/
def isFree (x : S40) : Bool := x.f0.toList == ([] : List UInt8)
/-- Is a place free, and are there words all the same? -/
def isOdd (x : S40) : Bool := if isFree x then decide ((x.f1.length : Int) > 0) else false
theorem free_any (x : S40) (A1 : Option Addr) (c1 : Nat) (w : World) (h : Kd.C k24 w A1 x.f1.length x.f1) (hc : x.f1.length ≤ c1) :
    Calls Try.prog 36 #[.agg #[.string x.f0, .slice A1 x.f1.length c1]] w fun e w' => e = .returned (.bool (isFree x)) ∧ Below w.heap.size w w' := heap_free.calls x.f0 A1 c1 x.f1 _ w h hc rfl
theorem odd_any (x : S40) (A1 : Option Addr) (c1 : Nat) (w : World) (h : Kd.C k24 w A1 x.f1.length x.f1) (hc : x.f1.length ≤ c1) :
    Calls Try.prog 39 #[.agg #[.string x.f0, .slice A1 x.f1.length c1]] w fun e w' => e = .returned (.bool (isOdd x)) ∧ Below w.heap.size w w' := by
  have hmx := h.2.1
  have HF := Lib.hid (fun w' (hb : Below w.heap.size w w') => free_any x A1 c1 w' (Kd.C_below h hb) hc)
  clear h
  have HB := Aside0.mk (below_alloc (Below.refl w.heap.size w) (.cells #[.string x.f0, .slice A1 x.f1.length c1] 40))
  have HBK := Aside0.mk (blk_new w (.cells #[.string x.f0, .slice A1 x.f1.length c1] 40))
  have HO := Aside0.mk (show isOdd x = (if isFree x then decide ((x.f1.length : Int) > 0) else false) from rfl)
  obtain ⟨b, hb⟩ : ∃ b, Aside0 (isFree x = b) := ⟨_, ⟨rfl⟩⟩
  rw [hb.out] at HF HO
  cases b
  · go_enter Try.func39, Try.ntmps39
    go_wp2_with fail
    refine (HF.out _ HB.out).mono ?_
    rintro e w1 ⟨rfl, hb1⟩
    have HB1 := Aside0.mk (below_then HB.out HB.out.size hb1)
    clear hb1
    go_wp2
    go_ret
    exact ⟨by rw [HO.out]; rfl, HB1.out⟩
  · go_enter Try.func39, Try.ntmps39
    go_wp2_with fail
    refine (HF.out _ HB.out).mono ?_
    rintro e w1 ⟨rfl, hb1⟩
    have HB1 := Aside0.mk (below_then HB.out HB.out.size hb1)
    have hc1 : w1.cell? ⟨w.heap.size, 1, none⟩ = some (.slice A1 x.f1.length c1) := (blk_cell (blk_below HBK.out hb1) 1).trans rfl
    clear hb1
    go_wp2
    go_ret
    exact ⟨by rw [HO.out]; simp, HB1.out⟩

/-- IndexFunc with the function 36: where the first element is that it tells; -1 where there is none. -/
theorem index36_any (p : S40 → Bool) (hp : ∀ (x : S40) (A1 : Option Addr) (c1 : Nat) (w : World), Kd.C k24 w A1 x.f1.length x.f1 → x.f1.length ≤ c1 → Calls Try.prog 36 #[.agg #[.string x.f0, .slice A1 x.f1.length c1]] w fun e w' => e = .returned (.bool (p x)) ∧ Below w.heap.size w w')
    (A0 : Option Addr) (c0 : Nat) (xs : List S40) (w : World) (hr : Kd.C k40 w A0 xs.length xs) (hc : xs.length ≤ c0) :
    Calls Try.prog 41 #[.slice A0 xs.length c0, .func (.func 36) #[] #[]] w fun e w' => IdxPost p xs w e w' := by
  have hmx := hr.2.1
  have HR := Aside0.mk hr
  have HP := Lib.hid hp
  clear hr hp
  go_enter Try.func41, Try.ntmps41
  go_wp2
  go_loopg [8] xs.length (fun kq v8 w' => ∃ j : Int, v8 = .int .i64 j ∧ 0 ≤ j ∧ Aside0 (j = xs.length - kq) ∧ Aside0 (∀ i : Int, 0 ≤ i → i < j → p (rd_T40 xs i) = false) ∧ Aside0 (Below w.heap.size w w'))
  case atStart => exact ⟨0, rfl, by omega, ⟨by omega⟩, ⟨fun i h1 h2 => by omega⟩, ⟨Below.refl _ _⟩⟩
  case round =>
    obtain ⟨j, rfl, h0, hk, HI, HB⟩ := hrel
    by_cases q1 : j < (xs.length : Int)
    · have q1b : decide (j < (xs.length : Int)) = true := decide_eq_true q1
      obtain ⟨ad, A1, c1, e5, hx0, hx1, hl1, hi1⟩ := at_T40 (Kd.C_below HR.out HB.out) j h0 q1
      cases e5
      have HC := Lib.hid (HP.out (rd_T40 xs j) A1 c1 wr hi1 hl1)
      clear hi1 hl1
      obtain ⟨b, hbb⟩ : ∃ b, Aside0 (p (rd_T40 xs j) = b) := ⟨_, ⟨rfl⟩⟩
      rw [hbb.out] at HC
      cases b
      · go_wp2_with fail
        refine HC.out.mono ?_
        rintro e w2 ⟨rfl, hb2⟩
        have HB2 := Aside0.mk (below_then HB.out HB.out.size hb2)
        clear hb2
        go_wp2
        go_roundg (gk - 1)
        case measure => have := hk.out; omega
        case rel => exact ⟨j + 1, by first | rfl | simp, by omega, ⟨by have := hk.out; omega⟩, ⟨fun i g1 g2 => by
          rcases Int.lt_or_le i j with h | h
          · exact HI.out i g1 h
          · obtain rfl : i = j := by omega
            exact hbb.out⟩, HB2⟩
      · go_wp2_with fail
        refine HC.out.mono ?_
        rintro e w2 ⟨rfl, hb2⟩
        go_wp2
        go_ret
        exact ⟨j, rfl, ⟨.inr ⟨h0, q1, hbb.out, HI.out⟩⟩, below_then HB.out HB.out.size hb2⟩
    · have q1b : decide (j < (xs.length : Int)) = false := decide_eq_false q1
      go_wp2
      go_ret
      exact ⟨-1, rfl, ⟨.inl ⟨rfl, fun i g1 g2 => HI.out i g1 (by omega)⟩⟩, HB.out⟩

/-- IndexFunc with the function 39: where the first element is that it tells; -1 where there is none. -/
theorem index39_any (p : S40 → Bool) (hp : ∀ (x : S40) (A1 : Option Addr) (c1 : Nat) (w : World), Kd.C k24 w A1 x.f1.length x.f1 → x.f1.length ≤ c1 → Calls Try.prog 39 #[.agg #[.string x.f0, .slice A1 x.f1.length c1]] w fun e w' => e = .returned (.bool (p x)) ∧ Below w.heap.size w w')
    (A0 : Option Addr) (c0 : Nat) (xs : List S40) (w : World) (hr : Kd.C k40 w A0 xs.length xs) (hc : xs.length ≤ c0) :
    Calls Try.prog 41 #[.slice A0 xs.length c0, .func (.func 39) #[] #[]] w fun e w' => IdxPost p xs w e w' := by
  have hmx := hr.2.1
  have HR := Aside0.mk hr
  have HP := Lib.hid hp
  clear hr hp
  go_enter Try.func41, Try.ntmps41
  go_wp2
  go_loopg [8] xs.length (fun kq v8 w' => ∃ j : Int, v8 = .int .i64 j ∧ 0 ≤ j ∧ Aside0 (j = xs.length - kq) ∧ Aside0 (∀ i : Int, 0 ≤ i → i < j → p (rd_T40 xs i) = false) ∧ Aside0 (Below w.heap.size w w'))
  case atStart => exact ⟨0, rfl, by omega, ⟨by omega⟩, ⟨fun i h1 h2 => by omega⟩, ⟨Below.refl _ _⟩⟩
  case round =>
    obtain ⟨j, rfl, h0, hk, HI, HB⟩ := hrel
    by_cases q1 : j < (xs.length : Int)
    · have q1b : decide (j < (xs.length : Int)) = true := decide_eq_true q1
      obtain ⟨ad, A1, c1, e5, hx0, hx1, hl1, hi1⟩ := at_T40 (Kd.C_below HR.out HB.out) j h0 q1
      cases e5
      have HC := Lib.hid (HP.out (rd_T40 xs j) A1 c1 wr hi1 hl1)
      clear hi1 hl1
      obtain ⟨b, hbb⟩ : ∃ b, Aside0 (p (rd_T40 xs j) = b) := ⟨_, ⟨rfl⟩⟩
      rw [hbb.out] at HC
      cases b
      · go_wp2_with fail
        refine HC.out.mono ?_
        rintro e w2 ⟨rfl, hb2⟩
        have HB2 := Aside0.mk (below_then HB.out HB.out.size hb2)
        clear hb2
        go_wp2
        go_roundg (gk - 1)
        case measure => have := hk.out; omega
        case rel => exact ⟨j + 1, by first | rfl | simp, by omega, ⟨by have := hk.out; omega⟩, ⟨fun i g1 g2 => by
          rcases Int.lt_or_le i j with h | h
          · exact HI.out i g1 h
          · obtain rfl : i = j := by omega
            exact hbb.out⟩, HB2⟩
      · go_wp2_with fail
        refine HC.out.mono ?_
        rintro e w2 ⟨rfl, hb2⟩
        go_wp2
        go_ret
        exact ⟨j, rfl, ⟨.inr ⟨h0, q1, hbb.out, HI.out⟩⟩, below_then HB.out HB.out.size hb2⟩
    · have q1b : decide (j < (xs.length : Int)) = false := decide_eq_false q1
      go_wp2
      go_ret
      exact ⟨-1, rfl, ⟨.inl ⟨rfl, fun i g1 g2 => HI.out i g1 (by omega)⟩⟩, HB.out⟩

theorem contains_any (A0 : Option Addr) (c0 : Nat) (xs : List S40) (w : World) (hr : Kd.C k40 w A0 xs.length xs) (hc : xs.length ≤ c0) :
    Calls Try.prog 40 #[.slice A0 xs.length c0, .func (.func 39) #[] #[]] w fun e w' => e = .returned (.bool (xs.any isOdd)) ∧ Below w.heap.size w w' := by
  have HI := Lib.hid (index39_any isOdd odd_any A0 c0 xs w hr hc)
  clear hr hc
  go_enter Try.func40, Try.ntmps40
  go_wp2_with fail
  refine HI.out.mono ?_
  rintro e w1 ⟨k, rfl, hk, hb⟩
  have HK := Aside0.mk hk
  clear hk
  go_wp2
  go_ret
  refine ⟨?_, hb⟩
  congr 2
  rcases HK.out.has with ⟨rfl, h⟩ | ⟨h0, h1, h2, _⟩
  · have : xs.any isOdd = false := by
      rw [List.any_eq_false]
      intro x hx
      obtain ⟨i, hi, rfl⟩ := List.mem_iff_getElem.1 hx
      have := h i (by omega) (by omega)
      simp only [rd_T40, Int.toNat_natCast, List.getD_eq_getElem?_getD, List.getElem?_eq_getElem hi, Option.getD_some] at this
      simp [this]
    rw [this]; simp
  · have : xs.any isOdd = true := by
      rw [List.any_eq_true]
      refine ⟨_, List.getElem_mem (show k.toNat < xs.length by omega), ?_⟩
      have hi : k.toNat < xs.length := by omega
      simpa only [rd_T40, List.getD_eq_getElem?_getD, List.getElem?_eq_getElem hi, Option.getD_some] using h2
    rw [this]; simp [h0]
end Go.Proofs.Yticpjpacoeecmaa.A.P
