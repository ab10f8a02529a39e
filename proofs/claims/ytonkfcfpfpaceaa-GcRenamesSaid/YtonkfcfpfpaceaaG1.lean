/- gc: heap.Check over the objects of this seat. -/
import Derived.Test.YtonkfcfpfpaceaaAx13
import Derived.Lib.Hide
namespace Go.Proofs.Ytonkfcfpfpaceaa.A.P
open Go.RowKit Go.Proofs.YtonkfcfpfpaceaaW.PrintWords Go.Proofs.YtonkfcfpfpaceaaW.PrintLast Go.Proofs.YtonkfcfpfpaceaaW.PrintMore
set_option linter.unusedVariables false
set_option linter.unusedSimpArgs false
/-- Where the first element is that p tells; -1 where there is none. -/
structure Idx (p : S37 → Bool) (xs : List S37) (k : Int) : Prop where
  has : (k = -1 ∧ ∀ j : Int, 0 ≤ j → j < xs.length → p (rd_T37 xs j) = false) ∨ (0 ≤ k ∧ k < xs.length ∧ p (rd_T37 xs k) = true ∧ ∀ j : Int, 0 ≤ j → j < k → p (rd_T37 xs j) = false)
def IdxPost (p : S37 → Bool) (xs : List S37) (w : World) (e : Ending) (w' : World) : Prop := ∃ k : Int, e = .returned (.int .i64 k) ∧ Idx p xs k ∧ Below w.heap.size w w'
/-- Is a place free? -/
def isFree (x : S37) : Bool := x.f0.toList == ([] : List UInt8)
/-- Is a place free, and are there words all the same? -/
def isOdd (x : S37) : Bool := if isFree x then decide ((x.f1.length : Int) > 0) else false
theorem free_any (x : S37) (A1 : Option Addr) (c1 : Nat) (w : World) (h : Kd.C k41 w A1 x.f1.length x.f1) (hc : x.f1.length ≤ c1) :
    Calls Try.prog 43 #[.agg #[.string x.f0, .slice A1 x.f1.length c1]] w fun e w' => e = .returned (.bool (isFree x)) ∧ Below w.heap.size w w' := heap_free.calls x.f0 A1 c1 x.f1 _ w h hc rfl
theorem odd_any (x : S37) (A1 : Option Addr) (c1 : Nat) (w : World) (h : Kd.C k41 w A1 x.f1.length x.f1) (hc : x.f1.length ≤ c1) :
    Calls Try.prog 45 #[.agg #[.string x.f0, .slice A1 x.f1.length c1]] w fun e w' => e = .returned (.bool (isOdd x)) ∧ Below w.heap.size w w' := by
  have hmx := h.2.1
  have HF := Lib.hid (fun w' (hb : Below w.heap.size w w') => free_any x A1 c1 w' (Kd.C_below h hb) hc)
  clear h
  have HB := Aside0.mk (below_alloc (Below.refl w.heap.size w) (.cells #[.string x.f0, .slice A1 x.f1.length c1] 37))
  have HBK := Aside0.mk (blk_new w (.cells #[.string x.f0, .slice A1 x.f1.length c1] 37))
  have HO := Aside0.mk (show isOdd x = (if isFree x then decide ((x.f1.length : Int) > 0) else false) from rfl)
  obtain ⟨b, hb⟩ : ∃ b, Aside0 (isFree x = b) := ⟨_, ⟨rfl⟩⟩
  rw [hb.out] at HF HO
  cases b
  · go_enter Try.func45, Try.ntmps45
    go_wp2_with fail
    refine (HF.out _ HB.out).mono ?_
    rintro e w1 ⟨rfl, hb1⟩
    have HB1 := Aside0.mk (below_then HB.out HB.out.size hb1)
    clear hb1
    go_wp2
    go_ret
    exact ⟨by rw [HO.out]; rfl, HB1.out⟩
  · go_enter Try.func45, Try.ntmps45
    go_wp2_with fail
    refine (HF.out _ HB.out).mono ?_
    rintro e w1 ⟨rfl, hb1⟩
    have HB1 := Aside0.mk (below_then HB.out HB.out.size hb1)
    have hc1 : w1.cell? ⟨w.heap.size, 1, none⟩ = some (.slice A1 x.f1.length c1) := (blk_cell (blk_below HBK.out hb1) 1).trans rfl
    clear hb1
    go_wp2
    go_ret
    exact ⟨by rw [HO.out]; simp, HB1.out⟩

/-- IndexFunc with the function 45: where the first element is that it tells; -1 where there is none. -/
theorem index45_any (p : S37 → Bool) (hp : ∀ (x : S37) (A1 : Option Addr) (c1 : Nat) (w : World), Kd.C k41 w A1 x.f1.length x.f1 → x.f1.length ≤ c1 → Calls Try.prog 45 #[.agg #[.string x.f0, .slice A1 x.f1.length c1]] w fun e w' => e = .returned (.bool (p x)) ∧ Below w.heap.size w w')
    (A0 : Option Addr) (c0 : Nat) (xs : List S37) (w : World) (hr : Kd.C k37 w A0 xs.length xs) (hc : xs.length ≤ c0) :
    Calls Try.prog 49 #[.slice A0 xs.length c0, .func (.func 45) #[] #[]] w fun e w' => IdxPost p xs w e w' := by
  have hmx := hr.2.1
  have HR := Aside0.mk hr
  have HP := Lib.hid hp
  clear hr hp
  go_enter Try.func49, Try.ntmps49
  go_wp2
  go_loopg [8] xs.length (fun kq v8 w' => ∃ j : Int, v8 = .int .i64 j ∧ 0 ≤ j ∧ Aside0 (j = xs.length - kq) ∧ Aside0 (∀ i : Int, 0 ≤ i → i < j → p (rd_T37 xs i) = false) ∧ Aside0 (Below w.heap.size w w'))
  case atStart => exact ⟨0, rfl, by omega, ⟨by omega⟩, ⟨fun i h1 h2 => by omega⟩, ⟨Below.refl _ _⟩⟩
  case round =>
    obtain ⟨j, rfl, h0, hk, HI, HB⟩ := hrel
    by_cases q1 : j < (xs.length : Int)
    · have q1b : decide (j < (xs.length : Int)) = true := decide_eq_true q1
      obtain ⟨ad, A1, c1, e5, hx0, hx1, hl1, hi1⟩ := at_T37 (Kd.C_below HR.out HB.out) j h0 q1
      cases e5
      have HC := Lib.hid (HP.out (rd_T37 xs j) A1 c1 wr hi1 hl1)
      clear hi1 hl1
      obtain ⟨b, hbb⟩ : ∃ b, Aside0 (p (rd_T37 xs j) = b) := ⟨_, ⟨rfl⟩⟩
      rw [hbb.out] at HC
      cases b
      · go_wp2_with fail
        refine HC.out.mono ?_
        rintro e w2 ⟨rfl, hb2⟩
        have HB2 := Aside0.mk (below_then HB.out HB.out.size hb2)
        clear hb2
        go_wp2
        go_roundg (gk - 1)
        case measure => have := hk.out; omega
        case rel => exact ⟨j + 1, by first | rfl | simp, by omega, ⟨by have := hk.out; omega⟩, ⟨fun i g1 g2 => by
          rcases Int.lt_or_le i j with h | h
          · exact HI.out i g1 h
          · obtain rfl : i = j := by omega
            exact hbb.out⟩, HB2⟩
      · go_wp2_with fail
        refine HC.out.mono ?_
        rintro e w2 ⟨rfl, hb2⟩
        go_wp2
        go_ret
        exact ⟨j, rfl, ⟨.inr ⟨h0, q1, hbb.out, HI.out⟩⟩, below_then HB.out HB.out.size hb2⟩
    · have q1b : decide (j < (xs.length : Int)) = false := decide_eq_false q1
      go_wp2
      go_ret
      exact ⟨-1, rfl, ⟨.inl ⟨rfl, fun i g1 g2 => HI.out i g1 (by omega)⟩⟩, HB.out⟩

theorem contains_any (A0 : Option Addr) (c0 : Nat) (xs : List S37) (w : World) (hr : Kd.C k37 w A0 xs.length xs) (hc : xs.length ≤ c0) :
    Calls Try.prog 47 #[.slice A0 xs.length c0, .func (.func 45) #[] #[]] w fun e w' => e = .returned (.bool (xs.any isOdd)) ∧ Below w.heap.size w w' := by
  have HI := Lib.hid (index45_any isOdd odd_any A0 c0 xs w hr hc)
  clear hr hc
  go_enter Try.func47, Try.ntmps47
  go_wp2_with fail
  refine HI.out.mono ?_
  rintro e w1 ⟨k, rfl, hk, hb⟩
  have HK := Aside0.mk hk
  clear hk
  go_wp2
  go_ret
  refine ⟨?_, hb⟩
  congr 2
  rcases HK.out.has with ⟨rfl, h⟩ | ⟨h0, h1, h2, _⟩
  · have : xs.any isOdd = false := by
      rw [List.any_eq_false]
      intro x hx
      obtain ⟨i, hi, rfl⟩ := List.mem_iff_getElem.1 hx
      have := h i (by omega) (by omega)
      simp only [rd_T37, Int.toNat_natCast, List.getD_eq_getElem?_getD, List.getElem?_eq_getElem hi, Option.getD_some] at this
      simp [this]
    rw [this]; simp
  · have : xs.any isOdd = true := by
      rw [List.any_eq_true]
      refine ⟨_, List.getElem_mem (show k.toNat < xs.length by omega), ?_⟩
      have hi : k.toNat < xs.length := by omega
      simpa only [rd_T37, List.getD_eq_getElem?_getD, List.getElem?_eq_getElem hi, Option.getD_some] using h2
    rw [this]; simp [h0]
def heap_Check.f (l0 : List S37) : Option Int :=
  if 4096 < l0.length then some 150 else (heap_Words.f (l0.length + 1) l0).bind fun n => if 65536 < n then some 150 else if l0.length = 0 then some 0 else if isFree (rd_T37 l0 ((l0.length : Int) - 1)) = true then some 150 else if l0.any isOdd = true then some 150 else some 0
theorem heap_Check.calls (A0 : Option Addr) (c0 : Nat) (l0 : List S37) (r : Int) (w : World) (hr0 : Kd.C k37 w A0 l0.length l0) (hc0 : l0.length ≤ c0) (h : heap_Check.f l0 = some r) :
    Calls Try.prog 40 #[.slice A0 l0.length c0] w fun e w' => e = .returned (.int .i64 r) ∧ Below w.heap.size w w' := by
  have hmx := hr0.2.1
  have HR := Aside0.mk hr0
  have HW := Lib.hid (fun n (hn : heap_Words.f (l0.length + 1) l0 = some n) => heap_Words.calls (l0.length + 1) A0 c0 l0 n)
  have HX := Lib.hid (fun w' (hb : Below w.heap.size w w') => contains_any A0 c0 l0 w' (Kd.C_below hr0 hb) hc0)
  unfold heap_Check.f at h
  clear hr0
  by_cases c1 : 4096 < l0.length
  · rw [if_pos c1] at h
    obtain rfl := Option.some.inj h
    have d1 : decide ((4096 : Int) < (l0.length : Int)) = true := decide_eq_true (by omega)
    go_enter Try.func40, Try.ntmps40
    go_wp2_with fail
    go_ret
    exact ⟨rfl, by repeat (first | exact Below.refl _ _ | apply pw_below_drewN | apply below_drew)⟩
  · rw [if_neg c1] at h
    have d1 : decide ((4096 : Int) < (l0.length : Int)) = false := decide_eq_false (by omega)
    obtain ⟨n, hn, h⟩ := Option.bind_eq_some_iff.1 h
    have HN := Lib.hid (fun w' (hb : Below w.heap.size w w') => heap_Words.calls (l0.length + 1) A0 c0 l0 n w' (Kd.C_below HR.out hb) hc0 hn)
    clear hn HW
    by_cases c2 : 65536 < n
    · rw [if_pos c2] at h
      obtain rfl := Option.some.inj h
      have d2 : decide ((65536 : Int) < n) = true := decide_eq_true c2
      go_enter Try.func40, Try.ntmps40
      go_wp2_with fail
      refine (HN.out _ (Below.refl _ _)).mono ?_
      rintro e w1 ⟨rfl, hb⟩
      go_wp2
      go_ret
      exact ⟨rfl, by first | exact hb | exact hb.below⟩
    · rw [if_neg c2] at h
      have d2 : decide ((65536 : Int) < n) = false := decide_eq_false c2
      by_cases c3 : l0.length = 0
      · rw [if_pos c3] at h
        obtain rfl := Option.some.inj h
        have HE := Aside0.mk (show l0.any isOdd = false by rw [List.eq_nil_of_length_eq_zero c3]; rfl)
        rw [HE.out] at HX
        have d3 : decide ((0 : Int) < (l0.length : Int)) = false := decide_eq_false (by omega)
        have d4 : decide (0 < l0.length) = false := decide_eq_false (by omega)
        clear c3
        go_enter Try.func40, Try.ntmps40
        go_wp2_with fail
        refine (HN.out _ (Below.refl _ _)).mono ?_
        rintro e w1 ⟨rfl, hb⟩
        have HB := Aside0.mk (show Below w.heap.size w w1 by first | exact hb | exact hb.below)
        clear hb
        go_wp2_with fail
        refine (HX.out _ HB.out).mono ?_
        rintro e w2 ⟨rfl, hb⟩
        have HB2 := Aside0.mk (below_then HB.out HB.out.size hb)
        clear hb
        go_wp2
        go_ret
        exact ⟨rfl, HB2.out⟩
      · rw [if_neg c3] at h
        have d3 : decide ((0 : Int) < (l0.length : Int)) = true := decide_eq_true (by omega)
        have d4 : decide (0 < l0.length) = true := decide_eq_true (by omega)
        have hj0 : 0 ≤ (l0.length : Int) - 1 := by omega
        have hj1 : (l0.length : Int) - 1 < l0.length := by omega
        obtain ⟨j, hj⟩ : ∃ j : Int, Aside0 ((l0.length : Int) - 1 = j) := ⟨_, ⟨rfl⟩⟩
        have hwr : IntKind.i64.wrap ((l0.length : Int) - 1) = j := by rw [IntKind.wrap_i64]; rw [← hj.out]; omega
        have HF := Lib.hid (fun w' (hb : Below w.heap.size w w') => at_T37 (Kd.C_below HR.out hb) ((l0.length : Int) - 1) hj0 hj1)
        rw [hj.out] at hj0 hj1 h HF
        obtain ⟨b, hbb⟩ : ∃ b, Aside0 (isFree (rd_T37 l0 j) = b) := ⟨_, ⟨rfl⟩⟩
        rw [hbb.out] at h
        clear c3
        go_enter Try.func40, Try.ntmps40
        go_wp2_with fail
        refine (HN.out _ (Below.refl _ _)).mono ?_
        rintro e w1 ⟨rfl, hb⟩
        have HB := Aside0.mk (show Below w.heap.size w w1 by first | exact hb | exact hb.below)
        clear hb
        obtain ⟨ad, A1, c1', e5, hx0, hx1, hl1, hi1⟩ := HF.out _ HB.out
        cases e5
        have HC := Lib.hid (free_any (rd_T37 l0 j) A1 c1' w1 hi1 hl1)
        rw [hbb.out] at HC
        clear hi1 hl1
        go_wp2_with fail
        refine HC.out.mono ?_
        rintro e w2 ⟨rfl, hb⟩
        have HB2 := Aside0.mk (below_then HB.out HB.out.size hb)
        clear hb
        cases b
        · rw [if_neg (by decide)] at h
          obtain ⟨b2, hb2⟩ : ∃ b2, Aside0 (l0.any isOdd = b2) := ⟨_, ⟨rfl⟩⟩
          rw [hb2.out] at h HX
          go_wp2_with fail
          refine (HX.out _ HB2.out).mono ?_
          rintro e w3 ⟨rfl, hb⟩
          have HB3 := Aside0.mk (below_then HB2.out HB2.out.size hb)
          clear hb
          cases b2
          · rw [if_neg (by decide)] at h
            obtain rfl := Option.some.inj h
            go_wp2
            go_ret
            exact ⟨rfl, HB3.out⟩
          · rw [if_pos rfl] at h
            obtain rfl := Option.some.inj h
            go_wp2
            go_ret
            exact ⟨rfl, HB3.out⟩
        · rw [if_pos rfl] at h
          obtain rfl := Option.some.inj h
          go_wp2
          go_ret
          exact ⟨rfl, HB2.out⟩
end Go.Proofs.Ytonkfcfpfpaceaa.A.P
