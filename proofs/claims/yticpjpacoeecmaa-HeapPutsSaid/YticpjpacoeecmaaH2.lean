/- heap.Check: what a call comes to. -/
import Derived.Test.YticpjpacoeecmaaH1
namespace Go.Proofs.Yticpjpacoeecmaa.A.P
open Go.RowKit Go.Proofs.YticpjpacoeecmaaW.PrintWords Go.Proofs.YticpjpacoeecmaaW.PrintLast Go.Proofs.YticpjpacoeecmaaW.PrintMore Go.Proofs.Yticpjpacoeecmaa.C
set_option linter.unusedVariables false
set_option linter.unusedSimpArgs false
def heap_Check.f (l0 : List S40) : Option Int :=
  if 4096 < l0.length then some 150 else (heap_Words.f (l0.length + 1) l0).bind fun n => if 65536 < n then some 150 else if l0.length = 0 then some 0 else if isFree (rd_T40 l0 ((l0.length : Int) - 1)) = true then some 150 else if l0.any isOdd = true then some 150 else some 0
theorem heap_Check.calls (A0 : Option Addr) (c0 : Nat) (l0 : List S40) (r : Int) (w : World) (hr0 : Kd.C k40 w A0 l0.length l0) (hc0 : l0.length ≤ c0) (h : heap_Check.f l0 = some r) :
    Calls Try.prog 18 #[.slice A0 l0.length c0] w fun e w' => e = .returned (.int .i64 r) ∧ Below w.heap.size w w' := by
  have hmx := hr0.2.1
  have HR := Aside0.mk hr0
  have HW := Lib.hid (fun n (hn : heap_Words.f (l0.length + 1) l0 = some n) => heap_Words.calls (l0.length + 1) A0 c0 l0 n)
  have HX := Lib.hid (fun w' (hb : Below w.heap.size w w') => contains_any A0 c0 l0 w' (Kd.C_below hr0 hb) hc0)
  unfold heap_Check.f at h
  clear hr0
  by_cases c1 : 4096 < l0.length
  · rw [if_pos c1] at h
    obtain rfl := Option.some.inj h
    have d1 : decide ((4096 : Int) < (l0.length : Int)) = true := decide_eq_true (by omega)
    go_enter Try.func18, Try.ntmps18
    go_wp2_with fail
    go_ret
    exact ⟨rfl, by repeat (first | exact Below.refl _ _ | apply pw_below_drewN | apply below_drew)⟩
  · rw [if_neg c1] at h
    have d1 : decide ((4096 : Int) < (l0.length : Int)) = false := decide_eq_false (by omega)
    obtain ⟨n, hn, h⟩ := Option.bind_eq_some_iff.1 h
    have HN := Lib.hid (fun w' (hb : Below w.heap.size w w') => heap_Words.calls (l0.length + 1) A0 c0 l0 n w' (Kd.C_below HR.out hb) hc0 hn)
    clear hn HW
    by_cases c2 : 65536 < n
    · rw [if_pos c2] at h
      obtain rfl := Option.some.inj h
      have d2 : decide ((65536 : Int) < n) = true := decide_eq_true c2
      go_enter Try.func18, Try.ntmps18
      go_wp2_with fail
      refine (HN.out _ (Below.refl _ _)).mono ?_
      rintro e w1 ⟨rfl, hb⟩
      go_wp2
      go_ret
      exact ⟨rfl, by first | exact hb | exact hb.below⟩
    · rw [if_neg c2] at h
      have d2 : decide ((65536 : Int) < n) = false := decide_eq_false c2
      by_cases c3 : l0.length = 0
      · rw [if_pos c3] at h
        obtain rfl := Option.some.inj h
        have HE := Aside0.mk (show l0.any isOdd = false by rw [List.eq_nil_of_length_eq_zero c3]; rfl)
        rw [HE.out] at HX
        have d3 : decide ((0 : Int) < (l0.length : Int)) = false := decide_eq_false (by omega)
        have d4 : decide (0 < l0.length) = false := decide_eq_false (by omega)
        clear c3
        go_enter Try.func18, Try.ntmps18
        go_wp2_with fail
        refine (HN.out _ (Below.refl _ _)).mono ?_
        rintro e w1 ⟨rfl, hb⟩
        have HB := Aside0.mk (show Below w.heap.size w w1 by first | exact hb | exact hb.below)
        clear hb
        go_wp2_with fail
        refine (HX.out _ HB.out).mono ?_
        rintro e w2 ⟨rfl, hb⟩
        have HB2 := Aside0.mk (below_then HB.out HB.out.size hb)
        clear hb
        go_wp2
        go_ret
        exact ⟨rfl, HB2.out⟩
      · rw [if_neg c3] at h
        have d3 : decide ((0 : Int) < (l0.length : Int)) = true := decide_eq_true (by omega)
        have d4 : decide (0 < l0.length) = true := decide_eq_true (by omega)
        have hj0 : 0 ≤ (l0.length : Int) - 1 := by omega
        have hj1 : (l0.length : Int) - 1 < l0.length := by omega
        obtain ⟨j, hj⟩ : ∃ j : Int, Aside0 ((l0.length : Int) - 1 = j) := ⟨_, ⟨rfl⟩⟩
        have hwr : IntKind.i64.wrap ((l0.length : Int) - 1) = j := by rw [IntKind.wrap_i64]; rw [← hj.out]; omega
        have HF := Lib.hid (fun w' (hb : Below w.heap.size w w') => at_T40 (Kd.C_below HR.out hb) ((l0.length : Int) - 1) hj0 hj1)
        rw [hj.out] at hj0 hj1 h HF
        obtain ⟨b, hbb⟩ : ∃ b, Aside0 (isFree (rd_T40 l0 j) = b) := ⟨_, ⟨rfl⟩⟩
        rw [hbb.out] at h
        clear c3
        go_enter Try.func18, Try.ntmps18
        go_wp2_with fail
        refine (HN.out _ (Below.refl _ _)).mono ?_
        rintro e w1 ⟨rfl, hb⟩
        have HB := Aside0.mk (show Below w.heap.size w w1 by first | exact hb | exact hb.below)
        clear hb
        obtain ⟨ad, A1, c1', e5, hx0, hx1, hl1, hi1⟩ := HF.out _ HB.out
        cases e5
        have HC := Lib.hid (free_any (rd_T40 l0 j) A1 c1' w1 hi1 hl1)
        rw [hbb.out] at HC
        clear hi1 hl1
        go_wp2_with fail
        refine HC.out.mono ?_
        rintro e w2 ⟨rfl, hb⟩
        have HB2 := Aside0.mk (below_then HB.out HB.out.size hb)
        clear hb
        cases b
        · rw [if_neg (by decide)] at h
          obtain ⟨b2, hb2⟩ : ∃ b2, Aside0 (l0.any isOdd = b2) := ⟨_, ⟨rfl⟩⟩
          rw [hb2.out] at h HX
          go_wp2_with fail
          refine (HX.out _ HB2.out).mono ?_
          rintro e w3 ⟨rfl, hb⟩
          have HB3 := Aside0.mk (below_then HB2.out HB2.out.size hb)
          clear hb
          cases b2
          · rw [if_neg (by decide)] at h
            obtain rfl := Option.some.inj h
            go_wp2
            go_ret
            exact ⟨rfl, HB3.out⟩
          · rw [if_pos rfl] at h
            obtain rfl := Option.some.inj h
            go_wp2
            go_ret
            exact ⟨rfl, HB3.out⟩
        · rw [if_pos rfl] at h
          obtain rfl := Option.some.inj h
          go_wp2
          go_ret
          exact ⟨rfl, HB2.out⟩
/-- Where the first element is that p tells; -1 where there is none. -/
def idxI (p : S40 → Bool) (xs : List S40) : Int := match xs.findIdx? p with | some i => (i : Int) | none => -1
theorem rd_at (xs : List S40) (i : Nat) (hi : i < xs.length) : rd_T40 xs (i : Int) = xs[i] := by
  simp only [rd_T40, Int.toNat_natCast, List.getD_eq_getElem?_getD, List.getElem?_eq_getElem hi, Option.getD_some]
theorem Idx.eq {p : S40 → Bool} {xs : List S40} {k : Int} (h : Idx p xs k) : k = idxI p xs := by
  unfold idxI
  rcases h.has with ⟨rfl, hh⟩ | ⟨h0, h1, h2, h3⟩
  · have : xs.findIdx? p = none := by
      rw [List.findIdx?_eq_none_iff]
      intro x hx
      obtain ⟨i, hi, rfl⟩ := List.mem_iff_getElem.1 hx
      have := hh i (by omega) (by omega)
      rwa [rd_at xs i hi] at this
    rw [this]
  · obtain ⟨i, rfl⟩ := Int.eq_ofNat_of_zero_le h0
    have hi : i < xs.length := by omega
    have : xs.findIdx? p = some i := by
      rw [List.findIdx?_eq_some_iff_getElem]
      refine ⟨hi, by rwa [rd_at xs i hi] at h2, fun j hj => ?_⟩
      have := h3 j (by omega) (by omega)
      rw [rd_at xs j (by omega)] at this
      simp [this]
    rw [this]
def api_Object_41.f (l0 : List S40) (a1 : Int) : Option Int := if a1 = 7777036 then some (idxI isFree l0) else none
theorem api_Object_41.calls (A0 : Option Addr) (c0 : Nat) (l0 : List S40) (a1 : Int) (r : Int) (w : World) (hr0 : Kd.C k40 w A0 l0.length l0) (hc0 : l0.length ≤ c0) (h : api_Object_41.f l0 a1 = some r) :
    Calls Try.prog 41 #[.slice A0 l0.length c0, .func (.func 36) #[] #[]] w fun e w' => e = .returned (.int .i64 r) ∧ Below w.heap.size w w' := by
  unfold api_Object_41.f at h
  split at h
  case isFalse => simp at h
  case isTrue =>
    obtain rfl := Option.some.inj h
    refine (index36_any isFree free_any A0 c0 l0 w hr0 hc0).mono ?_
    rintro e w' ⟨k, rfl, hk, hb⟩
    exact ⟨by rw [hk.eq], hb⟩
end Go.Proofs.Yticpjpacoeecmaa.A.P
