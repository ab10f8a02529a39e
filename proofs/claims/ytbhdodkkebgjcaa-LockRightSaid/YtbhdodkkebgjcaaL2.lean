/- The library's binary search over monitors, and 'look'. -/
import Derived.Test.YtbhdodkkebgjcaaL1
namespace Go.Proofs.Ytbhdodkkebgjcaa.A.P
open Go.RowKit Go.Proofs.YtbhdodkkebgjcaaW.PrintWords Go.Proofs.YtbhdodkkebgjcaaW.PrintLast Go.Proofs.YtbhdodkkebgjcaaW.PrintMore
set_option linter.unusedSimpArgs false
set_option linter.unusedVariables false
/-- The list's objects rise. -/
def Rise (xs : List S38) : Prop := ∀ a b : Int, 0 ≤ a → a < b → b < xs.length → (rd_T38 xs a).f0 < (rd_T38 xs b).f0
/-- What the search finds: the place where the key belongs. -/
structure Found (xs : List S38) (key i : Int) : Prop where
  lo : 0 ≤ i
  hi : i ≤ xs.length
  below : ∀ j : Int, 0 ≤ j → j < i → (rd_T38 xs j).f0 < key
  above : ∀ j : Int, i ≤ j → j < xs.length → key ≤ (rd_T38 xs j).f0
def SearchPost (xs : List S38) (key : Int) (w : World) (e : Ending) (w' : World) : Prop :=
  ∃ (i : Int) (b : Bool), e = .returned (.tuple #[.int .i64 i, .bool b]) ∧ (b = true ↔ i < xs.length ∧ (rd_T38 xs i).f0 = key) ∧ Found xs key i ∧ Below w.heap.size w w'
set_option maxHeartbeats 8000000 in
set_option maxRecDepth 100000 in
theorem search_any (A0 : Option Addr) (c0 : Nat) (xs : List S38) (key : Int) (bx : Nat) (w : World) (hr : Kd.C k38 w A0 xs.length xs) (hc : xs.length ≤ c0) (hb : w.heap[bx]? = some (.cells #[.func (.func 28) #[] #[]] 51 (0, 0))) (hn : xs.length ≤ 5864062014700) (hs : Rise xs) :
    Calls Try.prog 31 #[.slice A0 xs.length c0, .int .i64 key, .func (.func 32) #[] #[.pointer (some ⟨bx, 0, none⟩)]] w fun e w' => SearchPost xs key w e w' := by
  have HR := Aside0.mk hr
  have HBX := Aside0.mk hb
  have HS := Aside0.mk hs
  clear hr hb hs
  go_enter Try.func31, Try.ntmps31
  go_wp2
  go_loopg [9, 10] xs.length (fun kq v9 v10 w' => ∃ (lo hi : Int), v9 = .int .i64 lo ∧ v10 = .int .i64 hi ∧ 0 ≤ lo ∧ lo ≤ hi ∧ hi ≤ xs.length ∧ Aside0 (hi - lo ≤ kq) ∧ Aside0 ((∀ j : Int, 0 ≤ j → j < lo → (rd_T38 xs j).f0 < key) ∧ (∀ j : Int, hi ≤ j → j < xs.length → key ≤ (rd_T38 xs j).f0)) ∧ Aside0 (Below w.heap.size w w'))
  case atStart => exact ⟨0, xs.length, rfl, rfl, by omega, by omega, by omega, ⟨by omega⟩, ⟨fun j h1 h2 => by omega, fun j h1 h2 => by omega⟩, ⟨Below.refl _ _⟩⟩
  case round =>
    obtain ⟨lo, hi, rfl, rfl, h0, h1, h2, hk, HI, HB⟩ := hrel
    by_cases q1 : lo < hi
    · have q1b : decide (lo < hi) = true := decide_eq_true q1
      have hm0 : 0 ≤ (lo + hi) / 2 := by omega
      have hm1 : (lo + hi) / 2 < xs.length := by omega
      have hmm := Aside0.mk (show lo ≤ (lo + hi) / 2 ∧ (lo + hi) / 2 < hi by omega)
      obtain ⟨ad, e5, hx0, hx1, hx2⟩ := at_T38 (Kd.C_below HR.out HB.out) ((lo + hi) / 2) hm0 hm1
      cases e5
      have HC := Lib.hid (cmp_any (rd_T38 xs ((lo + hi) / 2)).f0 (rd_T38 xs ((lo + hi) / 2)).f1 (rd_T38 xs ((lo + hi) / 2)).f2 key bx wr (blk_below HBX.out HB.out))
      have hcase : ((rd_T38 xs ((lo + hi) / 2)).f0 < key ∧ cmpI (rd_T38 xs ((lo + hi) / 2)).f0 key < 0) ∨ (key ≤ (rd_T38 xs ((lo + hi) / 2)).f0 ∧ 0 ≤ cmpI (rd_T38 xs ((lo + hi) / 2)).f0 key) := by
        unfold cmpI
        rcases Int.lt_or_le (rd_T38 xs ((lo + hi) / 2)).f0 key with h | h
        · exact .inl ⟨h, by rw [if_pos h]; decide⟩
        · exact .inr ⟨h, by rw [if_neg (by omega)]; split <;> omega⟩
      have HCS := Aside0.mk hcase
      clear hcase
      obtain ⟨y0, hy0⟩ : ∃ y0, Aside0 ((rd_T38 xs ((lo + hi) / 2)).f0 = y0) := ⟨_, ⟨rfl⟩⟩
      rw [hy0.out] at HC HCS hx0
      obtain ⟨r, hr⟩ : ∃ r, Aside0 (cmpI y0 key = r) := ⟨_, ⟨rfl⟩⟩
      rw [hr.out] at HC HCS
      generalize (rd_T38 xs ((lo + hi) / 2)).f1 = y1 at *
      generalize (rd_T38 xs ((lo + hi) / 2)).f2 = y2 at *
      have hml := hmm.out.1
      have hmh := hmm.out.2
      rcases HCS.out with ⟨hy, hcm⟩ | ⟨hy, hcm⟩
      · have d1 : decide (r < 0) = true := decide_eq_true hcm
        have HY := Aside0.mk hy
        clear hy hcm HCS
        go_wp2_with fail
        refine HC.out.mono ?_
        rintro e w2 ⟨rfl, hb2⟩
        have HB2 := Aside0.mk (below_then HB.out HB.out.size hb2)
        have HBs := HB.out.size
        clear hb2
        go_wp2
        go_roundg (gk - 1)
        case measure => have := hk.out; omega
        case rel => exact ⟨(lo + hi) / 2 + 1, hi, by first | rfl | simp, by first | rfl | simp, by omega, by omega, by omega, ⟨by have := hk.out; omega⟩, ⟨fun j g1 g2 => by
          rcases Int.lt_or_le j ((lo + hi) / 2) with h | h
          · have := HS.out j ((lo + hi) / 2) g1 h hm1
            have h5 := HY.out
            have h6 := hy0.out
            omega
          · obtain rfl : j = (lo + hi) / 2 := by omega
            rw [hy0.out]; exact HY.out, HI.out.2⟩, HB2⟩
      · have d1 : decide (r < 0) = false := decide_eq_false (by omega)
        have HY := Aside0.mk hy
        clear hy hcm HCS
        go_wp2_with fail
        refine HC.out.mono ?_
        rintro e w2 ⟨rfl, hb2⟩
        have HB2 := Aside0.mk (below_then HB.out HB.out.size hb2)
        have HBs := HB.out.size
        clear hb2
        go_wp2
        go_roundg (gk - 1)
        case measure => have := hk.out; omega
        case rel => exact ⟨lo, (lo + hi) / 2, by first | rfl | simp, by first | rfl | simp, by omega, by omega, by omega, ⟨by have := hk.out; omega⟩, ⟨HI.out.1, fun j g1 g2 => by
          rcases Int.lt_or_le ((lo + hi) / 2) j with h | h
          · have := HS.out ((lo + hi) / 2) j hm0 h g2
            have h5 := HY.out
            have h6 := hy0.out
            omega
          · obtain rfl : j = (lo + hi) / 2 := by omega
            rw [hy0.out]; exact HY.out⟩, HB2⟩
    · have q1b : decide (lo < hi) = false := decide_eq_false q1
      have hlh : hi = lo := by omega
      subst hlh
      clear q1 h1
      have HF := Aside0.mk (show Found xs key hi from ⟨h0, h2, HI.out.1, HI.out.2⟩)
      clear HI
      by_cases q2 : hi < xs.length
      · have q2b : decide (hi < (xs.length : Int)) = true := decide_eq_true q2
        obtain ⟨ad, e5, hx0, hx1, hx2⟩ := at_T38 (Kd.C_below HR.out HB.out) hi h0 q2
        cases e5
        have HC := Lib.hid (cmp_any (rd_T38 xs hi).f0 (rd_T38 xs hi).f1 (rd_T38 xs hi).f2 key bx wr (blk_below HBX.out HB.out))
        have hz : (cmpI (rd_T38 xs hi).f0 key == 0) = decide ((rd_T38 xs hi).f0 = key) := by
          unfold cmpI
          rcases Int.lt_trichotomy (rd_T38 xs hi).f0 key with h | h | h
          · rw [if_pos h, decide_eq_false (by omega)]; rfl
          · rw [if_neg (by omega), if_neg (by omega), decide_eq_true h]; rfl
          · rw [if_neg (by omega), if_pos h, decide_eq_false (by omega)]; rfl
        have HZ := Aside0.mk hz
        clear hz
        obtain ⟨r, hr⟩ : ∃ r, Aside0 (cmpI (rd_T38 xs hi).f0 key = r) := ⟨_, ⟨rfl⟩⟩
        rw [hr.out] at HC HZ
        generalize (rd_T38 xs hi).f1 = y1 at *
        generalize (rd_T38 xs hi).f2 = y2 at *
        go_wp2_with fail
        refine HC.out.mono ?_
        rintro e w2 ⟨rfl, hb2⟩
        go_wp2
        go_ret2
        refine ⟨hi, r == 0, rfl, ?_, HF.out, below_then HB.out HB.out.size hb2⟩
        rw [HZ.out, decide_eq_true_iff]
        exact ⟨fun h => ⟨q2, h⟩, fun h => h.2⟩
      · have q2b : decide (hi < (xs.length : Int)) = false := decide_eq_false q2
        go_wp2_with fail
        go_ret2
        exact ⟨hi, false, rfl, ⟨fun h => by simp at h, fun h => absurd h.1 (by omega)⟩, HF.out, HB.out⟩
end Go.Proofs.Ytbhdodkkebgjcaa.A.P
