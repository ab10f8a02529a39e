/- Rows of monitors as flat cells, and Clone. -/
import Derived.Test.YtbhdodkkebgjcaaAx0
import Derived.Lib.Hide
import Derived.Lib.SliceRun
import Derived.Lib.JoinLaws
import Derived.Lib.AppendZerosOnto
import Derived.Lib.Overlaps
import Derived.Laws.Externs
import Derived.Laws.CopyOwn
import Derived.Laws.NewBlocks
namespace Go.Proofs.Ytbhdodkkebgjcaa.A.P
open Go.RowKit Go.Proofs.YtbhdodkkebgjcaaW.PrintWords Go.Proofs.YtbhdodkkebgjcaaW.PrintLast Go.Proofs.YtbhdodkkebgjcaaW.PrintMore
set_option linter.unusedSimpArgs false
set_option linter.unusedVariables false
/-- The cells of a list of monitors. -/
def fl : List S38 → List Value
  | [] => []
  | x :: r => .int .i64 x.f0 :: .int .i64 x.f1 :: .int .i64 x.f2 :: fl r
theorem fl_len : ∀ xs, (fl xs).length = xs.length * 3
  | [] => rfl
  | x :: r => by simp [fl, fl_len r]; omega
theorem fl_append : ∀ xs ys, fl (xs ++ ys) = fl xs ++ fl ys
  | [], _ => rfl
  | x :: r, ys => by simp [fl, fl_append r ys]
theorem fl_take : ∀ (i : Nat) xs, fl (xs.take i) = (fl xs).take (i * 3)
  | 0, xs => by simp [fl]
  | i + 1, [] => by simp [fl]
  | i + 1, x :: r => by
    rw [List.take_succ_cons, fl, fl_take i r, fl, show (i + 1) * 3 = i * 3 + 3 by omega]
    rfl
theorem fl_drop : ∀ (i : Nat) xs, fl (xs.drop i) = (fl xs).drop (i * 3)
  | 0, xs => by simp
  | i + 1, [] => by simp [fl]
  | i + 1, x :: r => by
    rw [List.drop_succ_cons, fl_drop i r, fl, show (i + 1) * 3 = i * 3 + 3 by omega]
    rfl
theorem fl_one : ∀ xs, ∀ v ∈ fl xs, v.oneCell' = true
  | [], _, h => by simp [fl] at h
  | x :: r, v, h => by
    simp only [fl, List.mem_cons] at h
    rcases h with rfl | rfl | rfl | h
    · rfl
    · rfl
    · rfl
    · exact fl_one r v h
theorem fl_get (x : S38) (xs : List S38) (j : Nat) (h : xs[j]? = some x) : ((fl xs).drop (j * 3)).take 3 = [.int .i64 x.f0, .int .i64 x.f1, .int .i64 x.f2] := by
  rw [← fl_drop]
  have hl := (List.getElem?_eq_some_iff.1 h).1
  have hx := (List.getElem?_eq_some_iff.1 h).2
  rw [List.drop_eq_getElem_cons hl, hx, fl]
  rfl
theorem reps_fl {w : World} {base : Nat} {ok : Nat → Prop} {xs : List S38} {inner : List Value} (h : Reps (k38.M w base ok) 3 xs inner) : inner = fl xs := by
  have hl := h.1
  have key : ∀ j, j < xs.length → (inner.drop (j * 3)).take 3 = ((fl xs).drop (j * 3)).take 3 := fun j hj => by
    rw [fl_get _ _ j (List.getElem?_eq_getElem hj)]
    exact k38_openM (h.2 j _ (List.getElem?_eq_getElem hj))
  apply List.ext_getElem?
  intro i
  rcases Nat.lt_or_ge i (xs.length * 3) with hi | hi
  · have h2 := congrArg (fun l => l[i % 3]?) (key (i / 3) (by omega))
    rw [List.getElem?_take_of_lt (Nat.mod_lt _ (by omega)), List.getElem?_take_of_lt (Nat.mod_lt _ (by omega)), List.getElem?_drop, List.getElem?_drop, show i / 3 * 3 + i % 3 = i by omega] at h2
    exact h2
  · rw [List.getElem?_eq_none (by omega), List.getElem?_eq_none (by rw [fl_len]; omega)]
theorem fl_reps (w : World) (base : Nat) (ok : Nat → Prop) (xs : List S38) : Reps (k38.M w base ok) 3 xs (fl xs) :=
  ⟨fl_len xs, fun j p hj => by rw [fl_get _ _ _ hj]; exact k38_mkM w base ok p⟩
theorem R_flat {w : World} {base : Nat} {ok : Nat → Prop} {v : Value} {xs : List S38} (h : Kd.R k38 38 w base ok v xs) : w.ownsRow base 38 3 v xs.length (fl xs) := by
  obtain ⟨_, inner, ho, hr⟩ := h
  rw [← reps_fl hr]
  exact ho
theorem flat_R {w : World} {base : Nat} {v : Value} {xs : List S38} {n : Nat} (h : w.ownsRow base 38 3 v n (fl xs)) (hn : n = xs.length) (ok : Nat → Prop) (hok : ∀ k, v.ownBlock = some k → ok k) : Kd.R k38 38 w base ok v xs := by
  subst hn
  exact ⟨hok, _, h, fl_reps _ _ _ _⟩
theorem C_flat {w : World} {A : Option Addr} {n : Nat} {xs : List S38} (h : Kd.C k38 w A n xs) (hn : 0 < n) : ∃ ad, A = some ad ∧ ∀ j u, (fl xs)[j]? = some u → w.cell? (ad.add j) = some u := by
  obtain ⟨ad, e, hc⟩ := h.2.2 hn
  refine ⟨ad, e, fun j u hu => ?_⟩
  have hj : j / 3 < xs.length := by
    have := (List.getElem?_eq_some_iff.1 hu).1
    rw [fl_len] at this
    omega
  obtain ⟨c, hl, hk, hcell⟩ := hc (j / 3) _ (List.getElem?_eq_getElem hj)
  have e1 := k38_open hk
  have h2 := congrArg (fun l => l[j % 3]?) (fl_get _ _ (j / 3) (List.getElem?_eq_getElem hj))
  rw [List.getElem?_take_of_lt (Nat.mod_lt _ (by omega)), List.getElem?_drop, show j / 3 * 3 + j % 3 = j by omega, hu, ← e1] at h2
  have := hcell (j % 3) u h2.symm
  rwa [show k38.sz = 3 from rfl, show j / 3 * 3 + j % 3 = j by omega] at this
def api_Monitor_22.f (l0 : List S38) : Option (List S38) := if l0.length ≤ 5864062014700 then some l0 else none
set_option maxHeartbeats 4000000 in
theorem api_Monitor_22.calls (A0 : Option Addr) (c0 : Nat) (l0 r : List S38) (w : World) (hr0 : Kd.C k38 w A0 l0.length l0) (hc0 : l0.length ≤ c0) (h : api_Monitor_22.f l0 = some r) :
    Calls Try.prog 22 #[.slice A0 l0.length c0] w fun e w' => ∃ v : Value, e = .returned v ∧ Kd.R k38 38 w' w.heap.size (fun _ => True) v r ∧ Below w.heap.size w w' := by
  unfold api_Monitor_22.f at h
  split at h
  case isFalse => simp at h
  case isTrue hm =>
  simp only [Option.some.injEq] at h
  subst h
  have hnil := Lib.run_eql_slice_nil (P := Try.prog) (h := Try.underlying22)
  cases A0 with
  | none =>
    have hl : l0 = [] := List.eq_nil_of_length_eq_zero (Nat.eq_zero_of_not_pos fun hp => by obtain ⟨_, h, _⟩ := hr0.2.2 hp; simp at h)
    subst hl
    clear hr0 hc0 hm
    go_enter Try.func22, Try.ntmps22
    go_wp2_with (simp only [hnil])
    go_ret
    exact ⟨_, rfl, Kd.R_nil _ _ _ _ _, Below.refl _ _⟩
  | some ad =>
    have hsrc : ∀ j u, (fl l0)[j]? = some u → w.cell? (ad.add j) = some u := fun j u hu => by
      have hp : 0 < l0.length := by have := (List.getElem?_eq_some_iff.1 hu).1; rw [fl_len] at this; omega
      obtain ⟨ad', e, h⟩ := C_flat hr0 hp
      cases e
      exact h j u hu
    have HSRC := Lib.hid hsrc
    have HM := Aside0.mk hm
    clear hr0 hc0 hsrc hm
    obtain ⟨i0, hi, hz0, hz1, hz2⟩ := info_parts info38
    have HI := Aside0.mk (And.intro hi (And.intro hz0 (And.intro hz1 hz2)))
    clear hi hz0 hz1 hz2
    go_enter Try.func22, Try.ntmps22
    go_wp2_with (first | (simp only [hnil]) | (at_builtin; refine wpList_append_own _ rfl (.tmp 5) (.tmp 6) 22 rfl w.heap.size 38 i0 _ 3 24 Try.underlying22 HI.out.1 HI.out.2.1 HI.out.2.2.1 HI.out.2.2.2 (by rfl) (by omega) (.slice (some ⟨w.heap.size, 0, none⟩) 0 0) 0 [] rfl ⟨rfl, .inr ⟨_, _, #[], rfl, Nat.le_refl _, heap_alloc_new _ _, Nat.le_refl _, by simp [maxLen], rfl, rfl⟩⟩ ad l0.length c0 (fl l0) rfl (fl_len l0) (fun j u hu => Lib.cell?_alloc_some _ (HSRC.out j u hu)) (fl_one l0) (by have := HM.out; simp [maxLen]; omega) (by have := HM.out; omega) (by simp) ?_; intro v1 w1 hown1 hgr1 _; have HO1 := Aside0.mk hown1; have HG1 := Aside0.mk hgr1; clear hown1 hgr1))
    go_ret
    refine ⟨v1, rfl, flat_R (by simpa using HO1.out) rfl _ (fun _ _ => trivial), (below_alloc (Below.refl w.heap.size w) (.cells #[] 38)).grown HG1.out (by simp) (fun k hk => ?_)⟩
    have : w.heap.size = k := by simpa [Value.ownBlock] using hk
    omega
end Go.Proofs.Ytbhdodkkebgjcaa.A.P
