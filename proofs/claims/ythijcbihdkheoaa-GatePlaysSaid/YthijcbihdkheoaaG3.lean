/- The statements' own 'works': it answers true. -/
import Derived.Test.YthijcbihdkheoaaG2
namespace Go.Proofs.Ythijcbihdkheoaa.G
open Go.RowKit Go.Proofs.YthijcbihdkheoaaW.PrintWords Go.Proofs.YthijcbihdkheoaaW.PrintLast Go.Proofs.YthijcbihdkheoaaW.PrintMore
set_option linter.unusedSimpArgs false
set_option linter.unusedVariables false

theorem put_to (B g : Nat) (v : Value) (xs : List Int) (p : Int) (A2 : Option Addr) (c2 n2 : Nat) (ls ys : List Int) (k er : Int) (w : World) (hs : SinkAt w B g v xs) (hl : ls.length = n2) (hr : Rd w A2 ls) (hc2 : ls.length ≤ c2) (hn : (xs.length + ls.length) * 8 ≤ 140737488355328) (h : putP xs p ls = (ys, k, er)) :
    Calls Try.prog 13 #[.pointer (some ⟨g, 0, none⟩), .int .i64 p, .slice A2 n2 c2] w fun e w' => e = .returned (.tuple #[.int .i64 k, .int .i64 er]) ∧ PutPost w B g v ys w' := by
  have := put_any B g v xs p A2 c2 ls w hs hr hc2 hn
  rw [h, hl] at this
  exact this

/-- A literal of whole numbers, as it is read. -/
theorem lit_rd (w : World) (xs : List Int) (hm : xs.length ≤ 9223372036854775807) : Rd (w.alloc (.cells (nums .i64 xs).toArray 3)) (some ⟨w.heap.size, 0, none⟩) xs := by
  obtain ⟨A, c, he, _, h⟩ := own_rd (own_lit w w.heap.size 3 .i64 xs (Nat.le_refl _) hm)
  injection he with he _ _
  subst he
  exact h

theorem below_of_turn {B : Nat} {w w' : World} {S : Nat → Prop} (h : Turn w w' S) (hS : ∀ k, S k → B ≤ k) (hB : B ≤ w.heap.size) : Below B w w' :=
  ⟨h.os, h.tape, h.output, h.size, fun k hk => h.block k (by omega) (fun hs => by have := hS k hs; omega)⟩
theorem PutPost.below {w w' : World} {B g : Nat} {v : Value} {xs ys : List Int} (h : PutPost w B g v ys w') (hs : SinkAt w B g v xs) : Below B w w' := by
  obtain ⟨v', _, ht, _⟩ := h
  refine below_of_turn ht (fun k hk => ?_) (by have := hs.lt; have := hs.ge; omega)
  rcases hk with rfl | hk
  · exact hs.ge
  · exact own_base hs.own k hk.symm

theorem works_any (w : World) : Calls Try.prog 9 #[] w fun e w' => e = .returned (.bool true) ∧ Below w.heap.size w w' := by
  go_enter Try.func9, Try.ntmps9
  go_wp2_with fail
  refine (make_at w.heap.size w (Nat.le_refl _)).mono ?_
  rintro e w1 ⟨rfl, hs1, hb1⟩
  go_wp2_with fail
  refine (put_to w.heap.size w.heap.size _ [] 0 (some ⟨w1.heap.size, 0, none⟩) 2 2 [5, 6] [5, 6] 2 0 (w1.alloc (.cells (nums .i64 [5, 6]).toArray 3)) (hs1.below (below_alloc (Below.refl _ _) _)) rfl (lit_rd w1 [5, 6] (by simp)) (by simp) (by simp) (by decide)).mono ?_
  rintro e w2 ⟨rfl, hp2⟩
  have hb2 := hp2.below (hs1.below (below_alloc (Below.refl _ _) _))
  obtain ⟨v2, hs2, -, -⟩ := hp2
  go_wp2_with fail
  refine (put_to w.heap.size w.heap.size v2 [5, 6] 1 (some ⟨w2.heap.size, 0, none⟩) 2 2 [6, 7] [5, 6, 7] 1 0 (w2.alloc (.cells (nums .i64 [6, 7]).toArray 3)) (hs2.below (below_alloc (Below.refl _ _) _)) rfl (lit_rd w2 [6, 7] (by simp)) (by simp) (by simp) (by decide)).mono ?_
  rintro e w3 ⟨rfl, hp3⟩
  have hb3 := hp3.below (hs2.below (below_alloc (Below.refl _ _) _))
  obtain ⟨v3, hs3, -, -⟩ := hp3
  go_wp2_with fail
  refine (put_to w.heap.size w.heap.size v3 [5, 6, 7] 0 (some ⟨w3.heap.size, 0, none⟩) 1 1 [9] [5, 6, 7] 0 6 (w3.alloc (.cells (nums .i64 [9]).toArray 3)) (hs3.below (below_alloc (Below.refl _ _) _)) rfl (lit_rd w3 [9] (by simp)) (by simp) (by simp) (by decide)).mono ?_
  rintro e w4 ⟨rfl, hp4⟩
  have hb4 := hp4.below (hs3.below (below_alloc (Below.refl _ _) _))
  obtain ⟨v4, hs4, -, -⟩ := hp4
  go_wp2_with fail
  refine (all_at w.heap.size w.heap.size v4 [5, 6, 7] w4 hs4 (by simp)).mono ?_
  rintro e w5 ⟨u, A, c, rfl, rfl, hl5, ho5, hb5⟩
  obtain ⟨A', c', he, _, hr5⟩ := own_rd ho5
  injection he with he1 _ he2
  subst he1 he2
  have hs5 := hs4.below hb5
  go_wp2_with fail
  refine (same_any A c [5, 6, 7] (some ⟨w5.heap.size, 0, none⟩) 3 [5, 6, 7] (w5.alloc (.cells (nums .i64 [5, 6, 7]).toArray 3)) (Kd.C_below hr5 (below_alloc (Below.refl _ _) _)) hl5 (lit_rd w5 [5, 6, 7] (by simp)) (by simp)).mono ?_
  rintro e w6 ⟨rfl, ⟨m, rfl⟩⟩
  have hs6 : SinkAt ((w5.alloc (.cells (nums .i64 [5, 6, 7]).toArray 3)).drewN m) w.heap.size w.heap.size v4 [5, 6, 7] := (hs5.below (below_alloc (Below.refl _ _) _)).below (pw_below_drewN (Below.refl _ _) _)
  go_wp2_with fail
  refine (size_at w.heap.size w.heap.size v4 [5, 6, 7] _ hs6).mono ?_
  rintro e w7 ⟨rfl, rfl⟩
  go_wp2
  go_ret
  refine ⟨by simp, ?_⟩
  have B1 := below_alloc hb1 (.cells (nums .i64 [5, 6]).toArray 3)
  have B2 := below_alloc (B1.trans hb2) (.cells (nums .i64 [6, 7]).toArray 3)
  have B3 := below_alloc (B2.trans hb3) (.cells (nums .i64 [9]).toArray 3)
  have B4 := B3.trans hb4
  have B5 := below_alloc (below_then B4 B4.size hb5) (.cells (nums .i64 [5, 6, 7]).toArray 3)
  exact pw_below_drewN B5 m
end Go.Proofs.Ythijcbihdkheoaa.G
