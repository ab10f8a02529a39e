/- The sink as the law functions use it: one contract a method, over 'SinkAt'. -/
import Derived.Test.YthijcbihdkheoaaG1
namespace Go.Proofs.Ythijcbihdkheoaa.G
open Go.RowKit Go.Proofs.YthijcbihdkheoaaW.PrintWords Go.Proofs.YthijcbihdkheoaaW.PrintLast Go.Proofs.YthijcbihdkheoaaW.PrintMore
set_option linter.unusedSimpArgs false
set_option linter.unusedVariables false

/-- What a put makes of a sink's numbers; how many are new; the error. -/
def putP (xs : List Int) (p : Int) (ls : List Int) : List Int × Int × Int :=
  if p < 0 ∨ (xs.length : Int) < p then (xs, 0, 2) else
  if (xs.drop p.toNat).take (min ls.length (xs.length - p.toNat)) = ls.take (min ls.length (xs.length - p.toNat)) then
    (xs ++ ls.drop (min ls.length (xs.length - p.toNat)), (ls.length : Int) - (min ls.length (xs.length - p.toNat) : Nat), 0)
  else (xs, 0, 6)

/-- A sink at block g of w: its numbers are xs, its row's value v. -/
structure SinkAt (w : World) (B g : Nat) (v : Value) (xs : List Int) : Prop where
  blk : w.heap[g]? = some (.cells #[v, .bool true] 48 (0, 0))
  ge : B ≤ g
  own : w.ownsRow B 3 1 v xs.length (nums .i64 xs)

theorem SinkAt.turn {w w' : World} {B g : Nat} {v : Value} {xs : List Int} (h : SinkAt w B g v xs) {S : Nat → Prop} (ht : Turn w w' S) (hg : ¬ S g) (hv : ∀ k, v.ownBlock = some k → ¬ S k) : SinkAt w' B g v xs :=
  ⟨(ht.block g (blk_lt h.blk) hg).trans h.blk, h.ge, own_move h.own (fun k hk => ht.block k (own_lt h.own k hk) (hv k hk))⟩
theorem SinkAt.below {w w' : World} {B g : Nat} {v : Value} {xs : List Int} (h : SinkAt w B g v xs) (hb : Below w.heap.size w w') : SinkAt w' B g v xs :=
  ⟨blk_below h.blk hb, h.ge, pw_own_below h.own hb⟩
theorem SinkAt.lt {w : World} {B g : Nat} {v : Value} {xs : List Int} (h : SinkAt w B g v xs) : g < w.heap.size := blk_lt h.blk

/-- Behind a put. -/
def PutPost (w : World) (B g : Nat) (v : Value) (xs : List Int) (w' : World) : Prop :=
  ∃ v', SinkAt w' B g v' xs ∧ Turn w w' (fun k => k = g ∨ some k = v.ownBlock) ∧ (v'.ownBlock = v.ownBlock ∨ ∃ b, v'.ownBlock = some b ∧ w.heap.size ≤ b)

theorem Turn.of_below {w w' : World} (h : Below w.heap.size w w') (S : Nat → Prop) : Turn w w' S := ⟨h.os, h.tape, h.output, h.size, fun k hk _ => h.block k hk⟩

theorem put_any (B g : Nat) (v : Value) (xs : List Int) (p : Int) (A2 : Option Addr) (c2 : Nat) (ls : List Int) (w : World) (hs : SinkAt w B g v xs) (hr : Rd w A2 ls) (hc2 : ls.length ≤ c2) (hn : (xs.length + ls.length) * 8 ≤ 140737488355328) :
    Calls Try.prog 13 #[.pointer (some ⟨g, 0, none⟩), .int .i64 p, .slice A2 ls.length c2] w fun e w' => e = .returned (.tuple #[.int .i64 (putP xs p ls).2.1, .int .i64 (putP xs p ls).2.2]) ∧ PutPost w B g v (putP xs p ls).1 w' := by
  obtain ⟨A, c, rfl, _, _⟩ := own_rd hs.own
  by_cases h1 : p < 0 ∨ (xs.length : Int) < p
  · have e : putP xs p ls = (xs, 0, 2) := by unfold putP; rw [if_pos h1]
    rw [e]
    refine (put_out g A c xs.length p _ w hs.blk h1).mono ?_
    rintro e w' ⟨rfl, rfl⟩
    exact ⟨rfl, _, hs, ⟨rfl, rfl, rfl, Nat.le_refl _, fun _ _ _ => rfl⟩, .inl rfl⟩
  · have ht : ((min ls.length (xs.length - p.toNat) : Nat) : Int) = mn ls.length (xs.length - p) := by
      unfold mn
      split <;> omega
    by_cases h2 : (xs.drop p.toNat).take (min ls.length (xs.length - p.toNat)) = ls.take (min ls.length (xs.length - p.toNat))
    · have e : putP xs p ls = (xs ++ ls.drop (min ls.length (xs.length - p.toNat)), (ls.length : Int) - (min ls.length (xs.length - p.toNat) : Nat), 0) := by
        unfold putP; rw [if_neg h1, if_pos h2]
      rw [e]
      generalize min ls.length (xs.length - p.toNat) = t at *
      refine (put_in B g A c xs p A2 c2 ls w hs.blk hs.ge hs.own hr hc2 hn (by omega) (by omega) t ht h2).mono ?_
      rintro e w' ⟨v', rfl, hb, ho, htn, hat⟩
      exact ⟨rfl, v', ⟨hb, hs.ge, ho⟩, htn, hat⟩
    · have e : putP xs p ls = (xs, 0, 6) := by
        unfold putP; rw [if_neg h1, if_neg h2]
      rw [e]
      generalize min ls.length (xs.length - p.toNat) = t at *
      refine (put_ne B g A c xs p A2 c2 ls w hs.blk hs.ge hs.own hr hc2 hn (by omega) (by omega) t ht h2).mono ?_
      rintro e w' ⟨rfl, hd⟩
      exact ⟨rfl, _, hs.below hd.below, .of_below hd.below _, .inl rfl⟩

theorem size_at (B g : Nat) (v : Value) (xs : List Int) (w : World) (hs : SinkAt w B g v xs) :
    Calls Try.prog 15 #[.pointer (some ⟨g, 0, none⟩)] w fun e w' => e = .returned (.int .i64 xs.length) ∧ w = w' := by
  obtain ⟨A, c, rfl, _, _⟩ := own_rd hs.own
  exact size_any g A c xs.length w hs.blk

theorem all_at (B g : Nat) (v : Value) (xs : List Int) (w : World) (hs : SinkAt w B g v xs) (hn : xs.length * 8 ≤ 140737488355328) :
    Calls Try.prog 12 #[.pointer (some ⟨g, 0, none⟩)] w fun e w' => ∃ u A c, e = .returned u ∧ u = .slice A xs.length c ∧ xs.length ≤ c ∧ w'.ownsRow w.heap.size 3 1 u xs.length (nums .i64 xs) ∧ Below w.heap.size w w' := by
  obtain ⟨A, c, rfl, _, hr⟩ := own_rd hs.own
  refine (all_any g A c xs w hs.blk hr hn).mono ?_
  rintro e w' ⟨u, rfl, ho, hb⟩
  obtain ⟨A', c', rfl, hl, _⟩ := own_rd ho
  exact ⟨_, A', c', rfl, rfl, hl, ho, hb⟩

theorem make_at (B : Nat) (w : World) (hB : B ≤ w.heap.size) :
    Calls Try.prog 11 #[] w fun e w' => e = .returned (.pointer (some ⟨w.heap.size, 0, none⟩)) ∧ SinkAt w' B w.heap.size (.slice none 0 0) [] ∧ Below w.heap.size w w' := by
  go_enter Try.func11, Try.ntmps11
  go_wp2
  go_ret
  exact ⟨rfl, ⟨by simpa using heap_alloc_new w _, hB, own_nil _ _ _ _⟩, below_alloc (Below.refl _ _) _⟩

theorem among_f (x n : Int) (h1 : 1 ≤ n) (h2 : n ≤ 9223372036854775807) : PGatePlays.larchbase_Among.f x n = some (x % 18446744073709551616 % n) := by
  unfold PGatePlays.larchbase_Among.f
  have e1 : IntKind.u64.wrap n = n := IntWalk.u64_in n (by omega)
  have e2 : IntKind.u64.wrap x = x % 18446744073709551616 := IntKind.wrap_u64 x
  have h3 : 0 ≤ x % 18446744073709551616 := Int.emod_nonneg _ (by omega)
  have h4 : 0 ≤ x % 18446744073709551616 % n := Int.emod_nonneg _ (by omega)
  have h5 : x % 18446744073709551616 % n < n := Int.emod_lt_of_pos _ (by omega)
  rw [if_neg (by omega), e1, if_neg (by omega), e2, Int.tmod_eq_emod_of_nonneg h3]
  congr 1
  generalize x % 18446744073709551616 % n = r at *
  unfold wrap64
  omega

theorem among_any (x n : Int) (w : World) (h1 : 1 ≤ n) (h2 : n ≤ 9223372036854775807) :
    Calls Try.prog 14 #[.int .i64 x, .int .i64 n] w fun e w' => e = .returned (.int .i64 (x % 18446744073709551616 % n)) ∧ Drawn0 w w' :=
  PGatePlays.larchbase_Among.calls x n _ w (among_f x n h1 h2)
end Go.Proofs.Ythijcbihdkheoaa.G
