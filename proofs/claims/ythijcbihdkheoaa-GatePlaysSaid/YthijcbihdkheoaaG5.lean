/- The gate: contracts of its methods, over 'GateAt'. -/
import Derived.Test.YthijcbihdkheoaaG4
import Derived.Lib.Hide
namespace Go.Proofs.Ythijcbihdkheoaa.G
open Go.RowKit Go.Proofs.YthijcbihdkheoaaW.PrintWords Go.Proofs.YthijcbihdkheoaaW.PrintLast Go.Proofs.YthijcbihdkheoaaW.PrintMore
set_option linter.unusedSimpArgs false
set_option linter.unusedVariables false

/-- A gate at block g of w. -/
structure GateAt (w : World) (B g : Nat) (v : Value) (next limit : Int) (ws : List Int) : Prop where
  blk : w.heap[g]? = some (.cells #[.int .i64 next, .int .i64 limit, v] 52 (0, 0))
  ge : B ≤ g
  own : w.ownsRow B 3 1 v ws.length (nums .i64 ws)
theorem GateAt.lt {w : World} {B g : Nat} {v : Value} {next limit : Int} {ws : List Int} (h : GateAt w B g v next limit ws) : g < w.heap.size := blk_lt h.blk
theorem GateAt.turn {w w' : World} {B g : Nat} {v : Value} {next limit : Int} {ws : List Int} (h : GateAt w B g v next limit ws) {S : Nat → Prop} (ht : Turn w w' S) (hg : ¬ S g) (hv : ∀ k, v.ownBlock = some k → ¬ S k) : GateAt w' B g v next limit ws :=
  ⟨(ht.block g (blk_lt h.blk) hg).trans h.blk, h.ge, own_move h.own (fun k hk => ht.block k (own_lt h.own k hk) (hv k hk))⟩
theorem GateAt.below {w w' : World} {B g : Nat} {v : Value} {next limit : Int} {ws : List Int} (h : GateAt w B g v next limit ws) (hb : Below w.heap.size w w') : GateAt w' B g v next limit ws :=
  ⟨blk_below h.blk hb, h.ge, pw_own_below h.own hb⟩

theorem new_no (next limit : Int) (w : World) (h : next < 0 ∨ ¬ next < 0 ∧ limit < 1) :
    Calls Try.prog 17 #[.int .i64 next, .int .i64 limit] w fun e w' => e = .returned (.tuple #[.pointer none, .int .i64 2]) ∧ w = w' := by
  rcases h with h | ⟨h, h2⟩
  · have hb : decide (next < 0) = true := decide_eq_true h
    go_enter Try.func17, Try.ntmps17
    go_wp2
    go_ret2
    exact ⟨rfl, rfl⟩
  · have hb : decide (next < 0) = false := decide_eq_false h
    have hb2 : decide (limit < 1) = true := decide_eq_true h2
    go_enter Try.func17, Try.ntmps17
    go_wp2
    go_ret2
    exact ⟨rfl, rfl⟩
theorem new_ok (B : Nat) (next limit : Int) (w : World) (hB : B ≤ w.heap.size) (h1 : 0 ≤ next) (h2 : 1 ≤ limit) :
    Calls Try.prog 17 #[.int .i64 next, .int .i64 limit] w fun e w' => e = .returned (.tuple #[.pointer (some ⟨w.heap.size, 0, none⟩), .int .i64 0]) ∧ GateAt w' B w.heap.size (.slice none 0 0) next limit [] ∧ Below w.heap.size w w' := by
  have hb : decide (next < 0) = false := decide_eq_false (by omega)
  have hb2 : decide (limit < 1) = false := decide_eq_false (by omega)
  go_enter Try.func17, Try.ntmps17
  go_wp2
  go_ret2
  exact ⟨rfl, ⟨by simpa using heap_alloc_new w _, hB, own_nil _ _ _ _⟩, below_alloc (Below.refl _ _) _⟩

theorem gis_any (g : Nat) (v : Value) (next limit : Int) (w : World) (hl : 1 ≤ limit) (hb : w.heap[g]? = some (.cells #[.int .i64 next, .int .i64 limit, v] 52 (0, 0))) :
    Calls Try.prog 29 #[.pointer (some ⟨g, 0, none⟩)] w fun e w' => e = .returned (.bool true) ∧ w = w' := by
  have h1 : w.cell? ⟨g, 1, none⟩ = some (.int .i64 limit) := (blk_cell hb 1).trans rfl
  have hd : decide (0 < limit) = true := decide_eq_true (by omega)
  clear hb
  go_enter Try.func29, Try.ntmps29
  go_wp2
  go_ret
  exact ⟨by simp [hd], rfl⟩

theorem wait_at (B g : Nat) (v : Value) (next limit : Int) (ws : List Int) (w : World) (hg : GateAt w B g v next limit ws) (hl : 1 ≤ limit) (hn : ws.length * 8 ≤ 140737488355328) :
    Calls Try.prog 18 #[.pointer (some ⟨g, 0, none⟩)] w fun e w' => ∃ u A c, e = .returned u ∧ u = .slice A ws.length c ∧ ws.length ≤ c ∧ w'.ownsRow w.heap.size 3 1 u ws.length (nums .i64 ws) ∧ Below w.heap.size w w' := by
  obtain ⟨A, c, rfl, _, hr⟩ := own_rd hg.own
  have h2 : w.cell? ⟨g, 2, none⟩ = some (.slice A ws.length c) := (blk_cell hg.blk 2).trans rfl
  have HG := Lib.hid (gis_any g _ next limit w hl hg.blk)
  have HC := Lib.hid (clone_any A c ws w hr hn)
  clear hg hr
  go_enter Try.func18, Try.ntmps18
  go_wp2_with fail
  refine HG.out.mono ?_
  rintro e w' ⟨rfl, rfl⟩
  go_wp2_with fail
  refine HC.out.mono ?_
  rintro e w' ⟨u, rfl, ho, hb⟩
  go_wp2
  go_ret
  obtain ⟨A', c', rfl, hl', _⟩ := own_rd ho
  exact ⟨_, A', c', rfl, rfl, hl', ho, hb⟩

theorem free_at (B g : Nat) (v : Value) (next limit : Int) (ws : List Int) (w : World) (hg : GateAt w B g v next limit ws) (hl : 1 ≤ limit) (hl2 : limit ≤ 9223372036854775807) :
    Calls Try.prog 20 #[.pointer (some ⟨g, 0, none⟩)] w fun e w' => e = .returned (.int .i64 (limit - ws.length)) ∧ Drawn0 w w' := by
  obtain ⟨A, c, rfl, _, hr⟩ := own_rd hg.own
  have h1 : w.cell? ⟨g, 1, none⟩ = some (.int .i64 limit) := (blk_cell hg.blk 1).trans rfl
  have h2 : w.cell? ⟨g, 2, none⟩ = some (.slice A ws.length c) := (blk_cell hg.blk 2).trans rfl
  have HG := Lib.hid (gis_any g _ next limit w hl hg.blk)
  have hlen := hr.2.1
  clear hg hr
  go_enter Try.func20, Try.ntmps20
  go_wp2_with fail
  refine HG.out.mono ?_
  rintro e w' ⟨rfl, rfl⟩
  go_wp2_with fail
  go_quiet (fail)
  go_wp2
  go_ret
  exact ⟨rfl, ⟨_, rfl⟩⟩

/-- Behind an offer. -/
def OfferPost (w : World) (B g : Nat) (v : Value) (next limit : Int) (ws : List Int) (w' : World) : Prop :=
  ∃ v', GateAt w' B g v' next limit ws ∧ Turn w w' (fun k => k = g ∨ some k = v.ownBlock) ∧ (v'.ownBlock = v.ownBlock ∨ ∃ b, v'.ownBlock = some b ∧ w.heap.size ≤ b)

theorem offer_full (B g : Nat) (v : Value) (next limit : Int) (ws : List Int) (A2 : Option Addr) (n2 c2 : Nat) (w : World) (hg : GateAt w B g v next limit ws) (hl : 1 ≤ limit) (hl2 : limit ≤ 9223372036854775807) (hfull : limit - ws.length < n2) :
    Calls Try.prog 19 #[.pointer (some ⟨g, 0, none⟩), .slice A2 n2 c2] w fun e w' => e = .returned (.int .i64 4) ∧ Drawn0 w w' := by
  have HG := Lib.hid (gis_any g _ next limit w hl hg.blk)
  have HF := Lib.hid (free_at B g v next limit ws w hg hl hl2)
  clear hg
  go_enter Try.func19, Try.ntmps19
  go_wp2_with fail
  refine HG.out.mono ?_
  rintro e w' ⟨rfl, rfl⟩
  go_wp2_with fail
  refine HF.out.mono ?_
  rintro e w' ⟨rfl, ⟨m, rfl⟩⟩
  go_wp2
  go_ret
  exact ⟨rfl, ⟨_, rfl⟩⟩

theorem offer_ok (B g : Nat) (v : Value) (next limit : Int) (ws : List Int) (A2 : Option Addr) (c2 : Nat) (ls : List Int) (w : World) (hg : GateAt w B g v next limit ws) (hl : 1 ≤ limit) (hl2 : limit ≤ 9223372036854775807) (hr : Rd w A2 ls) (hfits : ls.length ≤ limit - ws.length) (hn : (ws.length + ls.length) * 8 ≤ 140737488355328) :
    Calls Try.prog 19 #[.pointer (some ⟨g, 0, none⟩), .slice A2 ls.length c2] w fun e w' => e = .returned (.int .i64 0) ∧ OfferPost w B g v next limit (ws ++ ls) w' := by
  have HG := Lib.hid (gis_any g _ next limit w hl hg.blk)
  have HF := Lib.hid (free_at B g v next limit ws w hg hl hl2)
  obtain ⟨A, c, rfl, _, hrw⟩ := own_rd hg.own
  have h2 : w.cell? ⟨g, 2, none⟩ = some (.slice A ws.length c) := (blk_cell hg.blk 2).trans rfl
  have hne := own_ne hg.own hg.blk (by decide)
  have hBs : B ≤ w.heap.size := by have := hg.lt; have := hg.ge; omega
  have HO := Aside0.mk (show (Kd.int .i64).R 3 w B (fun _ => True) (.slice A ws.length c) ws from Kd.R_of_own (enc := Value.int .i64) (h1 := fun _ => rfl) hg.own (fun _ _ => trivial))
  have HR := Aside0.mk hr
  have HGA := Aside0.mk hg
  clear hg hr hrw
  go_enter Try.func19, Try.ntmps19
  go_wp2_with fail
  refine HG.out.mono ?_
  rintro e w' ⟨rfl, rfl⟩
  go_wp2_with fail
  refine HF.out.mono ?_
  rintro e w' ⟨rfl, ⟨m, rfl⟩⟩
  go_wp2_with (at_builtin; refine Kd.R_append_rows (Kd.int .i64) (Rr := fun x cs => cs = [Value.int .i64 x]) (w0 := w) B rfl _ _ 27 3 (.int .i64 0) 8 rfl Try.underlying27 info3 rfl (by decide) (by decide) (.slice A ws.length c) ws ls A2 ls.length c2 (fun _ => True) (fun _ => False) rfl rfl (by exact HO.out) (by exact HR.out) (fun x cs h => h) (fun _ h => h.elim) (fun _ _ => trivial) (by exact pw_below_drewN (Below.refl B w) m) (by exact hBs) (by omega) ?_; intro v1 w1 hr1 hb1 hg1 hat1; obtain ⟨A4, c4, rfl, hl4, hrd4⟩ := Kd.R_reads hr1; have hc1 := cell_grown hg1 (show (w.drewN m).cell? ⟨g, 2, none⟩ = _ from h2) hne; have hbk := blk_grown (w := w.drewN m) HGA.out.blk hg1 hne; have hfz := blk_frozen hbk 2)
  go_ret
  refine ⟨rfl, _, ⟨by simpa using blk_set hbk 2 _, HGA.out.ge, own_setCell (Kd.own_of_R hr1) (own_ne (Kd.own_of_R hr1) hbk (by decide)) _⟩, ⟨hg1.os, hg1.tape, hg1.output, ?_, fun k hk hn' => ?_⟩, hat1⟩
  · have h := hg1.size
    have h' : w.heap.size ≤ w1.heap.size := h
    simpa [World.setCell] using h'
  · rw [Below.heap_setCell _ _ _ _ (fun e => hn' (.inl e))]
    exact hg1.block k hk (fun e => hn' (.inr e))
end Go.Proofs.Ythijcbihdkheoaa.G
