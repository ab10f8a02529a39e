/- The release with what it leaves, and the whole of what GatePlays carries from round to round. -/
import Derived.Test.YthijcbihdkheoaaG13
namespace Go.Proofs.Ythijcbihdkheoaa.G
open Go.RowKit Go.Proofs.YthijcbihdkheoaaW.PrintWords Go.Proofs.YthijcbihdkheoaaW.PrintLast Go.Proofs.YthijcbihdkheoaaW.PrintMore
set_option linter.unusedSimpArgs false
set_option linter.unusedVariables false

/-- v' lies where v lay, or is new. -/
def Near (w : World) (v v' : Value) : Prop := ∀ k, v'.ownBlock = some k → v.ownBlock = some k ∨ w.heap.size ≤ k
theorem Near.of_or {w : World} {v v' : Value} (h : v'.ownBlock = v.ownBlock ∨ ∃ b, v'.ownBlock = some b ∧ w.heap.size ≤ b) : Near w v v' := by
  intro k hk
  rcases h with h | ⟨b, h, hb⟩
  · exact .inl (h ▸ hk)
  · rw [h] at hk
    injection hk with hk
    exact .inr (hk ▸ hb)
/-- Two rows lie apart. -/
def Sep (p q : Value) : Prop := ∀ k, p.ownBlock = some k → q.ownBlock ≠ some k
theorem Sep.symm {p q : Value} (h : Sep p q) : Sep q p := fun k hk hk' => h k hk' hk
theorem Sep.near {w : World} {p q p' : Value} (h : Sep p q) (hn : Near w p p') (hq : ∀ k, q.ownBlock = some k → k < w.heap.size) : Sep p' q := by
  intro k hk hk'
  rcases hn k hk with h1 | h1
  · exact h k h1 hk'
  · have := hq k hk'; omega
theorem Sep.fresh {w : World} {p q : Value} (hp : ∀ k, p.ownBlock = some k → w.heap.size ≤ k) (hq : ∀ k, q.ownBlock = some k → k < w.heap.size) : Sep p q := by
  intro k hk hk'
  have := hp k hk; have := hq k hk'; omega
theorem Turn.trans {w w1 w2 : World} {S S' S'' : Nat → Prop} (h1 : Turn w w1 S) (h2 : Turn w1 w2 S') (hs : ∀ k, S k → S'' k) (hs' : ∀ k, S' k → S'' k) : Turn w w2 S'' :=
  ⟨h2.os.trans h1.os, h2.tape.trans h1.tape, h2.output.trans h1.output, Nat.le_trans h1.size h2.size, fun k hk hn => (h2.block k (Nat.lt_of_lt_of_le hk h1.size) (fun h => hn (hs' k h))).trans (h1.block k hk (fun h => hn (hs k h)))⟩
theorem Turn.set (w : World) (p : Addr) (u : Value) : Turn w (w.setCell p u) (fun k => k = p.block) := ⟨rfl, rfl, rfl, by simp [World.setCell], fun k _ hn => Below.heap_setCell _ _ _ _ (fun e => hn e)⟩
theorem PutPost.both2 {w w' : World} {B s g : Nat} {v u : Value} {xs ys : List Int} {next limit : Int} {ws : List Int} (h : PutPost w B s v ys w') (hb : Both w B s g v u xs next limit ws) : ∃ v', Both w' B s g v' u ys next limit ws ∧ Turn w w' (fun k => k = s ∨ some k = v.ownBlock) ∧ Near w v v' := by
  obtain ⟨v', hs, ht, hv⟩ := h
  obtain ⟨v2, hb2⟩ := PutPost.both ⟨v', hs, ht, hv⟩ hb
  refine ⟨v', ⟨hs, ?_, ?_⟩, ht, .of_or hv⟩
  · exact hb2.gate
  · intro k hk hk'
    exact (Sep.near (fun k h => hb.sep k h) (.of_or hv) (own_lt hb.gate.own)) k hk hk'
theorem OfferPost.both2 {w w' : World} {B s g : Nat} {v u : Value} {xs : List Int} {next limit : Int} {ws ws' : List Int} (h : OfferPost w B g u next limit ws' w') (hb : Both w B s g v u xs next limit ws) : ∃ u', Both w' B s g v u' xs next limit ws' ∧ Turn w w' (fun k => k = g ∨ some k = u.ownBlock) ∧ Near w u u' := by
  obtain ⟨u', hs, ht, hv⟩ := h
  obtain ⟨⟨u2, hb2⟩, _⟩ := OfferPost.both ⟨u', hs, ht, hv⟩ hb
  refine ⟨u', ⟨hb2.sink, hs, ?_⟩, ht, .of_or hv⟩
  intro k hk hk'
  exact (Sep.near (Sep.symm (fun k h => hb.sep k h)) (.of_or hv) (own_lt hb.sink.own)) k hk' hk

/-- What a round of GatePlays finds: the sink and the gate, the document's list and the document's waiting numbers, each in a row of its own. -/
structure St (wB w : World) (s g : Nat) (v u a t : Value) (xs : List Int) (nx lim : Int) (ws al wt : List Int) : Prop where
  both : Both w wB.heap.size s g v u xs nx lim ws
  all : w.ownsRow wB.heap.size 3 1 a al.length (nums .i64 al)
  wait : w.ownsRow wB.heap.size 3 1 t wt.length (nums .i64 wt)
  va : Sep v a
  vt : Sep v t
  ua : Sep u a
  ut : Sep u t
  at_ : Sep a t
  below : Below wB.heap.size wB w
section
variable {wB w w' : World} {s g : Nat} {v u a t : Value} {xs : List Int} {nx lim : Int} {ws al wt : List Int}
theorem St.keep (h : St wB w s g v u a t xs nx lim ws al wt) (hb : Below w.heap.size w w') : St wB w' s g v u a t xs nx lim ws al wt :=
  ⟨h.both.below hb, pw_own_below h.all hb, pw_own_below h.wait hb, h.va, h.vt, h.ua, h.ut, h.at_, below_then h.below h.below.size hb⟩
theorem row_turn {S : Nat → Prop} {p : Value} {ls : List Int} {B : Nat} (ho : w.ownsRow B 3 1 p ls.length (nums .i64 ls)) (ht : Turn w w' S) (hn : ∀ k, p.ownBlock = some k → ¬ S k) : w'.ownsRow B 3 1 p ls.length (nums .i64 ls) :=
  own_move ho (fun k hk => ht.block k (own_lt ho k hk) (hn k hk))
theorem St.put {ys : List Int} (h : St wB w s g v u a t xs nx lim ws al wt) (hp : PutPost w wB.heap.size s v ys w') : ∃ v', St wB w' s g v' u a t ys nx lim ws al wt ∧ Turn w w' (fun k => k = s ∨ some k = v.ownBlock) ∧ Near w v v' := by
  obtain ⟨v', hb, ht, hn⟩ := hp.both2 h.both
  refine ⟨v', ⟨hb, row_turn h.all ht ?_, row_turn h.wait ht ?_, h.va.near hn (own_lt h.all), h.vt.near hn (own_lt h.wait), h.ua, h.ut, h.at_, h.below.trans (hp.below h.both.sink)⟩, ht, hn⟩
  · rintro k hk (e | e)
    · subst e; exact own_ne h.all h.both.sink.blk (by decide) hk.symm
    · exact h.va k e.symm hk
  · rintro k hk (e | e)
    · subst e; exact own_ne h.wait h.both.sink.blk (by decide) hk.symm
    · exact h.vt k e.symm hk
theorem St.offer {ws' : List Int} (h : St wB w s g v u a t xs nx lim ws al wt) (hp : OfferPost w wB.heap.size g u nx lim ws' w') : ∃ u', St wB w' s g v u' a t xs nx lim ws' al wt ∧ Turn w w' (fun k => k = g ∨ some k = u.ownBlock) ∧ Near w u u' := by
  obtain ⟨u', hb, ht, hn⟩ := hp.both2 h.both
  refine ⟨u', ⟨hb, row_turn h.all ht ?_, row_turn h.wait ht ?_, h.va, h.vt, h.ua.near hn (own_lt h.all), h.ut.near hn (own_lt h.wait), h.at_, h.below.trans (hp.both h.both).2⟩, ht, hn⟩
  · rintro k hk (e | e)
    · subst e; exact own_ne h.all h.both.gate.blk (by decide) hk.symm
    · exact h.ua k e.symm hk
  · rintro k hk (e | e)
    · subst e; exact own_ne h.wait h.both.gate.blk (by decide) hk.symm
    · exact h.ut k e.symm hk
theorem St.release {v' u' : Value} {ys ws' : List Int} {nx' : Int} (h : St wB w s g v u a t xs nx lim ws al wt) (hb : Both w' wB.heap.size s g v' u' ys nx' lim ws') (ht : Turn w w' (fun k => k = s ∨ k = g ∨ some k = v.ownBlock ∨ some k = u.ownBlock)) (hv : Near w v v') (hu : Near w u u') (hbl : Below wB.heap.size w w') : St wB w' s g v' u' a t ys nx' lim ws' al wt := by
  refine ⟨hb, row_turn h.all ht ?_, row_turn h.wait ht ?_, h.va.near hv (own_lt h.all), h.vt.near hv (own_lt h.wait), h.ua.near hu (own_lt h.all), h.ut.near hu (own_lt h.wait), h.at_, h.below.trans hbl⟩
  · rintro k hk (e | e | e | e)
    · subst e; exact own_ne h.all h.both.sink.blk (by decide) hk.symm
    · subst e; exact own_ne h.all h.both.gate.blk (by decide) hk.symm
    · exact h.va k e.symm hk
    · exact h.ua k e.symm hk
  · rintro k hk (e | e | e | e)
    · subst e; exact own_ne h.wait h.both.sink.blk (by decide) hk.symm
    · subst e; exact own_ne h.wait h.both.gate.blk (by decide) hk.symm
    · exact h.vt k e.symm hk
    · exact h.ut k e.symm hk
/-- A turn of blocks that are none of ours. -/
theorem St.other {S : Nat → Prop} (h : St wB w s g v u a t xs nx lim ws al wt) (ht : Turn w w' S) (hS : ∀ k, S k → k ≠ s ∧ k ≠ g ∧ v.ownBlock ≠ some k ∧ u.ownBlock ≠ some k ∧ a.ownBlock ≠ some k ∧ t.ownBlock ≠ some k) (hB : ∀ k, S k → wB.heap.size ≤ k) : St wB w' s g v u a t xs nx lim ws al wt :=
  ⟨⟨h.both.sink.turn ht (fun e => (hS _ e).1 rfl) (fun k hk e => (hS _ e).2.2.1 hk), h.both.gate.turn ht (fun e => (hS _ e).2.1 rfl) (fun k hk e => (hS _ e).2.2.2.1 hk), h.both.sep⟩,
    row_turn h.all ht (fun k hk e => (hS _ e).2.2.2.2.1 hk), row_turn h.wait ht (fun k hk e => (hS _ e).2.2.2.2.2 hk), h.va, h.vt, h.ua, h.ut, h.at_, h.below.trans (below_of_turn ht hB h.below.size)⟩
/-- The document's list is made anew, out of its own row. -/
theorem St.newAll {a' : Value} {al' : List Int} (h : St wB w s g v u a t xs nx lim ws al wt) (hk : Turn w w' (fun k => some k = a.ownBlock)) (ho : w'.ownsRow wB.heap.size 3 1 a' al'.length (nums .i64 al')) (hn : Near w a a') : St wB w' s g v u a' t xs nx lim ws al' wt := by
  refine ⟨⟨h.both.sink.turn hk ?_ ?_, h.both.gate.turn hk ?_ ?_, h.both.sep⟩, ho, row_turn h.wait hk ?_, (h.va.symm.near hn (own_lt h.both.sink.own)).symm, h.vt, (h.ua.symm.near hn (own_lt h.both.gate.own)).symm, h.ut, h.at_.near hn (own_lt h.wait), h.below.trans (below_of_turn hk (fun k e => own_base h.all k e.symm) h.below.size)⟩
  · exact own_ne h.all h.both.sink.blk (by decide)
  · exact fun k e e' => h.va k e e'.symm
  · exact own_ne h.all h.both.gate.blk (by decide)
  · exact fun k e e' => h.ua k e e'.symm
  · exact fun k e e' => h.at_ k e'.symm e
/-- The document's waiting numbers are put further, in their own row. -/
theorem St.newWait {t' : Value} {wt' : List Int} (h : St wB w s g v u a t xs nx lim ws al wt) (hk : Turn w w' (fun k => some k = t.ownBlock)) (ho : w'.ownsRow wB.heap.size 3 1 t' wt'.length (nums .i64 wt')) (hn : Near w t t') : St wB w' s g v u a t' xs nx lim ws al wt' := by
  refine ⟨⟨h.both.sink.turn hk ?_ ?_, h.both.gate.turn hk ?_ ?_, h.both.sep⟩, row_turn h.all hk ?_, ho, h.va, (h.vt.symm.near hn (own_lt h.both.sink.own)).symm, h.ua, (h.ut.symm.near hn (own_lt h.both.gate.own)).symm, (h.at_.symm.near hn (own_lt h.all)).symm, h.below.trans (below_of_turn hk (fun k e => own_base h.wait k e.symm) h.below.size)⟩
  · exact own_ne h.wait h.both.sink.blk (by decide)
  · exact fun k e e' => h.vt k e e'.symm
  · exact own_ne h.wait h.both.gate.blk (by decide)
  · exact fun k e e' => h.ut k e e'.symm
  · exact fun k e e' => h.at_ k e e'.symm
end
set_option maxRecDepth 100000 in
theorem release_turn (B s g : Nat) (v u : Value) (xs : List Int) (next limit : Int) (ws : List Int) (n : Int) (ys : List Int) (k er : Int) (w : World) (hb : Both w B s g v u xs next limit ws) (hl : 1 ≤ limit) (hn0 : 0 ≤ n) (hn1 : n ≤ ws.length)
    (hsz : (xs.length + ws.length) * 8 ≤ 140737488355328) (hp : putP xs next (ws.take n.toNat) = (ys, k, er)) :
    Calls Try.prog 21 #[.pointer (some ⟨g, 0, none⟩), .int .i64 n, .pointer (some ⟨s, 0, none⟩)] w fun e w' => e = .returned (.tuple #[.int .i64 k, .int .i64 er]) ∧ Below B w w' ∧
      ((er = 0 ∧ ∃ v' u', Both w' B s g v' u' ys (wrap64 (next + n)) limit (ws.drop n.toNat) ∧ Turn w w' (fun k => k = s ∨ k = g ∨ some k = v.ownBlock ∨ some k = u.ownBlock) ∧ Near w v v' ∧ Near w u u') ∨ (er ≠ 0 ∧ ∃ v', Both w' B s g v' u ys next limit ws ∧ Turn w w' (fun k => k = s ∨ k = g ∨ some k = v.ownBlock ∨ some k = u.ownBlock) ∧ Near w v v')) := by
  obtain ⟨A, c, rfl, hwc, hr⟩ := own_rd hb.gate.own
  have h0 : w.cell? ⟨g, 0, none⟩ = some (.int .i64 next) := (blk_cell hb.gate.blk 0).trans rfl
  have h2 : w.cell? ⟨g, 2, none⟩ = some (.slice A ws.length c) := (blk_cell hb.gate.blk 2).trans rfl
  obtain ⟨i, hi, his⟩ := info3'
  have hwl := hr.2.1
  obtain ⟨cutA, rdA, leA⟩ := print_take_of (P := Try.prog) (Value.int .i64) (0 : Int) 27 3 .i64 Try.underlying27 hi his A c ws n hn0 hn1 hwc
  obtain ⟨A3, cut3, rd3, le3⟩ := print_drop_of (P := Try.prog) (Value.int .i64) (0 : Int) 27 3 .i64 Try.underlying27 hi his A c ws n hn0 hn1 hwc
  have HT := Aside0.mk (Rd.of (rdA w hr.ints))
  skip
  have HG := Lib.hid (gis_any g _ next limit w hl hb.gate.blk)
  have HS := Aside0.mk hb.sink
  have HP := Aside0.mk hp
  have HB := Aside0.mk hb
  have hlt0 : (ws.take n.toNat).length ≤ ws.length := by rw [List.length_take]; omega
  have hct := leA
  have hlt : (xs.length + (ws.take n.toNat).length) * 8 ≤ 140737488355328 := by omega
  have hld : (ws.drop n.toNat).length * 8 ≤ 140737488355328 := by rw [List.length_drop]; omega
  clear rdA hp hr hb leA hlt0
  generalize ws.take n.toNat = lt at *
  generalize hdl : ws.drop n.toNat = ld at *
  have d1 : decide (n < 0) = false := decide_eq_false (by omega)
  have d2 : decide ((ws.length : Int) < n) = false := decide_eq_false (by omega)
  go_enter Try.func21, Try.ntmps21
  go_wp2_with fail
  refine HG.out.mono ?_
  rintro e w' ⟨rfl, rfl⟩
  go_wp2_with fail
  refine start_ (n := 18) (S := fun w' => w'.cell? ⟨g, 0, none⟩ = some (.int .i64 next) ∧ w'.cell? ⟨g, 2, none⟩ = some (.slice A ws.length c)) (ds := [12]) #[false, false, false, false, false, false, false, false, false, false, false, false, false, false, false, false, false, false] (by kernel_rfl) rfl rfl ⟨h0, h2⟩ (fun hHeld => ?_)
  refine pure_ (i := 0) (N := some 27) (v := ?_) (a' := ?_) #[true, false, false, false, false, false, false, false, false, false, false, false, false, false, false, false, false, false] rfl rfl (by kernel_rfl) (fun _ _ _ h => h) (Or.inl ⟨by rfl, ?_⟩) ?_ ?_
  rotate_left
  · intro w'
    go_simp
    with_reducible rfl
  rotate_left
  · simp only [Act.put, List.setIfInBounds_toArray, List.set_cons_zero, List.set_cons_succ, i64_w, i32_w]
    rfl
  refine pure_ (i := 1) (N := some 28) (v := ?_) (a' := ?_) #[true, true, false, false, false, false, false, false, false, false, false, false, false, false, false, false, false, false] rfl rfl (by kernel_rfl) (fun _ _ _ h => h) (Or.inl ⟨by rfl, ?_⟩) ?_ ?_
  rotate_left
  · intro w'
    go_simp
    with_reducible rfl
  rotate_left
  · simp only [Act.put, List.setIfInBounds_toArray, List.set_cons_zero, List.set_cons_succ, i64_w, i32_w]
    rfl
  refine pure_ (i := 2) (N := some 29) (v := ?_) (a' := ?_) #[true, true, true, false, false, false, false, false, false, false, false, false, false, false, false, false, false, false] rfl rfl (by kernel_rfl) (fun _ _ _ h => h) (Or.inl ⟨by rfl, ?_⟩) ?_ ?_
  rotate_left
  · intro w'
    go_simp
    with_reducible rfl
  rotate_left
  · simp only [Act.put, List.setIfInBounds_toArray, List.set_cons_zero, List.set_cons_succ, i64_w, i32_w]
    rfl
  refine pure_ (i := 3) (N := some 30) (v := ?_) (a' := ?_) #[true, true, true, true, false, false, false, false, false, false, false, false, false, false, false, false, false, false] rfl rfl (by kernel_rfl) (fun _ _ _ h => h) (Or.inl ⟨by rfl, ?_⟩) ?_ ?_
  rotate_left
  · intro w'
    go_simp
    with_reducible rfl
  rotate_left
  · simp only [Act.put, List.setIfInBounds_toArray, List.set_cons_zero, List.set_cons_succ, i64_w, i32_w]
    rfl
  refine pure_ (i := 4) (N := some 31) (v := ?_) (a' := ?_) #[true, true, true, true, true, false, false, false, false, false, false, false, false, false, false, false, false, false] rfl rfl (by kernel_rfl) (fun _ _ _ h => h) (Or.inl ⟨by rfl, ?_⟩) ?_ ?_
  rotate_left
  · intro w'
    go_simp
    with_reducible rfl
  rotate_left
  · simp only [Act.put, List.setIfInBounds_toArray, List.set_cons_zero, List.set_cons_succ, i64_w, i32_w]
    rfl
  refine pure_ (i := 6) (N := some 33) (v := ?_) (a' := ?_) #[true, true, true, true, true, false, true, false, false, false, false, false, false, false, false, false, false, false] rfl rfl (by kernel_rfl) (fun _ _ _ h => h) (Or.inl ⟨by rfl, ?_⟩) ?_ ?_
  rotate_left
  · intro w'
    go_simp
    with_reducible rfl
  rotate_left
  · simp only [Act.put, List.setIfInBounds_toArray, List.set_cons_zero, List.set_cons_succ, i64_w, i32_w]
    rfl
  refine pure_ (i := 7) (N := some 34) (v := ?_) (a' := ?_) #[true, true, true, true, true, false, true, true, false, false, false, false, false, false, false, false, false, false] rfl rfl (by kernel_rfl) (fun _ _ _ h => h) (Or.inl ⟨by rfl, ?_⟩) ?_ ?_
  rotate_left
  · intro w'
    go_simp
    with_reducible rfl
  rotate_left
  · simp only [Act.put, List.setIfInBounds_toArray, List.set_cons_zero, List.set_cons_succ, i64_w, i32_w]
    rfl
  refine pure_ (i := 8) (N := some 35) (v := ?_) (a' := ?_) #[true, true, true, true, true, false, true, true, true, false, false, false, false, false, false, false, false, false] rfl rfl (by kernel_rfl) (fun _ _ _ h => h) (Or.inl ⟨by rfl, ?_⟩) ?_ ?_
  rotate_left
  · intro w'
    go_simp
    with_reducible rfl
  rotate_left
  · simp only [Act.put, List.setIfInBounds_toArray, List.set_cons_zero, List.set_cons_succ, i64_w, i32_w]
    rfl
  refine pure_ (i := 10) (N := some 37) (v := ?_) (a' := ?_) #[true, true, true, true, true, false, true, true, true, false, true, false, false, false, false, false, false, false] rfl rfl (by kernel_rfl) (fun _ _ _ h => h) (Or.inl ⟨by rfl, ?_⟩) ?_ ?_
  rotate_left
  · intro w'
    go_simp
    with_reducible rfl
  rotate_left
  · simp only [Act.put, List.setIfInBounds_toArray, List.set_cons_zero, List.set_cons_succ, i64_w, i32_w]
    rfl
  refine take_ (i := 5) (N := some 32) (v := ?_) (a' := ?_) #[true, true, true, true, true, true, true, true, true, false, true, false, false, false, false, false, false, false] rfl rfl (by kernel_rfl) (fun _ _ _ h => h) (Or.inl ⟨by rfl, ?_⟩) hHeld ?_ ?_
  rotate_left
  · rintro w' ⟨s0, s1⟩
    go_simp
    with_reducible rfl
  rotate_left
  · simp only [Act.put, List.setIfInBounds_toArray, List.set_cons_zero, List.set_cons_succ, i64_w, i32_w]
    rfl
  refine take_ (i := 9) (N := some 36) (v := ?_) (a' := ?_) #[true, true, true, true, true, true, true, true, true, true, true, false, false, false, false, false, false, false] rfl rfl (by kernel_rfl) (fun _ _ _ h => h) (Or.inl ⟨by rfl, ?_⟩) hHeld ?_ ?_
  rotate_left
  · rintro w' ⟨s0, s1⟩
    go_simp
    with_reducible rfl
  rotate_left
  · simp only [Act.put, List.setIfInBounds_toArray, List.set_cons_zero, List.set_cons_succ, i64_w, i32_w]
    rfl
  refine pure_ (i := 11) (N := some 38) (v := ?_) (a' := ?_) #[true, true, true, true, true, true, true, true, true, true, true, true, false, false, false, false, false, false] rfl rfl (by kernel_rfl) (fun _ _ _ h => h) (Or.inl ⟨by rfl, ?_⟩) ?_ ?_
  rotate_left
  · intro w'
    go_simp
    with_reducible rfl
  rotate_left
  · simp only [Act.put, List.setIfInBounds_toArray, List.set_cons_zero, List.set_cons_succ, i64_w, i32_w]
    rfl
  refine last_ (i := 12) (N := some 39) #[true, true, true, true, true, true, true, true, true, true, true, true, true, false, false, false, false, false] rfl rfl (by kernel_rfl) (by decide) (fun K hK => ?_)
  refine goes_ Try.func13 (by kernel_rfl) rfl #[.pointer (some ⟨s, 0, none⟩), .int .i64 next, .slice A lt.length c] (by rfl) rfl rfl (by simp only [List.map_toArray, List.map_cons, List.map_nil]; rfl) ?_
  with_reducible refine (put_to B s v xs next A c lt.length lt ys k er w.drew (HS.out.below (pw_below_drewN (Below.refl _ _) 1)) rfl (Kd.C_below HT.out (pw_below_drewN (Below.refl _ _) 1)) hct hlt HP.out).mono ?_
  rintro e w3 ⟨rfl, HPP⟩
  refine ⟨_, rfl, ?_⟩
  refine hK.out _ _ ?_
  clear hK K
  refine norm_ (a' := ?_) ?_ ?_
  rotate_left
  · show Act.put _ (some 39) _ = _
    simp only [Act.put, List.setIfInBounds_toArray, List.set_cons_zero, List.set_cons_succ, i64_w, i32_w]
    rfl
  refine pure_ (i := 13) (N := some 26) (v := ?_) (a' := ?_) #[true, true, true, true, true, true, true, true, true, true, true, true, true, true, false, false, false, false] rfl rfl (by kernel_rfl) (fun _ _ _ h => h) (Or.inl ⟨by rfl, ?_⟩) ?_ ?_
  rotate_left
  · intro w'
    go_simp
    with_reducible rfl
  rotate_left
  · simp only [Act.put, List.setIfInBounds_toArray, List.set_cons_zero, List.set_cons_succ, i64_w, i32_w]
    rfl
  refine pure_ (i := 14) (N := some 40) (v := ?_) (a' := ?_) #[true, true, true, true, true, true, true, true, true, true, true, true, true, true, true, false, false, false] rfl rfl (by kernel_rfl) (fun _ _ _ h => h) (Or.inl ⟨by rfl, ?_⟩) ?_ ?_
  rotate_left
  · intro w'
    go_simp
    with_reducible rfl
  rotate_left
  · simp only [Act.put, List.setIfInBounds_toArray, List.set_cons_zero, List.set_cons_succ, i64_w, i32_w]
    rfl
  refine pure_ (i := 15) (N := some 41) (v := ?_) (a' := ?_) #[true, true, true, true, true, true, true, true, true, true, true, true, true, true, true, true, false, false] rfl rfl (by kernel_rfl) (fun _ _ _ h => h) (Or.inl ⟨by rfl, ?_⟩) ?_ ?_
  rotate_left
  · intro w'
    go_simp
    with_reducible rfl
  rotate_left
  · simp only [Act.put, List.setIfInBounds_toArray, List.set_cons_zero, List.set_cons_succ, i64_w, i32_w]
    rfl
  refine pure_ (i := 16) (N := some 8) (v := ?_) (a' := ?_) #[true, true, true, true, true, true, true, true, true, true, true, true, true, true, true, true, true, false] rfl rfl (by kernel_rfl) (fun _ _ _ h => h) (Or.inl ⟨by rfl, ?_⟩) ?_ ?_
  rotate_left
  · intro w'
    go_simp
    with_reducible rfl
  rotate_left
  · simp only [Act.put, List.setIfInBounds_toArray, List.set_cons_zero, List.set_cons_succ, i64_w, i32_w]
    rfl
  refine pure_ (i := 17) (N := some 9) (v := ?_) (a' := ?_) #[true, true, true, true, true, true, true, true, true, true, true, true, true, true, true, true, true, true] rfl rfl (by kernel_rfl) (fun _ _ _ h => h) (Or.inl ⟨by rfl, ?_⟩) ?_ ?_
  rotate_left
  · intro w'
    go_simp
    with_reducible rfl
  rotate_left
  · simp only [Act.put, List.setIfInBounds_toArray, List.set_cons_zero, List.set_cons_succ, i64_w, i32_w]
    rfl
  refine done_ (by kernel_rfl) ?_

  have HB3 := Aside0.mk (HPP.both2 (w := w.drew) (HB.out.below (pw_below_drewN (Below.refl _ _) 1)))
  have HBL := Aside0.mk (show Below B w w3 from (pw_below_drewN (Below.refl _ _) 1 : Below B w w.drew).trans (HPP.below (HS.out.below (pw_below_drewN (Below.refl _ _) 1))))
  by_cases he : er = 0
  · have he1 : (er == 0) = true := beq_iff_eq.mpr he
    obtain ⟨v3, hb3, ht3, hv3⟩ := HB3.out
    have HT3 := Aside0.mk (And.intro ht3 hv3)
    clear ht3 hv3
    have HGO := Lib.hid (goes_at g _ next limit n w3 hb3.gate.blk)
    go_wp2_with fail
    refine HGO.out.mono ?_
    rintro e w4 ⟨rfl, rfl⟩
    have hbk4 := blk_set hb3.gate.blk 0 (.int .i64 (wrap64 (next + n)))
    have hb4' := hbk4
    simp only [List.setIfInBounds_toArray, List.set_cons_zero, List.set_cons_succ] at hb4'
    have h24 : (w3.setCell ⟨g, 0, none⟩ (.int .i64 (wrap64 (next + n)))).cell? ⟨g, 2, none⟩ = some (.slice A ws.length c) := (blk_cell hb4' 2).trans rfl
    have hneg : some g ≠ (Value.slice A ws.length c).ownBlock := own_ne hb3.gate.own hb3.gate.blk (by decide)
    have hnes : some g ≠ v3.ownBlock := own_ne hb3.sink.own hb3.gate.blk (by decide)
    have HB4 : Both (w3.setCell ⟨g, 0, none⟩ (.int .i64 (wrap64 (next + n)))) B s g v3 (.slice A ws.length c) ys (wrap64 (next + n)) limit ws :=
      ⟨⟨blk_far hb3.sink.blk hb3.ne _, hb3.sink.ge, own_setCell hb3.sink.own hnes _⟩, ⟨hb4', hb3.gate.ge, own_setCell hb3.gate.own hneg _⟩, hb3.sep⟩
    have HR4 : Rd (w3.setCell ⟨g, 0, none⟩ (.int .i64 (wrap64 (next + n)))) A ws := by
      obtain ⟨A', c', he', _, h⟩ := own_rd HB4.gate.own
      injection he' with he' _ _
      subst he'
      exact h
    have HT4 := Aside0.mk (Turn.trans (w := w) (S := fun k => k = s ∨ some k = v.ownBlock) ⟨HT3.out.1.os, HT3.out.1.tape, HT3.out.1.output, HT3.out.1.size, HT3.out.1.block⟩ (Turn.set w3 ⟨g, 0, none⟩ (.int .i64 (wrap64 (next + n)))) (S'' := fun k => k = s ∨ k = g ∨ some k = v.ownBlock ∨ some k = (Value.slice A ws.length c).ownBlock) (fun k h => Or.elim h Or.inl (fun h => .inr (.inr (.inl h)))) (fun k h => .inr (.inl h)))
    have HV3 := Aside0.mk (show Near w v v3 from HT3.out.2)
    clear HT3
    have HBL4 : Below B w (w3.setCell ⟨g, 0, none⟩ (.int .i64 (wrap64 (next + n)))) := HBL.out.trans ⟨rfl, rfl, rfl, by simp [World.setCell], fun k hk => Below.heap_setCell _ _ _ _ (by have := hb3.gate.ge; simp; omega)⟩
    have HB4' := Aside0.mk HB4
    have HR4' := Aside0.mk HR4
    have HBL4' := Aside0.mk HBL4
    clear HB4 HR4 HBL4 hbk4 hb4' hb3 HGO HB3 HBL
    generalize w3.setCell ⟨g, 0, none⟩ (.int .i64 (wrap64 (next + n))) = w4 at *
    have HD4 := Aside0.mk (Rd.of (rd3 w4 HR4'.out.ints))
    have HC := Lib.hid (clone_any A3 (c - n.toNat) ld w4 HD4.out hld)
    go_wp2_with fail
    refine HC.out.mono ?_
    rintro e w5 ⟨u5, rfl, ho5, hb5⟩
    have hb5' := HB4'.out.below hb5
    have hbk5 := hb5'.gate.blk
    have hfz5 := blk_frozen hbk5 2
    have h25 : w5.cell? ⟨g, 2, none⟩ = some (.slice A ws.length c) := (blk_cell hbk5 2).trans rfl
    have hn5 : some g ≠ u5.ownBlock := own_ne ho5 hbk5 (by decide)
    have hns5 : some g ≠ v3.ownBlock := own_ne hb5'.sink.own hbk5 (by decide)
    have hlt5 := hb5.size
    obtain ⟨A5, c5, rfl, -, -⟩ := own_rd ho5
    have hB4 := HB4'.out.base
    go_wp2_with fail
    go_ret2
    refine ⟨by rw [he]; rfl, ?_, .inl ⟨he, v3, _, ⟨⟨blk_far hb5'.sink.blk hb5'.ne _, hb5'.sink.ge, own_setCell hb5'.sink.own hns5 _⟩, ⟨by simpa using blk_set hbk5 2 _, hb5'.gate.ge, own_setCell (own_weaken ho5 hB4) hn5 _⟩, fun k hk hk' => ?_⟩, (Turn.trans (HT4.out.trans (Turn.of_below hb5 (fun _ => False)) (fun k h => h) (fun k h => h.elim)) (Turn.set w5 ⟨g, 2, none⟩ _) (fun k h => h) (fun k h => .inr (.inl h))), HV3.out, fun k hk => .inr ?_⟩⟩
    · exact (HBL4'.out.trans (below_then (Below.refl B w4) hB4 hb5)).trans ⟨rfl, rfl, rfl, by simp [World.setCell], fun k hk => Below.heap_setCell _ _ _ _ (by have := hb5'.gate.ge; simp; omega)⟩
    · have h1 := own_base ho5 k hk'
      have h2 := own_lt HB4'.out.sink.own k hk
      omega
    · have h1 := own_base ho5 k hk
      have h2 := HT4.out.size
      omega
  · have he1 : (er == 0) = false := beq_eq_false_iff_ne.mpr he
    go_wp2
    go_ret2
    exact ⟨rfl, HBL.out, .inr ⟨he, by obtain ⟨v3, hb3, ht3, hv3⟩ := HB3.out; exact ⟨v3, hb3, Turn.trans (w := w) (S := fun k => k = s ∨ some k = v.ownBlock) ⟨ht3.os, ht3.tape, ht3.output, ht3.size, ht3.block⟩ (Turn.of_below (Below.refl _ _) (fun _ => False)) (fun k h => Or.elim h Or.inl (fun h => .inr (.inr (.inl h)))) (fun k h => h.elim), hv3⟩⟩⟩
end Go.Proofs.Ythijcbihdkheoaa.G
