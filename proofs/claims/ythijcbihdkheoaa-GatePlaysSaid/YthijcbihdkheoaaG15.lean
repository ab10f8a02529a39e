/- The copy and the document's put, as GatePlays uses them. -/
import Derived.Test.YthijcbihdkheoaaG14
namespace Go.Proofs.Ythijcbihdkheoaa.G
open Go.RowKit Go.Proofs.YthijcbihdkheoaaW.PrintWords Go.Proofs.YthijcbihdkheoaaW.PrintLast Go.Proofs.YthijcbihdkheoaaW.PrintMore
set_option linter.unusedSimpArgs false
set_option linter.unusedVariables false
theorem ints_any (A0 : Option Addr) (c0 : Nat) (l : List Int) (w : World) (hr : Rd w A0 l) (hc : l.length ≤ c0) (hn : l.length ≤ 1000000000) :
    Calls Try.prog 24 #[.slice A0 l.length c0] w fun e w' => ∃ u A c, e = .returned u ∧ u = .slice A l.length c ∧ l.length ≤ c ∧ w'.ownsRow w.heap.size 3 1 u l.length (nums .i64 l) ∧ Below w.heap.size w w' := by
  have hf : PGatePlays.larchbase_Ints.f l = some l := by
    unfold PGatePlays.larchbase_Ints.f
    simp only [Option.bind_some]
    rw [if_pos (by simp; omega)]
    simp
  refine (PGatePlays.larchbase_Ints.calls A0 c0 l l w hr hc hf).mono ?_
  rintro e w' ⟨v, rfl, hR, hb⟩
  have ho := Kd.own_of_R (enc := Value.int .i64) (h1 := fun _ => rfl) hR
  obtain ⟨A', c', rfl, hl, _⟩ := own_rd ho
  exact ⟨_, A', c', rfl, rfl, hl, ho, hb⟩
section
variable {wB w : World} {s g : Nat} {v u a t : Value} {xs : List Int} {nx lim : Int} {ws al wt : List Int}
theorem refput_any {ys : List Int} {m er : Int} (h : St wB w s g v u a t xs nx lim ws al wt) (p : Int) (A2 : Option Addr) (c2 n2 : Nat) (ls : List Int) (hl : ls.length = n2) (hr2 : ∀ W', Kept w W' (fun k => some k = a.ownBlock) → Rd W' A2 ls) (hc2 : ls.length ≤ c2) (hb : al.length + ls.length ≤ 1000000000) (hp : putP al p ls = (ys, m, er)) :
    Calls Try.prog 25 #[a, .int .i64 p, .slice A2 n2 c2] w fun e w' => ∃ a' A c, e = .returned (.tuple #[a', .int .i64 m, .int .i64 er]) ∧ a' = .slice A ys.length c ∧ St wB w' s g v u a' t xs nx lim ws ys wt ∧ Turn w w' (fun k => some k = a.ownBlock) ∧ Near w a a' := by
  obtain ⟨k, hk⟩ := ref_f al ls p hb
  rw [hp] at hk
  subst hl
  refine (PGatePlays.larchref22_Put.calls k (fun k => some k = a.ownBlock) a al p A2 c2 ls _ _ _ wB w h.below (Kd.R_of_own (enc := Value.int .i64) (h1 := fun _ => rfl) h.all (fun k hk => hk.symm)) hr2 hc2 hk).mono ?_
  rintro e w' ⟨a', rfl, hR, hbl, hkept⟩
  have ho := Kd.own_of_R (enc := Value.int .i64) (h1 := fun _ => rfl) hR
  have hn : Near w a a' := fun k hk => by
    rcases hR.1 k hk with h1 | h1
    · exact .inl h1.symm
    · exact .inr h1
  have ht : Turn w w' (fun k => some k = a.ownBlock) := ⟨hbl.os.trans h.below.os.symm, hbl.tape.trans h.below.tape.symm, hbl.output.trans h.below.output.symm, hkept.1, fun k hk hn => hkept.2 k hk hn⟩
  have hs := h.newAll ht ho hn
  obtain ⟨A', c', rfl, hl, _⟩ := own_rd ho
  exact ⟨_, A', c', rfl, rfl, hs, ht, hn⟩
theorem St.slices (h : St wB w s g v u a t xs nx lim ws al wt) : (∃ A c, a = .slice A al.length c ∧ al.length ≤ c ∧ Rd w A al) ∧ ∃ A c, t = .slice A wt.length c ∧ wt.length ≤ c ∧ Rd w A wt := ⟨own_rd h.all, own_rd h.wait⟩
theorem St.old (h : St wB w s g v u a t xs nx lim ws al wt) {S : Nat → Prop} (hS : ∀ k, S k → wB.heap.size ≤ k) {w' : World} (hk : Kept w w' S) : ∀ k, k < wB.heap.size → w'.heap[k]? = wB.heap[k]? := fun k hk' =>
  (hk.2 k (Nat.lt_of_lt_of_le hk' h.below.size) (fun e => by have := hS k e; omega)).trans (h.below.block k hk')
end
/-- The law's own copy: a row apart from all others. -/
structure Own (wB w : World) (o v u a t : Value) (os : List Int) : Prop where
  row : w.ownsRow wB.heap.size 3 1 o os.length (nums .i64 os)
  ov : Sep o v
  ou : Sep o u
  oa : Sep o a
  ot : Sep o t
theorem Near.rfl' {w : World} {v : Value} : Near w v v := fun _ h => .inl h
theorem Own.turn {wB w w' : World} {o v u a t v' u' a' t' : Value} {os : List Int} {S : Nat → Prop} (h : Own wB w o v u a t os) (ht : Turn w w' S) (hS : ∀ k, o.ownBlock = some k → ¬ S k) (hv : Near w v v') (hu : Near w u u') (ha : Near w a a') (ht' : Near w t t') : Own wB w' o v' u' a' t' os :=
  ⟨row_turn h.row ht hS, (h.ov.symm.near hv (own_lt h.row)).symm, (h.ou.symm.near hu (own_lt h.row)).symm, (h.oa.symm.near ha (own_lt h.row)).symm, (h.ot.symm.near ht' (own_lt h.row)).symm⟩
theorem Own.keep {wB w w' : World} {o v u a t : Value} {os : List Int} (h : Own wB w o v u a t os) (hb : Below w.heap.size w w') : Own wB w' o v u a t os :=
  ⟨pw_own_below h.row hb, h.ov, h.ou, h.oa, h.ot⟩
theorem blk_turn {w w' : World} {b : Nat} {o : Obj} {S : Nat → Prop} (h : w.heap[b]? = some o) (ht : Turn w w' S) (hn : ¬ S b) : w'.heap[b]? = some o := (ht.block b (blk_lt h) hn).trans h
end Go.Proofs.Ythijcbihdkheoaa.G
