/- gc: 'leads' makes its iterator; the iterator as a sequence. -/
import Derived.Test.YtonkfcfpfpaceaaG2
namespace Go.Proofs.Ytonkfcfpfpaceaa.A.P
open Go.RowKit Go.Shelf Go.Proofs.YtonkfcfpfpaceaaW.PrintWords Go.Proofs.YtonkfcfpfpaceaaW.PrintLast Go.Proofs.YtonkfcfpfpaceaaW.PrintMore
set_option linter.unusedVariables false
set_option linter.unusedSimpArgs false
attribute [local go_sem] Oper.semAt_some
set_option maxHeartbeats 1000000 in
theorem leads_in (n : Nat) (h44 : Fence.wide.fn 44) (hro : Fence.wide.round = none) (p : Option Addr) (A : Option Addr) (len c : Nat) (w : World) :
    CallsIn Fence.wide n Try.prog 44 #[.pointer p, .slice A len c] w fun e w' => e = .returned (.func (.func 48) #[] #[.pointer (some ⟨w.heap.size + 1, 0, none⟩), .pointer (some ⟨w.heap.size, 0, none⟩)]) ∧ w' = (w.alloc (.cells #[.pointer p] 54)).alloc (.cells #[.slice A len c] 23) := by
  have hmf : ∀ (fn : Fn) (first cap : Array Value) (w : World), (Instr.makeFunc fn first cap).run Try.prog w = .ok (.func fn first cap) w := fun _ _ _ _ => rfl
  refine callsIn_of_wp Try.func44 rfl h44 ?_ hro
  simp only [Try.ntmps44, List.size_toArray, List.length_cons, List.length_nil, Nat.reduceAdd, Nat.reduceSub, Array.replicate_succ, Array.replicate_zero, List.push_toArray, List.append_toArray, List.nil_append, List.cons_append]
  gi_wp2
  go_ret
  exact ⟨by simp, rfl⟩
theorem leads_stops (n : Nat) (h48 : Fence.wide.fn 48) (hro : Fence.wide.round = none) (hn : 1 ≤ n) (Bl Bt T : Nat) (w0 w : World) (A AH : Option Addr) (c ch : Nat) (vs : List S41) (H : List S37) (hC : Kd.C k41 w0 A vs.length vs) (hH : Kd.C k37 w0 AH H.length H) (hwf : ∀ v : S41, v ∈ vs → (Lit.int .i64 v.f1).wf = true)
    (hB : Below w0.heap.size w0 w) (hBl : Bl < w.heap.size) (hBt : Bt < w.heap.size) (hTl : T < w.heap.size)
    (hl : w.cell? ⟨Bl, 0, none⟩ = some (.slice A vs.length c)) (ht : w.cell? ⟨Bt, 0, none⟩ = some (.pointer (some ⟨T, 0, none⟩))) (hT : w.cell? ⟨T, 0, none⟩ = some (.slice AH H.length ch)) :
    SeqStopsK Fence.wide n Try.prog 48 #[.pointer (some ⟨Bl, 0, none⟩), .pointer (some ⟨Bt, 0, none⟩)] (fun x : Ld vs.length => #[Value.int .i64 (x.1.1 : Int), Value.int .i64 x.1.2]) (Keeps w0.heap.size [⟨T, 0, none⟩, ⟨Bt, 0, none⟩, ⟨Bl, 0, none⟩])
      (fun ys => ys = ldUp H vs vs.length) (fun pre => ∃ k, k ≤ vs.length ∧ pre = ldUp H vs k) vs.length w := fun l J Jx W hW hJ _ hY h0 =>
  leads1_in n h48 hro hn l Bl Bt T w0 A AH c ch vs H hC hH hwf J Jx W hJ (hB.trans (hW.mono hB.size)) hY ((hW.cell (p := ⟨Bl, 0, none⟩) hBl).trans hl) ((hW.cell (p := ⟨Bt, 0, none⟩) hBt).trans ht) ((hW.cell (p := ⟨T, 0, none⟩) hTl).trans hT) h0
end Go.Proofs.Ytonkfcfpfpaceaa.A.P
