/-
  No cell of these rows narrows 'for every input' (looked for: loops, veiled, ifaces, maps, wideKeys, modest, calm, conditions, laid).
  DERIVED. THE GIVEN ROWS OF THIS SEAT. 6 by the template 'for every input the law returns true; each argument reads behind the call as it read before'; 0 by the template 'total and deterministic' (their statements: YthijcbihdkheoaaTotals.lean).
  GIVEN WITH THE SEED: the statements are not yours to turn. If you find one false, say at which input.
  Laid BY PROGRAM, IN A SANDBOX (cutbox-rows.mjs): the forced cells as the released guide's own fill.sh prints them over the translation dd1b0b5f36a0f8d8… (all of the seat's roots in one cut). By AI agents, Wed Nov 11 2026. No macro, syntax, notation, axiom, sorry.
-/
import Derived.Test.YthijcbihdkheoaaChecked
import GoSem.Claim
import GoSem.ClaimJoined
import GoSem.ClaimMapViews
import Derived.JoinedTies
import Derived.KernelRfl
namespace Go.Proofs.Ythijcbihdkheoaa
/- THE CELL 'sum', in the pinned program and in every row, IS THE sha256 OF THE DUMP (.gsa) THAT YthijcbihdkheoaaProg.lean LOADS. Nothing in Lean hashes anything: it is a label: what it is worth is what the hold of that sum in a sandbox is worth. -/
noncomputable def Try.pinned : Pinned := { name := "ythijcbihdkheoaa", sum := "dd1b0b5f36a0f8d8047a9286e8881ec09f76851238786151a8bc475d7e665665", checked := Try.checked }
namespace Rows
def none {H : Type} : Left H := { results := [], args := [] }

/-- 'larchlaw22.GateStays': WHATEVER THE INPUT: true; the input reads as it did. -/
def gateStaysSpec : ChangeSpec := { name := "gateStays", fn := fun _ => fun
  | [d] => { results := [.lit (.bool true)], args := [d] }
  | _ => none }
def gateStaysRow : OpenClaim := { program := "ythijcbihdkheoaa", sum := "dd1b0b5f36a0f8d8047a9286e8881ec09f76851238786151a8bc475d7e665665", func := "larch/larchlaw22.GateStays", spec := "gateStays", apart := false }
def GateStaysSaid : Prop := gateStaysRow.holds Try.pinned (OpenSpec.ofChange gateStaysSpec)

/-- ITS FALSE NEIGHBOUR: 'it returns false'. Refute it at one input. -/
def gateStaysWrong : ChangeSpec := { name := "gateStays", fn := fun _ => fun
  | [d] => { results := [.lit (.bool false)], args := [d] }
  | _ => none }
def GateStaysWrongFalsely : Prop := gateStaysRow.holds Try.pinned (OpenSpec.ofChange gateStaysWrong)

/-- 'larchlaw22.GateAgain': WHATEVER THE INPUT: true; the input reads as it did. -/
def gateAgainSpec : ChangeSpec := { name := "gateAgain", fn := fun _ => fun
  | [d1, d2, d3] => { results := [.lit (.bool true)], args := [d1, d2, d3] }
  | _ => none }
def gateAgainRow : OpenClaim := { program := "ythijcbihdkheoaa", sum := "dd1b0b5f36a0f8d8047a9286e8881ec09f76851238786151a8bc475d7e665665", func := "larch/larchlaw22.GateAgain", spec := "gateAgain", apart := false }
def GateAgainSaid : Prop := gateAgainRow.holds Try.pinned (OpenSpec.ofChange gateAgainSpec)

/-- ITS FALSE NEIGHBOUR: 'it returns false'. Refute it at one input. -/
def gateAgainWrong : ChangeSpec := { name := "gateAgain", fn := fun _ => fun
  | [d1, d2, d3] => { results := [.lit (.bool false)], args := [d1, d2, d3] }
  | _ => none }
def GateAgainWrongFalsely : Prop := gateAgainRow.holds Try.pinned (OpenSpec.ofChange gateAgainWrong)

/-- 'larchlaw22.GateBounds': WHATEVER THE INPUT: true; the input reads as it did. -/
def gateBoundsSpec : ChangeSpec := { name := "gateBounds", fn := fun _ => fun
  | [d1, d2] => { results := [.lit (.bool true)], args := [d1, d2] }
  | _ => none }
def gateBoundsRow : OpenClaim := { program := "ythijcbihdkheoaa", sum := "dd1b0b5f36a0f8d8047a9286e8881ec09f76851238786151a8bc475d7e665665", func := "larch/larchlaw22.GateBounds", spec := "gateBounds", apart := false }
def GateBoundsSaid : Prop := gateBoundsRow.holds Try.pinned (OpenSpec.ofChange gateBoundsSpec)

/-- ITS FALSE NEIGHBOUR: 'it returns false'. Refute it at one input. -/
def gateBoundsWrong : ChangeSpec := { name := "gateBounds", fn := fun _ => fun
  | [d1, d2] => { results := [.lit (.bool false)], args := [d1, d2] }
  | _ => none }
def GateBoundsWrongFalsely : Prop := gateBoundsRow.holds Try.pinned (OpenSpec.ofChange gateBoundsWrong)

/-- 'larchlaw22.GateOnce': WHATEVER THE INPUT: true; the input reads as it did. -/
def gateOnceSpec : ChangeSpec := { name := "gateOnce", fn := fun _ => fun
  | [d1, d2, d3] => { results := [.lit (.bool true)], args := [d1, d2, d3] }
  | _ => none }
def gateOnceRow : OpenClaim := { program := "ythijcbihdkheoaa", sum := "dd1b0b5f36a0f8d8047a9286e8881ec09f76851238786151a8bc475d7e665665", func := "larch/larchlaw22.GateOnce", spec := "gateOnce", apart := false }
def GateOnceSaid : Prop := gateOnceRow.holds Try.pinned (OpenSpec.ofChange gateOnceSpec)

/-- ITS FALSE NEIGHBOUR: 'it returns false'. Refute it at one input. -/
def gateOnceWrong : ChangeSpec := { name := "gateOnce", fn := fun _ => fun
  | [d1, d2, d3] => { results := [.lit (.bool false)], args := [d1, d2, d3] }
  | _ => none }
def GateOnceWrongFalsely : Prop := gateOnceRow.holds Try.pinned (OpenSpec.ofChange gateOnceWrong)

/-- 'larchlaw22.GateVoid': WHATEVER THE INPUT: true; the input reads as it did. -/
def gateVoidSpec : ChangeSpec := { name := "gateVoid", fn := fun _ => fun
  | [d] => { results := [.lit (.bool true)], args := [d] }
  | _ => none }
def gateVoidRow : OpenClaim := { program := "ythijcbihdkheoaa", sum := "dd1b0b5f36a0f8d8047a9286e8881ec09f76851238786151a8bc475d7e665665", func := "larch/larchlaw22.GateVoid", spec := "gateVoid", apart := false }
def GateVoidSaid : Prop := gateVoidRow.holds Try.pinned (OpenSpec.ofChange gateVoidSpec)

/-- ITS FALSE NEIGHBOUR: 'it returns false'. Refute it at one input. -/
def gateVoidWrong : ChangeSpec := { name := "gateVoid", fn := fun _ => fun
  | [d] => { results := [.lit (.bool false)], args := [d] }
  | _ => none }
def GateVoidWrongFalsely : Prop := gateVoidRow.holds Try.pinned (OpenSpec.ofChange gateVoidWrong)

/-- 'larchlaw22.GatePlays': WHATEVER THE INPUT: true; the input reads as it did. -/
def gatePlaysSpec : ChangeSpec := { name := "gatePlays", fn := fun _ => fun
  | [d1, d2, d3] => { results := [.lit (.bool true)], args := [d1, d2, d3] }
  | _ => none }
def gatePlaysRow : OpenClaim := { program := "ythijcbihdkheoaa", sum := "dd1b0b5f36a0f8d8047a9286e8881ec09f76851238786151a8bc475d7e665665", func := "larch/larchlaw22.GatePlays", spec := "gatePlays", apart := false }
def GatePlaysSaid : Prop := gatePlaysRow.holds Try.pinned (OpenSpec.ofChange gatePlaysSpec)

/-- ITS FALSE NEIGHBOUR: 'it returns false'. Refute it at one input. -/
def gatePlaysWrong : ChangeSpec := { name := "gatePlays", fn := fun _ => fun
  | [d1, d2, d3] => { results := [.lit (.bool false)], args := [d1, d2, d3] }
  | _ => none }
def GatePlaysWrongFalsely : Prop := gatePlaysRow.holds Try.pinned (OpenSpec.ofChange gatePlaysWrong)

/- THE SECOND FORM. 'bulk': how many values and letters a reading holds, each counted each time it is reached (what is shared counts as often as it is met; a slice's spare places count too). A statement '..UptoSaid' is the law's where the arguments, and the package variables that the reading takes, are together of bulk at most 1048576: NARROWER than '..Said'. Prove '..Said' where nothing that the law and all that it calls make is longer than what came in: it says more and counts as full. Else prove '..UptoSaid'. A law counts once. -/
mutual
def uptoBulk {H : Type} : DataW H → Nat
  | .lit (.string bytes) => bytes.length + 1
  | .lit _ => 1
  | .nil => 1
  | .ptr d => uptoBulk d + 1
  | .slice elems spare => uptoBulkAll elems + uptoBulkAll spare + 1
  | .agg parts => uptoBulkAll parts + 1
  | .iface _ d => uptoBulk d + 1
  | .map entries => uptoBulkEntries entries + 1
  | .held _ => 1
def uptoBulkAll {H : Type} : List (DataW H) → Nat
  | [] => 0
  | d :: r => uptoBulk d + uptoBulkAll r
def uptoBulkEntries {H : Type} : List (Lit × DataW H) → Nat
  | [] => 0
  | x :: r => uptoBulkEntry x + uptoBulkEntries r
def uptoBulkEntry {H : Type} : Lit × DataW H → Nat
  | (.string bytes, d) => bytes.length + uptoBulk d + 1
  | (_, d) => uptoBulk d + 1
 end
def uptoSmall : (H : Type) → List (DataW H) → Bool := fun _ ds => decide (uptoBulkAll ds ≤ 1048576)
def OpenSpec.upto (s : _root_.Go.ChangeSpec) : _root_.Go.OpenSpec := { _root_.Go.OpenSpec.ofChange s with cond := some uptoSmall }

/-- 'larchlaw22.GateStays', WHERE WHAT IT READS IS OF BULK AT MOST 1048576: true; the input reads as it did. -/
def gateStaysUptoRow : OpenClaim := { program := "ythijcbihdkheoaa", sum := "dd1b0b5f36a0f8d8047a9286e8881ec09f76851238786151a8bc475d7e665665", func := "larch/larchlaw22.GateStays", spec := "gateStays", apart := false, narrowed := true }
def GateStaysUptoSaid : Prop := gateStaysUptoRow.holds Try.pinned (OpenSpec.upto gateStaysSpec)

/-- 'larchlaw22.GateAgain', WHERE WHAT IT READS IS OF BULK AT MOST 1048576: true; the input reads as it did. -/
def gateAgainUptoRow : OpenClaim := { program := "ythijcbihdkheoaa", sum := "dd1b0b5f36a0f8d8047a9286e8881ec09f76851238786151a8bc475d7e665665", func := "larch/larchlaw22.GateAgain", spec := "gateAgain", apart := false, narrowed := true }
def GateAgainUptoSaid : Prop := gateAgainUptoRow.holds Try.pinned (OpenSpec.upto gateAgainSpec)

/-- 'larchlaw22.GateBounds', WHERE WHAT IT READS IS OF BULK AT MOST 1048576: true; the input reads as it did. -/
def gateBoundsUptoRow : OpenClaim := { program := "ythijcbihdkheoaa", sum := "dd1b0b5f36a0f8d8047a9286e8881ec09f76851238786151a8bc475d7e665665", func := "larch/larchlaw22.GateBounds", spec := "gateBounds", apart := false, narrowed := true }
def GateBoundsUptoSaid : Prop := gateBoundsUptoRow.holds Try.pinned (OpenSpec.upto gateBoundsSpec)

/-- 'larchlaw22.GateOnce', WHERE WHAT IT READS IS OF BULK AT MOST 1048576: true; the input reads as it did. -/
def gateOnceUptoRow : OpenClaim := { program := "ythijcbihdkheoaa", sum := "dd1b0b5f36a0f8d8047a9286e8881ec09f76851238786151a8bc475d7e665665", func := "larch/larchlaw22.GateOnce", spec := "gateOnce", apart := false, narrowed := true }
def GateOnceUptoSaid : Prop := gateOnceUptoRow.holds Try.pinned (OpenSpec.upto gateOnceSpec)

/-- 'larchlaw22.GateVoid', WHERE WHAT IT READS IS OF BULK AT MOST 1048576: true; the input reads as it did. -/
def gateVoidUptoRow : OpenClaim := { program := "ythijcbihdkheoaa", sum := "dd1b0b5f36a0f8d8047a9286e8881ec09f76851238786151a8bc475d7e665665", func := "larch/larchlaw22.GateVoid", spec := "gateVoid", apart := false, narrowed := true }
def GateVoidUptoSaid : Prop := gateVoidUptoRow.holds Try.pinned (OpenSpec.upto gateVoidSpec)

/-- 'larchlaw22.GatePlays', WHERE WHAT IT READS IS OF BULK AT MOST 1048576: true; the input reads as it did. -/
def gatePlaysUptoRow : OpenClaim := { program := "ythijcbihdkheoaa", sum := "dd1b0b5f36a0f8d8047a9286e8881ec09f76851238786151a8bc475d7e665665", func := "larch/larchlaw22.GatePlays", spec := "gatePlays", apart := false, narrowed := true }
def GatePlaysUptoSaid : Prop := gatePlaysUptoRow.holds Try.pinned (OpenSpec.upto gatePlaysSpec)

end Rows
end Go.Proofs.Ythijcbihdkheoaa
