/-
  No cell of these rows narrows 'for every input' (looked for: loops, veiled, ifaces, maps, wideKeys, modest, calm, conditions, laid).
  DERIVED. THE GIVEN ROWS OF THIS SEAT. 6 by the template 'for every input the law returns true; each argument reads behind the call as it read before'; 0 by the template 'total and deterministic' (their statements: YtonkfcfpfpaceaaTotals.lean).
  GIVEN WITH THE SEED: the statements are not yours to turn. If you find one false, say at which input.
  Laid BY PROGRAM, IN A SANDBOX (cutbox-rows.mjs): the forced cells as the released guide's own fill.sh prints them over the translation 2893331944e6b7ee… (all of the seat's roots in one cut). By AI agents, Wed Nov 11 2026. No macro, syntax, notation, axiom, sorry.
-/
import Derived.Test.YtonkfcfpfpaceaaChecked
import GoSem.Claim
import GoSem.ClaimJoined
import GoSem.ClaimMapViews
import Derived.JoinedTies
import Derived.KernelRfl
namespace Go.Proofs.Ytonkfcfpfpaceaa
/- THE CELL 'sum', in the pinned program and in every row, IS THE sha256 OF THE DUMP (.gsa) THAT YtonkfcfpfpaceaaProg.lean LOADS. Nothing in Lean hashes anything: it is a label: what it is worth is what the hold of that sum in a sandbox is worth. -/
noncomputable def Try.pinned : Pinned := { name := "ytonkfcfpfpaceaa", sum := "2893331944e6b7eefa6a59ea3a3f880ae6e10ee810673c747afcffd8b313e510", checked := Try.checked }
namespace Rows
def none {H : Type} : Left H := { results := [], args := [] }

/-- 'larchlaw16.GcReaches': WHATEVER THE INPUT: true; the input reads as it did. -/
def gcReachesSpec : ChangeSpec := { name := "gcReaches", fn := fun _ => fun
  | [d1, d2] => { results := [.lit (.bool true)], args := [d1, d2] }
  | _ => none }
def gcReachesRow : OpenClaim := { program := "ytonkfcfpfpaceaa", sum := "2893331944e6b7eefa6a59ea3a3f880ae6e10ee810673c747afcffd8b313e510", func := "larch/larchlaw16.GcReaches", spec := "gcReaches", unfollowed := true, recurses := true, apart := false }
def GcReachesSaid : Prop := gcReachesRow.holds Try.pinned (OpenSpec.ofChange gcReachesSpec)

/-- ITS FALSE NEIGHBOUR: 'it returns false'. Refute it at one input. -/
def gcReachesWrong : ChangeSpec := { name := "gcReaches", fn := fun _ => fun
  | [d1, d2] => { results := [.lit (.bool false)], args := [d1, d2] }
  | _ => none }
def GcReachesWrongFalsely : Prop := gcReachesRow.holds Try.pinned (OpenSpec.ofChange gcReachesWrong)

/-- 'larchlaw16.GcKeeps': WHATEVER THE INPUT: true; the input reads as it did. -/
def gcKeepsSpec : ChangeSpec := { name := "gcKeeps", fn := fun _ => fun
  | [d1, d2] => { results := [.lit (.bool true)], args := [d1, d2] }
  | _ => none }
def gcKeepsRow : OpenClaim := { program := "ytonkfcfpfpaceaa", sum := "2893331944e6b7eefa6a59ea3a3f880ae6e10ee810673c747afcffd8b313e510", func := "larch/larchlaw16.GcKeeps", spec := "gcKeeps", unfollowed := true, recurses := true, apart := false }
def GcKeepsSaid : Prop := gcKeepsRow.holds Try.pinned (OpenSpec.ofChange gcKeepsSpec)

/-- ITS FALSE NEIGHBOUR: 'it returns false'. Refute it at one input. -/
def gcKeepsWrong : ChangeSpec := { name := "gcKeeps", fn := fun _ => fun
  | [d1, d2] => { results := [.lit (.bool false)], args := [d1, d2] }
  | _ => none }
def GcKeepsWrongFalsely : Prop := gcKeepsRow.holds Try.pinned (OpenSpec.ofChange gcKeepsWrong)

/-- 'larchlaw16.GcStays': WHATEVER THE INPUT: true; the input reads as it did. -/
def gcStaysSpec : ChangeSpec := { name := "gcStays", fn := fun _ => fun
  | [d1, d2] => { results := [.lit (.bool true)], args := [d1, d2] }
  | _ => none }
def gcStaysRow : OpenClaim := { program := "ytonkfcfpfpaceaa", sum := "2893331944e6b7eefa6a59ea3a3f880ae6e10ee810673c747afcffd8b313e510", func := "larch/larchlaw16.GcStays", spec := "gcStays", unfollowed := true, recurses := true, apart := false }
def GcStaysSaid : Prop := gcStaysRow.holds Try.pinned (OpenSpec.ofChange gcStaysSpec)

/-- ITS FALSE NEIGHBOUR: 'it returns false'. Refute it at one input. -/
def gcStaysWrong : ChangeSpec := { name := "gcStays", fn := fun _ => fun
  | [d1, d2] => { results := [.lit (.bool false)], args := [d1, d2] }
  | _ => none }
def GcStaysWrongFalsely : Prop := gcStaysRow.holds Try.pinned (OpenSpec.ofChange gcStaysWrong)

/-- 'larchlaw16.GcCanons': WHATEVER THE INPUT: true; the input reads as it did. -/
def gcCanonsSpec : ChangeSpec := { name := "gcCanons", fn := fun _ => fun
  | [d1, d2, d3, d4] => { results := [.lit (.bool true)], args := [d1, d2, d3, d4] }
  | _ => none }
def gcCanonsRow : OpenClaim := { program := "ytonkfcfpfpaceaa", sum := "2893331944e6b7eefa6a59ea3a3f880ae6e10ee810673c747afcffd8b313e510", func := "larch/larchlaw16.GcCanons", spec := "gcCanons", unfollowed := true, recurses := true, apart := false }
def GcCanonsSaid : Prop := gcCanonsRow.holds Try.pinned (OpenSpec.ofChange gcCanonsSpec)

/-- ITS FALSE NEIGHBOUR: 'it returns false'. Refute it at one input. -/
def gcCanonsWrong : ChangeSpec := { name := "gcCanons", fn := fun _ => fun
  | [d1, d2, d3, d4] => { results := [.lit (.bool false)], args := [d1, d2, d3, d4] }
  | _ => none }
def GcCanonsWrongFalsely : Prop := gcCanonsRow.holds Try.pinned (OpenSpec.ofChange gcCanonsWrong)

/-- 'larchlaw16.GcTwice': WHATEVER THE INPUT: true; the input reads as it did. -/
def gcTwiceSpec : ChangeSpec := { name := "gcTwice", fn := fun _ => fun
  | [d1, d2] => { results := [.lit (.bool true)], args := [d1, d2] }
  | _ => none }
def gcTwiceRow : OpenClaim := { program := "ytonkfcfpfpaceaa", sum := "2893331944e6b7eefa6a59ea3a3f880ae6e10ee810673c747afcffd8b313e510", func := "larch/larchlaw16.GcTwice", spec := "gcTwice", unfollowed := true, recurses := true, apart := false }
def GcTwiceSaid : Prop := gcTwiceRow.holds Try.pinned (OpenSpec.ofChange gcTwiceSpec)

/-- ITS FALSE NEIGHBOUR: 'it returns false'. Refute it at one input. -/
def gcTwiceWrong : ChangeSpec := { name := "gcTwice", fn := fun _ => fun
  | [d1, d2] => { results := [.lit (.bool false)], args := [d1, d2] }
  | _ => none }
def GcTwiceWrongFalsely : Prop := gcTwiceRow.holds Try.pinned (OpenSpec.ofChange gcTwiceWrong)

/-- 'larchlaw16.GcRenames': WHATEVER THE INPUT: true; the input reads as it did. -/
def gcRenamesSpec : ChangeSpec := { name := "gcRenames", fn := fun _ => fun
  | [d1, d2, d3] => { results := [.lit (.bool true)], args := [d1, d2, d3] }
  | _ => none }
def gcRenamesRow : OpenClaim := { program := "ytonkfcfpfpaceaa", sum := "2893331944e6b7eefa6a59ea3a3f880ae6e10ee810673c747afcffd8b313e510", func := "larch/larchlaw16.GcRenames", spec := "gcRenames", unfollowed := true, recurses := true, apart := false }
def GcRenamesSaid : Prop := gcRenamesRow.holds Try.pinned (OpenSpec.ofChange gcRenamesSpec)

/-- ITS FALSE NEIGHBOUR: 'it returns false'. Refute it at one input. -/
def gcRenamesWrong : ChangeSpec := { name := "gcRenames", fn := fun _ => fun
  | [d1, d2, d3] => { results := [.lit (.bool false)], args := [d1, d2, d3] }
  | _ => none }
def GcRenamesWrongFalsely : Prop := gcRenamesRow.holds Try.pinned (OpenSpec.ofChange gcRenamesWrong)

/- THE SECOND FORM. 'bulk': how many values and letters a reading holds, each counted each time it is reached (what is shared counts as often as it is met; a slice's spare places count too). A statement '..UptoSaid' is the law's where the arguments, and the package variables that the reading takes, are together of bulk at most 1048576: NARROWER than '..Said'. Prove '..Said' where nothing that the law and all that it calls make is longer than what came in: it says more and counts as full. Else prove '..UptoSaid'. A law counts once. -/
mutual
def uptoBulk {H : Type} : DataW H → Nat
  | .lit (.string bytes) => bytes.length + 1
  | .lit _ => 1
  | .nil => 1
  | .ptr d => uptoBulk d + 1
  | .slice elems spare => uptoBulkAll elems + uptoBulkAll spare + 1
  | .agg parts => uptoBulkAll parts + 1
  | .iface _ d => uptoBulk d + 1
  | .map entries => uptoBulkEntries entries + 1
  | .held _ => 1
def uptoBulkAll {H : Type} : List (DataW H) → Nat
  | [] => 0
  | d :: r => uptoBulk d + uptoBulkAll r
def uptoBulkEntries {H : Type} : List (Lit × DataW H) → Nat
  | [] => 0
  | x :: r => uptoBulkEntry x + uptoBulkEntries r
def uptoBulkEntry {H : Type} : Lit × DataW H → Nat
  | (.string bytes, d) => bytes.length + uptoBulk d + 1
  | (_, d) => uptoBulk d + 1
 end
def uptoSmall : (H : Type) → List (DataW H) → Bool := fun _ ds => decide (uptoBulkAll ds ≤ 1048576)
def OpenSpec.upto (s : _root_.Go.ChangeSpec) : _root_.Go.OpenSpec := { _root_.Go.OpenSpec.ofChange s with cond := some uptoSmall }

/-- 'larchlaw16.GcReaches', WHERE WHAT IT READS IS OF BULK AT MOST 1048576: true; the input reads as it did. -/
def gcReachesUptoRow : OpenClaim := { program := "ytonkfcfpfpaceaa", sum := "2893331944e6b7eefa6a59ea3a3f880ae6e10ee810673c747afcffd8b313e510", func := "larch/larchlaw16.GcReaches", spec := "gcReaches", unfollowed := true, recurses := true, apart := false, narrowed := true }
def GcReachesUptoSaid : Prop := gcReachesUptoRow.holds Try.pinned (OpenSpec.upto gcReachesSpec)

/-- 'larchlaw16.GcKeeps', WHERE WHAT IT READS IS OF BULK AT MOST 1048576: true; the input reads as it did. -/
def gcKeepsUptoRow : OpenClaim := { program := "ytonkfcfpfpaceaa", sum := "2893331944e6b7eefa6a59ea3a3f880ae6e10ee810673c747afcffd8b313e510", func := "larch/larchlaw16.GcKeeps", spec := "gcKeeps", unfollowed := true, recurses := true, apart := false, narrowed := true }
def GcKeepsUptoSaid : Prop := gcKeepsUptoRow.holds Try.pinned (OpenSpec.upto gcKeepsSpec)

/-- 'larchlaw16.GcStays', WHERE WHAT IT READS IS OF BULK AT MOST 1048576: true; the input reads as it did. -/
def gcStaysUptoRow : OpenClaim := { program := "ytonkfcfpfpaceaa", sum := "2893331944e6b7eefa6a59ea3a3f880ae6e10ee810673c747afcffd8b313e510", func := "larch/larchlaw16.GcStays", spec := "gcStays", unfollowed := true, recurses := true, apart := false, narrowed := true }
def GcStaysUptoSaid : Prop := gcStaysUptoRow.holds Try.pinned (OpenSpec.upto gcStaysSpec)

/-- 'larchlaw16.GcCanons', WHERE WHAT IT READS IS OF BULK AT MOST 1048576: true; the input reads as it did. -/
def gcCanonsUptoRow : OpenClaim := { program := "ytonkfcfpfpaceaa", sum := "2893331944e6b7eefa6a59ea3a3f880ae6e10ee810673c747afcffd8b313e510", func := "larch/larchlaw16.GcCanons", spec := "gcCanons", unfollowed := true, recurses := true, apart := false, narrowed := true }
def GcCanonsUptoSaid : Prop := gcCanonsUptoRow.holds Try.pinned (OpenSpec.upto gcCanonsSpec)

/-- 'larchlaw16.GcTwice', WHERE WHAT IT READS IS OF BULK AT MOST 1048576: true; the input reads as it did. -/
def gcTwiceUptoRow : OpenClaim := { program := "ytonkfcfpfpaceaa", sum := "2893331944e6b7eefa6a59ea3a3f880ae6e10ee810673c747afcffd8b313e510", func := "larch/larchlaw16.GcTwice", spec := "gcTwice", unfollowed := true, recurses := true, apart := false, narrowed := true }
def GcTwiceUptoSaid : Prop := gcTwiceUptoRow.holds Try.pinned (OpenSpec.upto gcTwiceSpec)

/-- 'larchlaw16.GcRenames', WHERE WHAT IT READS IS OF BULK AT MOST 1048576: true; the input reads as it did. -/
def gcRenamesUptoRow : OpenClaim := { program := "ytonkfcfpfpaceaa", sum := "2893331944e6b7eefa6a59ea3a3f880ae6e10ee810673c747afcffd8b313e510", func := "larch/larchlaw16.GcRenames", spec := "gcRenames", unfollowed := true, recurses := true, apart := false, narrowed := true }
def GcRenamesUptoSaid : Prop := gcRenamesUptoRow.holds Try.pinned (OpenSpec.upto gcRenamesSpec)

end Rows
end Go.Proofs.Ytonkfcfpfpaceaa
