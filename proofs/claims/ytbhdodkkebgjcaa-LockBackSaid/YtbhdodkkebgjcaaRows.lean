/-
  No cell of these rows narrows 'for every input' (looked for: loops, veiled, ifaces, maps, wideKeys, modest, calm, conditions, laid).
  DERIVED. THE GIVEN ROWS OF THIS SEAT. 4 by the template 'for every input the law returns true; each argument reads behind the call as it read before'; 0 by the template 'total and deterministic' (their statements: YtbhdodkkebgjcaaTotals.lean).
  GIVEN WITH THE SEED: the statements are not yours to turn. If you find one false, say at which input.
  Laid BY PROGRAM, IN A SANDBOX (cutbox-rows.mjs): the forced cells as the released guide's own fill.sh prints them over the translation 6e81ab29fb7cff59… (all of the seat's roots in one cut). By AI agents, Wed Nov 11 2026. No macro, syntax, notation, axiom, sorry.
-/
import Derived.Test.YtbhdodkkebgjcaaChecked
import GoSem.Claim
import GoSem.ClaimJoined
import GoSem.ClaimMapViews
import Derived.JoinedTies
import Derived.KernelRfl
namespace Go.Proofs.Ytbhdodkkebgjcaa
/- THE CELL 'sum', in the pinned program and in every row, IS THE sha256 OF THE DUMP (.gsa) THAT YtbhdodkkebgjcaaProg.lean LOADS. Nothing in Lean hashes anything: it is a label: what it is worth is what the hold of that sum in a sandbox is worth. -/
noncomputable def Try.pinned : Pinned := { name := "ytbhdodkkebgjcaa", sum := "6e81ab29fb7cff59737431bc4763c6dfdfb51e8c27b2dcf14e44722d419af871", checked := Try.checked }
namespace Rows
def none {H : Type} : Left H := { results := [], args := [] }

/-- 'larchlaw19.LockEnters': WHATEVER THE INPUT: true; the input reads as it did. -/
def lockEntersSpec : ChangeSpec := { name := "lockEnters", fn := fun _ => fun
  | [d1, d2, d3, d4] => { results := [.lit (.bool true)], args := [d1, d2, d3, d4] }
  | _ => none }
def lockEntersRow : OpenClaim := { program := "ytbhdodkkebgjcaa", sum := "6e81ab29fb7cff59737431bc4763c6dfdfb51e8c27b2dcf14e44722d419af871", func := "larch/larchlaw19.LockEnters", spec := "lockEnters", inPlace := ["slices.overlaps[larch/api.Monitor]"], unfollowed := true, recurses := true, apart := false }
def LockEntersSaid : Prop := lockEntersRow.holds Try.pinned (OpenSpec.ofChange lockEntersSpec)

/-- ITS FALSE NEIGHBOUR: 'it returns false'. Refute it at one input. -/
def lockEntersWrong : ChangeSpec := { name := "lockEnters", fn := fun _ => fun
  | [d1, d2, d3, d4] => { results := [.lit (.bool false)], args := [d1, d2, d3, d4] }
  | _ => none }
def LockEntersWrongFalsely : Prop := lockEntersRow.holds Try.pinned (OpenSpec.ofChange lockEntersWrong)

/-- 'larchlaw19.LockAlone': WHATEVER THE INPUT: true; the input reads as it did. -/
def lockAloneSpec : ChangeSpec := { name := "lockAlone", fn := fun _ => fun
  | [d1, d2, d3, d4, d5] => { results := [.lit (.bool true)], args := [d1, d2, d3, d4, d5] }
  | _ => none }
def lockAloneRow : OpenClaim := { program := "ytbhdodkkebgjcaa", sum := "6e81ab29fb7cff59737431bc4763c6dfdfb51e8c27b2dcf14e44722d419af871", func := "larch/larchlaw19.LockAlone", spec := "lockAlone", inPlace := ["slices.overlaps[larch/api.Monitor]"], unfollowed := true, recurses := true, apart := false }
def LockAloneSaid : Prop := lockAloneRow.holds Try.pinned (OpenSpec.ofChange lockAloneSpec)

/-- ITS FALSE NEIGHBOUR: 'it returns false'. Refute it at one input. -/
def lockAloneWrong : ChangeSpec := { name := "lockAlone", fn := fun _ => fun
  | [d1, d2, d3, d4, d5] => { results := [.lit (.bool false)], args := [d1, d2, d3, d4, d5] }
  | _ => none }
def LockAloneWrongFalsely : Prop := lockAloneRow.holds Try.pinned (OpenSpec.ofChange lockAloneWrong)

/-- 'larchlaw19.LockRight': WHATEVER THE INPUT: true; the input reads as it did. -/
def lockRightSpec : ChangeSpec := { name := "lockRight", fn := fun _ => fun
  | [d1, d2, d3, d4, d5] => { results := [.lit (.bool true)], args := [d1, d2, d3, d4, d5] }
  | _ => none }
def lockRightRow : OpenClaim := { program := "ytbhdodkkebgjcaa", sum := "6e81ab29fb7cff59737431bc4763c6dfdfb51e8c27b2dcf14e44722d419af871", func := "larch/larchlaw19.LockRight", spec := "lockRight", inPlace := ["slices.overlaps[larch/api.Monitor]"], unfollowed := true, recurses := true, apart := false }
def LockRightSaid : Prop := lockRightRow.holds Try.pinned (OpenSpec.ofChange lockRightSpec)

/-- ITS FALSE NEIGHBOUR: 'it returns false'. Refute it at one input. -/
def lockRightWrong : ChangeSpec := { name := "lockRight", fn := fun _ => fun
  | [d1, d2, d3, d4, d5] => { results := [.lit (.bool false)], args := [d1, d2, d3, d4, d5] }
  | _ => none }
def LockRightWrongFalsely : Prop := lockRightRow.holds Try.pinned (OpenSpec.ofChange lockRightWrong)

/-- 'larchlaw19.LockBack': WHATEVER THE INPUT: true; the input reads as it did. -/
def lockBackSpec : ChangeSpec := { name := "lockBack", fn := fun _ => fun
  | [d1, d2, d3] => { results := [.lit (.bool true)], args := [d1, d2, d3] }
  | _ => none }
def lockBackRow : OpenClaim := { program := "ytbhdodkkebgjcaa", sum := "6e81ab29fb7cff59737431bc4763c6dfdfb51e8c27b2dcf14e44722d419af871", func := "larch/larchlaw19.LockBack", spec := "lockBack", inPlace := ["slices.overlaps[larch/api.Monitor]"], unfollowed := true, recurses := true, apart := false }
def LockBackSaid : Prop := lockBackRow.holds Try.pinned (OpenSpec.ofChange lockBackSpec)

/-- ITS FALSE NEIGHBOUR: 'it returns false'. Refute it at one input. -/
def lockBackWrong : ChangeSpec := { name := "lockBack", fn := fun _ => fun
  | [d1, d2, d3] => { results := [.lit (.bool false)], args := [d1, d2, d3] }
  | _ => none }
def LockBackWrongFalsely : Prop := lockBackRow.holds Try.pinned (OpenSpec.ofChange lockBackWrong)

/- THE SECOND FORM. 'bulk': how many values and letters a reading holds, each counted each time it is reached (what is shared counts as often as it is met; a slice's spare places count too). A statement '..UptoSaid' is the law's where the arguments, and the package variables that the reading takes, are together of bulk at most 1048576: NARROWER than '..Said'. Prove '..Said' where nothing that the law and all that it calls make is longer than what came in: it says more and counts as full. Else prove '..UptoSaid'. A law counts once. -/
mutual
def uptoBulk {H : Type} : DataW H → Nat
  | .lit (.string bytes) => bytes.length + 1
  | .lit _ => 1
  | .nil => 1
  | .ptr d => uptoBulk d + 1
  | .slice elems spare => uptoBulkAll elems + uptoBulkAll spare + 1
  | .agg parts => uptoBulkAll parts + 1
  | .iface _ d => uptoBulk d + 1
  | .map entries => uptoBulkEntries entries + 1
  | .held _ => 1
def uptoBulkAll {H : Type} : List (DataW H) → Nat
  | [] => 0
  | d :: r => uptoBulk d + uptoBulkAll r
def uptoBulkEntries {H : Type} : List (Lit × DataW H) → Nat
  | [] => 0
  | x :: r => uptoBulkEntry x + uptoBulkEntries r
def uptoBulkEntry {H : Type} : Lit × DataW H → Nat
  | (.string bytes, d) => bytes.length + uptoBulk d + 1
  | (_, d) => uptoBulk d + 1
 end
def uptoSmall : (H : Type) → List (DataW H) → Bool := fun _ ds => decide (uptoBulkAll ds ≤ 1048576)
def OpenSpec.upto (s : _root_.Go.ChangeSpec) : _root_.Go.OpenSpec := { _root_.Go.OpenSpec.ofChange s with cond := some uptoSmall }

/-- 'larchlaw19.LockEnters', WHERE WHAT IT READS IS OF BULK AT MOST 1048576: true; the input reads as it did. -/
def lockEntersUptoRow : OpenClaim := { program := "ytbhdodkkebgjcaa", sum := "6e81ab29fb7cff59737431bc4763c6dfdfb51e8c27b2dcf14e44722d419af871", func := "larch/larchlaw19.LockEnters", spec := "lockEnters", inPlace := ["slices.overlaps[larch/api.Monitor]"], unfollowed := true, recurses := true, apart := false, narrowed := true }
def LockEntersUptoSaid : Prop := lockEntersUptoRow.holds Try.pinned (OpenSpec.upto lockEntersSpec)

/-- 'larchlaw19.LockAlone', WHERE WHAT IT READS IS OF BULK AT MOST 1048576: true; the input reads as it did. -/
def lockAloneUptoRow : OpenClaim := { program := "ytbhdodkkebgjcaa", sum := "6e81ab29fb7cff59737431bc4763c6dfdfb51e8c27b2dcf14e44722d419af871", func := "larch/larchlaw19.LockAlone", spec := "lockAlone", inPlace := ["slices.overlaps[larch/api.Monitor]"], unfollowed := true, recurses := true, apart := false, narrowed := true }
def LockAloneUptoSaid : Prop := lockAloneUptoRow.holds Try.pinned (OpenSpec.upto lockAloneSpec)

/-- 'larchlaw19.LockRight', WHERE WHAT IT READS IS OF BULK AT MOST 1048576: true; the input reads as it did. -/
def lockRightUptoRow : OpenClaim := { program := "ytbhdodkkebgjcaa", sum := "6e81ab29fb7cff59737431bc4763c6dfdfb51e8c27b2dcf14e44722d419af871", func := "larch/larchlaw19.LockRight", spec := "lockRight", inPlace := ["slices.overlaps[larch/api.Monitor]"], unfollowed := true, recurses := true, apart := false, narrowed := true }
def LockRightUptoSaid : Prop := lockRightUptoRow.holds Try.pinned (OpenSpec.upto lockRightSpec)

/-- 'larchlaw19.LockBack', WHERE WHAT IT READS IS OF BULK AT MOST 1048576: true; the input reads as it did. -/
def lockBackUptoRow : OpenClaim := { program := "ytbhdodkkebgjcaa", sum := "6e81ab29fb7cff59737431bc4763c6dfdfb51e8c27b2dcf14e44722d419af871", func := "larch/larchlaw19.LockBack", spec := "lockBack", inPlace := ["slices.overlaps[larch/api.Monitor]"], unfollowed := true, recurses := true, apart := false, narrowed := true }
def LockBackUptoSaid : Prop := lockBackUptoRow.holds Try.pinned (OpenSpec.upto lockBackSpec)

end Rows
end Go.Proofs.Ytbhdodkkebgjcaa
