/-
  No cell of these rows narrows 'for every input' (looked for: loops, veiled, ifaces, maps, wideKeys, modest, calm, conditions, laid).
  DERIVED. THE GIVEN ROWS OF THIS SEAT. 7 by the template 'for every input the law returns true; each argument reads behind the call as it read before'; 0 by the template 'total and deterministic' (their statements: YtencepjebdadcaaTotals.lean).
  GIVEN WITH THE SEED: the statements are not yours to turn. If you find one false, say at which input.
  Laid BY PROGRAM, IN A SANDBOX (cutbox-rows.mjs): the forced cells as the released guide's own fill.sh prints them over the translation b38abdca45143c64… (all of the seat's roots in one cut). By AI agents, Wed Nov 11 2026. No macro, syntax, notation, axiom, sorry.
-/
import Derived.Test.YtencepjebdadcaaChecked
import GoSem.Claim
import GoSem.ClaimJoined
import GoSem.ClaimMapViews
import Derived.JoinedTies
import Derived.KernelRfl
namespace Go.Proofs.Ytencepjebdadcaa
/- THE CELL 'sum', in the pinned program and in every row, IS THE sha256 OF THE DUMP (.gsa) THAT YtencepjebdadcaaProg.lean LOADS. Nothing in Lean hashes anything: it is a label: what it is worth is what the hold of that sum in a sandbox is worth. -/
noncomputable def Try.pinned : Pinned := { name := "ytencepjebdadcaa", sum := "b38abdca45143c645d48e855d525b3ec81faba118a710e8c902127f7fd408cef", checked := Try.checked }
namespace Rows
def none {H : Type} : Left H := { results := [], args := [] }

/-- 'larchlaw14.ArithInts': WHATEVER THE INPUT: true; the input reads as it did. -/
def arithIntsSpec : ChangeSpec := { name := "arithInts", fn := fun _ => fun
  | [d1, d2, d3] => { results := [.lit (.bool true)], args := [d1, d2, d3] }
  | _ => none }
def arithIntsRow : OpenClaim := { program := "ytencepjebdadcaa", sum := "b38abdca45143c645d48e855d525b3ec81faba118a710e8c902127f7fd408cef", func := "larch/larchlaw14.ArithInts", spec := "arithInts", unfollowed := true, recurses := true, apart := false }
def ArithIntsSaid : Prop := arithIntsRow.holds Try.pinned (OpenSpec.ofChange arithIntsSpec)

/-- ITS FALSE NEIGHBOUR: 'it returns false'. Refute it at one input. -/
def arithIntsWrong : ChangeSpec := { name := "arithInts", fn := fun _ => fun
  | [d1, d2, d3] => { results := [.lit (.bool false)], args := [d1, d2, d3] }
  | _ => none }
def ArithIntsWrongFalsely : Prop := arithIntsRow.holds Try.pinned (OpenSpec.ofChange arithIntsWrong)

/-- 'larchlaw14.ArithStays': WHATEVER THE INPUT: true; the input reads as it did. -/
def arithStaysSpec : ChangeSpec := { name := "arithStays", fn := fun _ => fun
  | [d1, d2, d3] => { results := [.lit (.bool true)], args := [d1, d2, d3] }
  | _ => none }
def arithStaysRow : OpenClaim := { program := "ytencepjebdadcaa", sum := "b38abdca45143c645d48e855d525b3ec81faba118a710e8c902127f7fd408cef", func := "larch/larchlaw14.ArithStays", spec := "arithStays", unfollowed := true, recurses := true, apart := false }
def ArithStaysSaid : Prop := arithStaysRow.holds Try.pinned (OpenSpec.ofChange arithStaysSpec)

/-- ITS FALSE NEIGHBOUR: 'it returns false'. Refute it at one input. -/
def arithStaysWrong : ChangeSpec := { name := "arithStays", fn := fun _ => fun
  | [d1, d2, d3] => { results := [.lit (.bool false)], args := [d1, d2, d3] }
  | _ => none }
def ArithStaysWrongFalsely : Prop := arithStaysRow.holds Try.pinned (OpenSpec.ofChange arithStaysWrong)

/-- 'larchlaw14.ArithLongs': WHATEVER THE INPUT: true; the input reads as it did. -/
def arithLongsSpec : ChangeSpec := { name := "arithLongs", fn := fun _ => fun
  | [d1, d2, d3] => { results := [.lit (.bool true)], args := [d1, d2, d3] }
  | _ => none }
def arithLongsRow : OpenClaim := { program := "ytencepjebdadcaa", sum := "b38abdca45143c645d48e855d525b3ec81faba118a710e8c902127f7fd408cef", func := "larch/larchlaw14.ArithLongs", spec := "arithLongs", unfollowed := true, recurses := true, apart := false }
def ArithLongsSaid : Prop := arithLongsRow.holds Try.pinned (OpenSpec.ofChange arithLongsSpec)

/-- ITS FALSE NEIGHBOUR: 'it returns false'. Refute it at one input. -/
def arithLongsWrong : ChangeSpec := { name := "arithLongs", fn := fun _ => fun
  | [d1, d2, d3] => { results := [.lit (.bool false)], args := [d1, d2, d3] }
  | _ => none }
def ArithLongsWrongFalsely : Prop := arithLongsRow.holds Try.pinned (OpenSpec.ofChange arithLongsWrong)

/-- 'larchlaw14.ArithDivides': WHATEVER THE INPUT: true; the input reads as it did. -/
def arithDividesSpec : ChangeSpec := { name := "arithDivides", fn := fun _ => fun
  | [d1, d2] => { results := [.lit (.bool true)], args := [d1, d2] }
  | _ => none }
def arithDividesRow : OpenClaim := { program := "ytencepjebdadcaa", sum := "b38abdca45143c645d48e855d525b3ec81faba118a710e8c902127f7fd408cef", func := "larch/larchlaw14.ArithDivides", spec := "arithDivides", unfollowed := true, recurses := true, apart := false }
def ArithDividesSaid : Prop := arithDividesRow.holds Try.pinned (OpenSpec.ofChange arithDividesSpec)

/-- ITS FALSE NEIGHBOUR: 'it returns false'. Refute it at one input. -/
def arithDividesWrong : ChangeSpec := { name := "arithDivides", fn := fun _ => fun
  | [d1, d2] => { results := [.lit (.bool false)], args := [d1, d2] }
  | _ => none }
def ArithDividesWrongFalsely : Prop := arithDividesRow.holds Try.pinned (OpenSpec.ofChange arithDividesWrong)

/-- 'larchlaw14.ArithOrder': WHATEVER THE INPUT: true; the input reads as it did. -/
def arithOrderSpec : ChangeSpec := { name := "arithOrder", fn := fun _ => fun
  | [d1, d2, d3] => { results := [.lit (.bool true)], args := [d1, d2, d3] }
  | _ => none }
def arithOrderRow : OpenClaim := { program := "ytencepjebdadcaa", sum := "b38abdca45143c645d48e855d525b3ec81faba118a710e8c902127f7fd408cef", func := "larch/larchlaw14.ArithOrder", spec := "arithOrder", unfollowed := true, recurses := true, apart := false }
def ArithOrderSaid : Prop := arithOrderRow.holds Try.pinned (OpenSpec.ofChange arithOrderSpec)

/-- ITS FALSE NEIGHBOUR: 'it returns false'. Refute it at one input. -/
def arithOrderWrong : ChangeSpec := { name := "arithOrder", fn := fun _ => fun
  | [d1, d2, d3] => { results := [.lit (.bool false)], args := [d1, d2, d3] }
  | _ => none }
def ArithOrderWrongFalsely : Prop := arithOrderRow.holds Try.pinned (OpenSpec.ofChange arithOrderWrong)

/-- 'larchlaw14.ArithAgainst': WHATEVER THE INPUT: true; the input reads as it did. -/
def arithAgainstSpec : ChangeSpec := { name := "arithAgainst", fn := fun _ => fun
  | [d1, d2, d3] => { results := [.lit (.bool true)], args := [d1, d2, d3] }
  | _ => none }
def arithAgainstRow : OpenClaim := { program := "ytencepjebdadcaa", sum := "b38abdca45143c645d48e855d525b3ec81faba118a710e8c902127f7fd408cef", func := "larch/larchlaw14.ArithAgainst", spec := "arithAgainst", unfollowed := true, recurses := true, apart := false }
def ArithAgainstSaid : Prop := arithAgainstRow.holds Try.pinned (OpenSpec.ofChange arithAgainstSpec)

/-- ITS FALSE NEIGHBOUR: 'it returns false'. Refute it at one input. -/
def arithAgainstWrong : ChangeSpec := { name := "arithAgainst", fn := fun _ => fun
  | [d1, d2, d3] => { results := [.lit (.bool false)], args := [d1, d2, d3] }
  | _ => none }
def ArithAgainstWrongFalsely : Prop := arithAgainstRow.holds Try.pinned (OpenSpec.ofChange arithAgainstWrong)

/-- 'larchlaw14.ArithOnes': WHATEVER THE INPUT: true; the input reads as it did. -/
def arithOnesSpec : ChangeSpec := { name := "arithOnes", fn := fun _ => fun
  | [d1, d2, d3] => { results := [.lit (.bool true)], args := [d1, d2, d3] }
  | _ => none }
def arithOnesRow : OpenClaim := { program := "ytencepjebdadcaa", sum := "b38abdca45143c645d48e855d525b3ec81faba118a710e8c902127f7fd408cef", func := "larch/larchlaw14.ArithOnes", spec := "arithOnes", unfollowed := true, recurses := true, apart := false }
def ArithOnesSaid : Prop := arithOnesRow.holds Try.pinned (OpenSpec.ofChange arithOnesSpec)

/-- ITS FALSE NEIGHBOUR: 'it returns false'. Refute it at one input. -/
def arithOnesWrong : ChangeSpec := { name := "arithOnes", fn := fun _ => fun
  | [d1, d2, d3] => { results := [.lit (.bool false)], args := [d1, d2, d3] }
  | _ => none }
def ArithOnesWrongFalsely : Prop := arithOnesRow.holds Try.pinned (OpenSpec.ofChange arithOnesWrong)

/- THE SECOND FORM. 'bulk': how many values and letters a reading holds, each counted each time it is reached (what is shared counts as often as it is met; a slice's spare places count too). A statement '..UptoSaid' is the law's where the arguments, and the package variables that the reading takes, are together of bulk at most 1048576: NARROWER than '..Said'. Prove '..Said' where nothing that the law and all that it calls make is longer than what came in: it says more and counts as full. Else prove '..UptoSaid'. A law counts once. -/
mutual
def uptoBulk {H : Type} : DataW H → Nat
  | .lit (.string bytes) => bytes.length + 1
  | .lit _ => 1
  | .nil => 1
  | .ptr d => uptoBulk d + 1
  | .slice elems spare => uptoBulkAll elems + uptoBulkAll spare + 1
  | .agg parts => uptoBulkAll parts + 1
  | .iface _ d => uptoBulk d + 1
  | .map entries => uptoBulkEntries entries + 1
  | .held _ => 1
def uptoBulkAll {H : Type} : List (DataW H) → Nat
  | [] => 0
  | d :: r => uptoBulk d + uptoBulkAll r
def uptoBulkEntries {H : Type} : List (Lit × DataW H) → Nat
  | [] => 0
  | x :: r => uptoBulkEntry x + uptoBulkEntries r
def uptoBulkEntry {H : Type} : Lit × DataW H → Nat
  | (.string bytes, d) => bytes.length + uptoBulk d + 1
  | (_, d) => uptoBulk d + 1
 end
def uptoSmall : (H : Type) → List (DataW H) → Bool := fun _ ds => decide (uptoBulkAll ds ≤ 1048576)
def OpenSpec.upto (s : _root_.Go.ChangeSpec) : _root_.Go.OpenSpec := { _root_.Go.OpenSpec.ofChange s with cond := some uptoSmall }

/-- 'larchlaw14.ArithInts', WHERE WHAT IT READS IS OF BULK AT MOST 1048576: true; the input reads as it did. -/
def arithIntsUptoRow : OpenClaim := { program := "ytencepjebdadcaa", sum := "b38abdca45143c645d48e855d525b3ec81faba118a710e8c902127f7fd408cef", func := "larch/larchlaw14.ArithInts", spec := "arithInts", unfollowed := true, recurses := true, apart := false, narrowed := true }
def ArithIntsUptoSaid : Prop := arithIntsUptoRow.holds Try.pinned (OpenSpec.upto arithIntsSpec)

/-- 'larchlaw14.ArithStays', WHERE WHAT IT READS IS OF BULK AT MOST 1048576: true; the input reads as it did. -/
def arithStaysUptoRow : OpenClaim := { program := "ytencepjebdadcaa", sum := "b38abdca45143c645d48e855d525b3ec81faba118a710e8c902127f7fd408cef", func := "larch/larchlaw14.ArithStays", spec := "arithStays", unfollowed := true, recurses := true, apart := false, narrowed := true }
def ArithStaysUptoSaid : Prop := arithStaysUptoRow.holds Try.pinned (OpenSpec.upto arithStaysSpec)

/-- 'larchlaw14.ArithLongs', WHERE WHAT IT READS IS OF BULK AT MOST 1048576: true; the input reads as it did. -/
def arithLongsUptoRow : OpenClaim := { program := "ytencepjebdadcaa", sum := "b38abdca45143c645d48e855d525b3ec81faba118a710e8c902127f7fd408cef", func := "larch/larchlaw14.ArithLongs", spec := "arithLongs", unfollowed := true, recurses := true, apart := false, narrowed := true }
def ArithLongsUptoSaid : Prop := arithLongsUptoRow.holds Try.pinned (OpenSpec.upto arithLongsSpec)

/-- 'larchlaw14.ArithDivides', WHERE WHAT IT READS IS OF BULK AT MOST 1048576: true; the input reads as it did. -/
def arithDividesUptoRow : OpenClaim := { program := "ytencepjebdadcaa", sum := "b38abdca45143c645d48e855d525b3ec81faba118a710e8c902127f7fd408cef", func := "larch/larchlaw14.ArithDivides", spec := "arithDivides", unfollowed := true, recurses := true, apart := false, narrowed := true }
def ArithDividesUptoSaid : Prop := arithDividesUptoRow.holds Try.pinned (OpenSpec.upto arithDividesSpec)

/-- 'larchlaw14.ArithOrder', WHERE WHAT IT READS IS OF BULK AT MOST 1048576: true; the input reads as it did. -/
def arithOrderUptoRow : OpenClaim := { program := "ytencepjebdadcaa", sum := "b38abdca45143c645d48e855d525b3ec81faba118a710e8c902127f7fd408cef", func := "larch/larchlaw14.ArithOrder", spec := "arithOrder", unfollowed := true, recurses := true, apart := false, narrowed := true }
def ArithOrderUptoSaid : Prop := arithOrderUptoRow.holds Try.pinned (OpenSpec.upto arithOrderSpec)

/-- 'larchlaw14.ArithAgainst', WHERE WHAT IT READS IS OF BULK AT MOST 1048576: true; the input reads as it did. -/
def arithAgainstUptoRow : OpenClaim := { program := "ytencepjebdadcaa", sum := "b38abdca45143c645d48e855d525b3ec81faba118a710e8c902127f7fd408cef", func := "larch/larchlaw14.ArithAgainst", spec := "arithAgainst", unfollowed := true, recurses := true, apart := false, narrowed := true }
def ArithAgainstUptoSaid : Prop := arithAgainstUptoRow.holds Try.pinned (OpenSpec.upto arithAgainstSpec)

/-- 'larchlaw14.ArithOnes', WHERE WHAT IT READS IS OF BULK AT MOST 1048576: true; the input reads as it did. -/
def arithOnesUptoRow : OpenClaim := { program := "ytencepjebdadcaa", sum := "b38abdca45143c645d48e855d525b3ec81faba118a710e8c902127f7fd408cef", func := "larch/larchlaw14.ArithOnes", spec := "arithOnes", unfollowed := true, recurses := true, apart := false, narrowed := true }
def ArithOnesUptoSaid : Prop := arithOnesUptoRow.holds Try.pinned (OpenSpec.upto arithOnesSpec)

end Rows
end Go.Proofs.Ytencepjebdadcaa
