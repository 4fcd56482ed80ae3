/-
  No cell of these rows narrows 'for every input' (looked for: loops, veiled, ifaces, maps, wideKeys, modest, calm, conditions, laid).
  DERIVED. THE GIVEN ROWS OF THIS SEAT. 9 by the template 'for every input the law returns true; each argument reads behind the call as it read before'; 0 by the template 'total and deterministic' (their statements: YteojmbigbifklaaTotals.lean).
  GIVEN WITH THE SEED: the statements are not yours to turn. If you find one false, say at which input.
  Laid BY PROGRAM, IN A SANDBOX (cutbox-rows.mjs): the forced cells as the released guide's own fill.sh prints them over the translation cba3b5f358bd31e3… (all of the seat's roots in one cut). By AI agents, Wed Nov 11 2026. No macro, syntax, notation, axiom, sorry.
-/
import Derived.Test.YteojmbigbifklaaChecked
import GoSem.Claim
import GoSem.ClaimJoined
import GoSem.ClaimMapViews
import Derived.JoinedTies
import Derived.KernelRfl
namespace Go.Proofs.Yteojmbigbifklaa
/- THE CELL 'sum', in the pinned program and in every row, IS THE sha256 OF THE DUMP (.gsa) THAT YteojmbigbifklaaProg.lean LOADS. Nothing in Lean hashes anything: it is a label: what it is worth is what the hold of that sum in a sandbox is worth. -/
noncomputable def Try.pinned : Pinned := { name := "yteojmbigbifklaa", sum := "cba3b5f358bd31e3f193ee8920a8e4005b0198f71d2f1d82d3becf98a4df1d97", checked := Try.checked }
namespace Rows
def none {H : Type} : Left H := { results := [], args := [] }

/-- 'hocketlaw6.LockForms': WHATEVER THE INPUT: true; the input reads as it did. -/
def lockFormsSpec : ChangeSpec := { name := "lockForms", fn := fun _ => fun
  | [d] => { results := [.lit (.bool true)], args := [d] }
  | _ => none }
def lockFormsRow : OpenClaim := { program := "yteojmbigbifklaa", sum := "cba3b5f358bd31e3f193ee8920a8e4005b0198f71d2f1d82d3becf98a4df1d97", func := "hocket/hocketlaw6.LockForms", spec := "lockForms", apart := false }
def LockFormsSaid : Prop := lockFormsRow.holds Try.pinned (OpenSpec.ofChange lockFormsSpec)

/-- ITS FALSE NEIGHBOUR: 'it returns false'. Refute it at one input. -/
def lockFormsWrong : ChangeSpec := { name := "lockForms", fn := fun _ => fun
  | [d] => { results := [.lit (.bool false)], args := [d] }
  | _ => none }
def LockFormsWrongFalsely : Prop := lockFormsRow.holds Try.pinned (OpenSpec.ofChange lockFormsWrong)

/-- 'hocketlaw6.LockTurns': WHATEVER THE INPUT: true; the input reads as it did. -/
def lockTurnsSpec : ChangeSpec := { name := "lockTurns", fn := fun _ => fun
  | [d] => { results := [.lit (.bool true)], args := [d] }
  | _ => none }
def lockTurnsRow : OpenClaim := { program := "yteojmbigbifklaa", sum := "cba3b5f358bd31e3f193ee8920a8e4005b0198f71d2f1d82d3becf98a4df1d97", func := "hocket/hocketlaw6.LockTurns", spec := "lockTurns", apart := false }
def LockTurnsSaid : Prop := lockTurnsRow.holds Try.pinned (OpenSpec.ofChange lockTurnsSpec)

/-- ITS FALSE NEIGHBOUR: 'it returns false'. Refute it at one input. -/
def lockTurnsWrong : ChangeSpec := { name := "lockTurns", fn := fun _ => fun
  | [d] => { results := [.lit (.bool false)], args := [d] }
  | _ => none }
def LockTurnsWrongFalsely : Prop := lockTurnsRow.holds Try.pinned (OpenSpec.ofChange lockTurnsWrong)

/-- 'hocketlaw6.LockOwn': WHATEVER THE INPUT: true; the input reads as it did. -/
def lockOwnSpec : ChangeSpec := { name := "lockOwn", fn := fun _ => fun
  | [d1, d2, d3] => { results := [.lit (.bool true)], args := [d1, d2, d3] }
  | _ => none }
def lockOwnRow : OpenClaim := { program := "yteojmbigbifklaa", sum := "cba3b5f358bd31e3f193ee8920a8e4005b0198f71d2f1d82d3becf98a4df1d97", func := "hocket/hocketlaw6.LockOwn", spec := "lockOwn", apart := false }
def LockOwnSaid : Prop := lockOwnRow.holds Try.pinned (OpenSpec.ofChange lockOwnSpec)

/-- ITS FALSE NEIGHBOUR: 'it returns false'. Refute it at one input. -/
def lockOwnWrong : ChangeSpec := { name := "lockOwn", fn := fun _ => fun
  | [d1, d2, d3] => { results := [.lit (.bool false)], args := [d1, d2, d3] }
  | _ => none }
def LockOwnWrongFalsely : Prop := lockOwnRow.holds Try.pinned (OpenSpec.ofChange lockOwnWrong)

/-- 'hocketlaw6.LockPlays': WHATEVER THE INPUT: true; the input reads as it did. -/
def lockPlaysSpec : ChangeSpec := { name := "lockPlays", fn := fun _ => fun
  | [d1, d2, d3] => { results := [.lit (.bool true)], args := [d1, d2, d3] }
  | _ => none }
def lockPlaysRow : OpenClaim := { program := "yteojmbigbifklaa", sum := "cba3b5f358bd31e3f193ee8920a8e4005b0198f71d2f1d82d3becf98a4df1d97", func := "hocket/hocketlaw6.LockPlays", spec := "lockPlays", apart := false }
def LockPlaysSaid : Prop := lockPlaysRow.holds Try.pinned (OpenSpec.ofChange lockPlaysSpec)

/-- ITS FALSE NEIGHBOUR: 'it returns false'. Refute it at one input. -/
def lockPlaysWrong : ChangeSpec := { name := "lockPlays", fn := fun _ => fun
  | [d1, d2, d3] => { results := [.lit (.bool false)], args := [d1, d2, d3] }
  | _ => none }
def LockPlaysWrongFalsely : Prop := lockPlaysRow.holds Try.pinned (OpenSpec.ofChange lockPlaysWrong)

/-- 'hocketlaw6.LockOne': WHATEVER THE INPUT: true; the input reads as it did. -/
def lockOneSpec : ChangeSpec := { name := "lockOne", fn := fun _ => fun
  | [d] => { results := [.lit (.bool true)], args := [d] }
  | _ => none }
def lockOneRow : OpenClaim := { program := "yteojmbigbifklaa", sum := "cba3b5f358bd31e3f193ee8920a8e4005b0198f71d2f1d82d3becf98a4df1d97", func := "hocket/hocketlaw6.LockOne", spec := "lockOne", apart := false }
def LockOneSaid : Prop := lockOneRow.holds Try.pinned (OpenSpec.ofChange lockOneSpec)

/-- ITS FALSE NEIGHBOUR: 'it returns false'. Refute it at one input. -/
def lockOneWrong : ChangeSpec := { name := "lockOne", fn := fun _ => fun
  | [d] => { results := [.lit (.bool false)], args := [d] }
  | _ => none }
def LockOneWrongFalsely : Prop := lockOneRow.holds Try.pinned (OpenSpec.ofChange lockOneWrong)

/-- 'hocketlaw20.WaitTwice': WHATEVER THE INPUT: true; the input reads as it did. -/
def waitTwiceSpec : ChangeSpec := { name := "waitTwice", fn := fun _ => fun
  | [d1, d2] => { results := [.lit (.bool true)], args := [d1, d2] }
  | _ => none }
def waitTwiceRow : OpenClaim := { program := "yteojmbigbifklaa", sum := "cba3b5f358bd31e3f193ee8920a8e4005b0198f71d2f1d82d3becf98a4df1d97", func := "hocket/hocketlaw20.WaitTwice", spec := "waitTwice", unfollowed := true, recurses := true, apart := false }
def WaitTwiceSaid : Prop := waitTwiceRow.holds Try.pinned (OpenSpec.ofChange waitTwiceSpec)

/-- ITS FALSE NEIGHBOUR: 'it returns false'. Refute it at one input. -/
def waitTwiceWrong : ChangeSpec := { name := "waitTwice", fn := fun _ => fun
  | [d1, d2] => { results := [.lit (.bool false)], args := [d1, d2] }
  | _ => none }
def WaitTwiceWrongFalsely : Prop := waitTwiceRow.holds Try.pinned (OpenSpec.ofChange waitTwiceWrong)

/-- 'hocketlaw20.WaitOwn': WHATEVER THE INPUT: true; the input reads as it did. -/
def waitOwnSpec : ChangeSpec := { name := "waitOwn", fn := fun _ => fun
  | [d] => { results := [.lit (.bool true)], args := [d] }
  | _ => none }
def waitOwnRow : OpenClaim := { program := "yteojmbigbifklaa", sum := "cba3b5f358bd31e3f193ee8920a8e4005b0198f71d2f1d82d3becf98a4df1d97", func := "hocket/hocketlaw20.WaitOwn", spec := "waitOwn", unfollowed := true, recurses := true, apart := false }
def WaitOwnSaid : Prop := waitOwnRow.holds Try.pinned (OpenSpec.ofChange waitOwnSpec)

/-- ITS FALSE NEIGHBOUR: 'it returns false'. Refute it at one input. -/
def waitOwnWrong : ChangeSpec := { name := "waitOwn", fn := fun _ => fun
  | [d] => { results := [.lit (.bool false)], args := [d] }
  | _ => none }
def WaitOwnWrongFalsely : Prop := waitOwnRow.holds Try.pinned (OpenSpec.ofChange waitOwnWrong)

/-- 'hocketlaw20.WaitPlays': WHATEVER THE INPUT: true; the input reads as it did. -/
def waitPlaysSpec : ChangeSpec := { name := "waitPlays", fn := fun _ => fun
  | [d] => { results := [.lit (.bool true)], args := [d] }
  | _ => none }
def waitPlaysRow : OpenClaim := { program := "yteojmbigbifklaa", sum := "cba3b5f358bd31e3f193ee8920a8e4005b0198f71d2f1d82d3becf98a4df1d97", func := "hocket/hocketlaw20.WaitPlays", spec := "waitPlays", unfollowed := true, recurses := true, apart := false }
def WaitPlaysSaid : Prop := waitPlaysRow.holds Try.pinned (OpenSpec.ofChange waitPlaysSpec)

/-- ITS FALSE NEIGHBOUR: 'it returns false'. Refute it at one input. -/
def waitPlaysWrong : ChangeSpec := { name := "waitPlays", fn := fun _ => fun
  | [d] => { results := [.lit (.bool false)], args := [d] }
  | _ => none }
def WaitPlaysWrongFalsely : Prop := waitPlaysRow.holds Try.pinned (OpenSpec.ofChange waitPlaysWrong)

/-- 'hocketlaw20.WaitAll': WHATEVER THE INPUT: true; the input reads as it did. -/
def waitAllSpec : ChangeSpec := { name := "waitAll", fn := fun _ => fun
  | [d1, d2, d3] => { results := [.lit (.bool true)], args := [d1, d2, d3] }
  | _ => none }
def waitAllRow : OpenClaim := { program := "yteojmbigbifklaa", sum := "cba3b5f358bd31e3f193ee8920a8e4005b0198f71d2f1d82d3becf98a4df1d97", func := "hocket/hocketlaw20.WaitAll", spec := "waitAll", unfollowed := true, recurses := true, apart := false }
def WaitAllSaid : Prop := waitAllRow.holds Try.pinned (OpenSpec.ofChange waitAllSpec)

/-- ITS FALSE NEIGHBOUR: 'it returns false'. Refute it at one input. -/
def waitAllWrong : ChangeSpec := { name := "waitAll", fn := fun _ => fun
  | [d1, d2, d3] => { results := [.lit (.bool false)], args := [d1, d2, d3] }
  | _ => none }
def WaitAllWrongFalsely : Prop := waitAllRow.holds Try.pinned (OpenSpec.ofChange waitAllWrong)

/- THE SECOND FORM. 'bulk': how many values and letters a reading holds, each counted each time it is reached (what is shared counts as often as it is met; a slice's spare places count too). A statement '..UptoSaid' is the law's where the arguments, and the package variables that the reading takes, are together of bulk at most 1048576: NARROWER than '..Said'. Prove '..Said' where nothing that the law and all that it calls make is longer than what came in: it says more and counts as full. Else prove '..UptoSaid'. A law counts once. -/
mutual
def uptoBulk {H : Type} : DataW H → Nat
  | .lit (.string bytes) => bytes.length + 1
  | .lit _ => 1
  | .nil => 1
  | .ptr d => uptoBulk d + 1
  | .slice elems spare => uptoBulkAll elems + uptoBulkAll spare + 1
  | .agg parts => uptoBulkAll parts + 1
  | .iface _ d => uptoBulk d + 1
  | .map entries => uptoBulkEntries entries + 1
  | .held _ => 1
def uptoBulkAll {H : Type} : List (DataW H) → Nat
  | [] => 0
  | d :: r => uptoBulk d + uptoBulkAll r
def uptoBulkEntries {H : Type} : List (Lit × DataW H) → Nat
  | [] => 0
  | x :: r => uptoBulkEntry x + uptoBulkEntries r
def uptoBulkEntry {H : Type} : Lit × DataW H → Nat
  | (.string bytes, d) => bytes.length + uptoBulk d + 1
  | (_, d) => uptoBulk d + 1
 end
def uptoSmall : (H : Type) → List (DataW H) → Bool := fun _ ds => decide (uptoBulkAll ds ≤ 1048576)
def OpenSpec.upto (s : _root_.Go.ChangeSpec) : _root_.Go.OpenSpec := { _root_.Go.OpenSpec.ofChange s with cond := some uptoSmall }

/-- 'hocketlaw6.LockForms', WHERE WHAT IT READS IS OF BULK AT MOST 1048576: true; the input reads as it did. -/
def lockFormsUptoRow : OpenClaim := { program := "yteojmbigbifklaa", sum := "cba3b5f358bd31e3f193ee8920a8e4005b0198f71d2f1d82d3becf98a4df1d97", func := "hocket/hocketlaw6.LockForms", spec := "lockForms", apart := false, narrowed := true }
def LockFormsUptoSaid : Prop := lockFormsUptoRow.holds Try.pinned (OpenSpec.upto lockFormsSpec)

/-- 'hocketlaw6.LockTurns', WHERE WHAT IT READS IS OF BULK AT MOST 1048576: true; the input reads as it did. -/
def lockTurnsUptoRow : OpenClaim := { program := "yteojmbigbifklaa", sum := "cba3b5f358bd31e3f193ee8920a8e4005b0198f71d2f1d82d3becf98a4df1d97", func := "hocket/hocketlaw6.LockTurns", spec := "lockTurns", apart := false, narrowed := true }
def LockTurnsUptoSaid : Prop := lockTurnsUptoRow.holds Try.pinned (OpenSpec.upto lockTurnsSpec)

/-- 'hocketlaw6.LockOwn', WHERE WHAT IT READS IS OF BULK AT MOST 1048576: true; the input reads as it did. -/
def lockOwnUptoRow : OpenClaim := { program := "yteojmbigbifklaa", sum := "cba3b5f358bd31e3f193ee8920a8e4005b0198f71d2f1d82d3becf98a4df1d97", func := "hocket/hocketlaw6.LockOwn", spec := "lockOwn", apart := false, narrowed := true }
def LockOwnUptoSaid : Prop := lockOwnUptoRow.holds Try.pinned (OpenSpec.upto lockOwnSpec)

/-- 'hocketlaw6.LockPlays', WHERE WHAT IT READS IS OF BULK AT MOST 1048576: true; the input reads as it did. -/
def lockPlaysUptoRow : OpenClaim := { program := "yteojmbigbifklaa", sum := "cba3b5f358bd31e3f193ee8920a8e4005b0198f71d2f1d82d3becf98a4df1d97", func := "hocket/hocketlaw6.LockPlays", spec := "lockPlays", apart := false, narrowed := true }
def LockPlaysUptoSaid : Prop := lockPlaysUptoRow.holds Try.pinned (OpenSpec.upto lockPlaysSpec)

/-- 'hocketlaw6.LockOne', WHERE WHAT IT READS IS OF BULK AT MOST 1048576: true; the input reads as it did. -/
def lockOneUptoRow : OpenClaim := { program := "yteojmbigbifklaa", sum := "cba3b5f358bd31e3f193ee8920a8e4005b0198f71d2f1d82d3becf98a4df1d97", func := "hocket/hocketlaw6.LockOne", spec := "lockOne", apart := false, narrowed := true }
def LockOneUptoSaid : Prop := lockOneUptoRow.holds Try.pinned (OpenSpec.upto lockOneSpec)

/-- 'hocketlaw20.WaitTwice', WHERE WHAT IT READS IS OF BULK AT MOST 1048576: true; the input reads as it did. -/
def waitTwiceUptoRow : OpenClaim := { program := "yteojmbigbifklaa", sum := "cba3b5f358bd31e3f193ee8920a8e4005b0198f71d2f1d82d3becf98a4df1d97", func := "hocket/hocketlaw20.WaitTwice", spec := "waitTwice", unfollowed := true, recurses := true, apart := false, narrowed := true }
def WaitTwiceUptoSaid : Prop := waitTwiceUptoRow.holds Try.pinned (OpenSpec.upto waitTwiceSpec)

/-- 'hocketlaw20.WaitOwn', WHERE WHAT IT READS IS OF BULK AT MOST 1048576: true; the input reads as it did. -/
def waitOwnUptoRow : OpenClaim := { program := "yteojmbigbifklaa", sum := "cba3b5f358bd31e3f193ee8920a8e4005b0198f71d2f1d82d3becf98a4df1d97", func := "hocket/hocketlaw20.WaitOwn", spec := "waitOwn", unfollowed := true, recurses := true, apart := false, narrowed := true }
def WaitOwnUptoSaid : Prop := waitOwnUptoRow.holds Try.pinned (OpenSpec.upto waitOwnSpec)

/-- 'hocketlaw20.WaitPlays', WHERE WHAT IT READS IS OF BULK AT MOST 1048576: true; the input reads as it did. -/
def waitPlaysUptoRow : OpenClaim := { program := "yteojmbigbifklaa", sum := "cba3b5f358bd31e3f193ee8920a8e4005b0198f71d2f1d82d3becf98a4df1d97", func := "hocket/hocketlaw20.WaitPlays", spec := "waitPlays", unfollowed := true, recurses := true, apart := false, narrowed := true }
def WaitPlaysUptoSaid : Prop := waitPlaysUptoRow.holds Try.pinned (OpenSpec.upto waitPlaysSpec)

/-- 'hocketlaw20.WaitAll', WHERE WHAT IT READS IS OF BULK AT MOST 1048576: true; the input reads as it did. -/
def waitAllUptoRow : OpenClaim := { program := "yteojmbigbifklaa", sum := "cba3b5f358bd31e3f193ee8920a8e4005b0198f71d2f1d82d3becf98a4df1d97", func := "hocket/hocketlaw20.WaitAll", spec := "waitAll", unfollowed := true, recurses := true, apart := false, narrowed := true }
def WaitAllUptoSaid : Prop := waitAllUptoRow.holds Try.pinned (OpenSpec.upto waitAllSpec)

end Rows
end Go.Proofs.Yteojmbigbifklaa
