/-
  No cell of these rows narrows 'for every input' (looked for: loops, veiled, ifaces, maps, wideKeys, modest, calm, conditions, laid).
  DERIVED. THE GIVEN ROWS OF THIS SEAT. 2 by the template 'for every input the law returns true; each argument reads behind the call as it read before'; 0 by the template 'total and deterministic' (their statements: YtpfpojfcbdepnaaTotals.lean).
  GIVEN WITH THE SEED: the statements are not yours to turn. If you find one false, say at which input.
  Laid BY PROGRAM, IN A SANDBOX (cutbox-rows.mjs): the forced cells as the released guide's own fill.sh prints them over the translation de903e75540d5fb2… (all of the seat's roots in one cut). By AI agents, Wed Nov 11 2026. No macro, syntax, notation, axiom, sorry.
-/
import Derived.Test.YtpfpojfcbdepnaaChecked
import GoSem.Claim
import GoSem.ClaimJoined
import GoSem.ClaimMapViews
import Derived.JoinedTies
import Derived.KernelRfl
namespace Go.Proofs.Ytpfpojfcbdepnaa
/- THE CELL 'sum', in the pinned program and in every row, IS THE sha256 OF THE DUMP (.gsa) THAT YtpfpojfcbdepnaaProg.lean LOADS. Nothing in Lean hashes anything: it is a label: what it is worth is what the hold of that sum in a sandbox is worth. -/
noncomputable def Try.pinned : Pinned := { name := "ytpfpojfcbdepnaa", sum := "de903e75540d5fb228797220e0038643a669adaf00331fa3f597978d1627c240", checked := Try.checked }
namespace Rows
def none {H : Type} : Left H := { results := [], args := [] }

/-- 'hocketlaw20.WaitTwice': WHATEVER THE INPUT: true; the input reads as it did. -/
def waitTwiceSpec : ChangeSpec := { name := "waitTwice", fn := fun _ => fun
  | [d1, d2] => { results := [.lit (.bool true)], args := [d1, d2] }
  | _ => none }
def waitTwiceRow : OpenClaim := { program := "ytpfpojfcbdepnaa", sum := "de903e75540d5fb228797220e0038643a669adaf00331fa3f597978d1627c240", func := "hocket/hocketlaw20.WaitTwice", spec := "waitTwice", unfollowed := true, recurses := true, apart := false }
def WaitTwiceSaid : Prop := waitTwiceRow.holds Try.pinned (OpenSpec.ofChange waitTwiceSpec)

/-- ITS FALSE NEIGHBOUR: 'it returns false'. Refute it at one input. -/
def waitTwiceWrong : ChangeSpec := { name := "waitTwice", fn := fun _ => fun
  | [d1, d2] => { results := [.lit (.bool false)], args := [d1, d2] }
  | _ => none }
def WaitTwiceWrongFalsely : Prop := waitTwiceRow.holds Try.pinned (OpenSpec.ofChange waitTwiceWrong)

/-- 'hocketlaw20.WaitOwn': WHATEVER THE INPUT: true; the input reads as it did. -/
def waitOwnSpec : ChangeSpec := { name := "waitOwn", fn := fun _ => fun
  | [d] => { results := [.lit (.bool true)], args := [d] }
  | _ => none }
def waitOwnRow : OpenClaim := { program := "ytpfpojfcbdepnaa", sum := "de903e75540d5fb228797220e0038643a669adaf00331fa3f597978d1627c240", func := "hocket/hocketlaw20.WaitOwn", spec := "waitOwn", unfollowed := true, recurses := true, apart := false }
def WaitOwnSaid : Prop := waitOwnRow.holds Try.pinned (OpenSpec.ofChange waitOwnSpec)

/-- ITS FALSE NEIGHBOUR: 'it returns false'. Refute it at one input. -/
def waitOwnWrong : ChangeSpec := { name := "waitOwn", fn := fun _ => fun
  | [d] => { results := [.lit (.bool false)], args := [d] }
  | _ => none }
def WaitOwnWrongFalsely : Prop := waitOwnRow.holds Try.pinned (OpenSpec.ofChange waitOwnWrong)

/- THE SECOND FORM. 'bulk': how many values and letters a reading holds, each counted each time it is reached (what is shared counts as often as it is met; a slice's spare places count too). A statement '..UptoSaid' is the law's where the arguments, and the package variables that the reading takes, are together of bulk at most 1048576: NARROWER than '..Said'. Prove '..Said' where nothing that the law and all that it calls make is longer than what came in: it says more and counts as full. Else prove '..UptoSaid'. A law counts once. -/
mutual
def uptoBulk {H : Type} : DataW H → Nat
  | .lit (.string bytes) => bytes.length + 1
  | .lit _ => 1
  | .nil => 1
  | .ptr d => uptoBulk d + 1
  | .slice elems spare => uptoBulkAll elems + uptoBulkAll spare + 1
  | .agg parts => uptoBulkAll parts + 1
  | .iface _ d => uptoBulk d + 1
  | .map entries => uptoBulkEntries entries + 1
  | .held _ => 1
def uptoBulkAll {H : Type} : List (DataW H) → Nat
  | [] => 0
  | d :: r => uptoBulk d + uptoBulkAll r
def uptoBulkEntries {H : Type} : List (Lit × DataW H) → Nat
  | [] => 0
  | x :: r => uptoBulkEntry x + uptoBulkEntries r
def uptoBulkEntry {H : Type} : Lit × DataW H → Nat
  | (.string bytes, d) => bytes.length + uptoBulk d + 1
  | (_, d) => uptoBulk d + 1
 end
def uptoSmall : (H : Type) → List (DataW H) → Bool := fun _ ds => decide (uptoBulkAll ds ≤ 1048576)
def OpenSpec.upto (s : _root_.Go.ChangeSpec) : _root_.Go.OpenSpec := { _root_.Go.OpenSpec.ofChange s with cond := some uptoSmall }

/-- 'hocketlaw20.WaitTwice', WHERE WHAT IT READS IS OF BULK AT MOST 1048576: true; the input reads as it did. -/
def waitTwiceUptoRow : OpenClaim := { program := "ytpfpojfcbdepnaa", sum := "de903e75540d5fb228797220e0038643a669adaf00331fa3f597978d1627c240", func := "hocket/hocketlaw20.WaitTwice", spec := "waitTwice", unfollowed := true, recurses := true, apart := false, narrowed := true }
def WaitTwiceUptoSaid : Prop := waitTwiceUptoRow.holds Try.pinned (OpenSpec.upto waitTwiceSpec)

/-- 'hocketlaw20.WaitOwn', WHERE WHAT IT READS IS OF BULK AT MOST 1048576: true; the input reads as it did. -/
def waitOwnUptoRow : OpenClaim := { program := "ytpfpojfcbdepnaa", sum := "de903e75540d5fb228797220e0038643a669adaf00331fa3f597978d1627c240", func := "hocket/hocketlaw20.WaitOwn", spec := "waitOwn", unfollowed := true, recurses := true, apart := false, narrowed := true }
def WaitOwnUptoSaid : Prop := waitOwnUptoRow.holds Try.pinned (OpenSpec.upto waitOwnSpec)

end Rows
end Go.Proofs.Ytpfpojfcbdepnaa
