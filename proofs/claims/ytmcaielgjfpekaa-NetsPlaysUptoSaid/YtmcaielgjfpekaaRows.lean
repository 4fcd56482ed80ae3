/-
  No cell of these rows narrows 'for every input' (looked for: loops, veiled, ifaces, maps, wideKeys, modest, calm, conditions, laid).
  DERIVED. THE GIVEN ROWS OF THIS SEAT. 6 by the template 'for every input the law returns true; each argument reads behind the call as it read before'; 0 by the template 'total and deterministic' (their statements: YtmcaielgjfpekaaTotals.lean).
  GIVEN WITH THE SEED: the statements are not yours to turn. If you find one false, say at which input.
  Laid BY PROGRAM, IN A SANDBOX (cutbox-rows.mjs): the forced cells as the released guide's own fill.sh prints them over the translation 5b136c69111c39c5… (all of the seat's roots in one cut). By AI agents, Wed Nov 11 2026. No macro, syntax, notation, axiom, sorry.
-/
import Derived.Test.YtmcaielgjfpekaaChecked
import GoSem.Claim
import GoSem.ClaimJoined
import GoSem.ClaimMapViews
import Derived.JoinedTies
import Derived.KernelRfl
namespace Go.Proofs.Ytmcaielgjfpekaa
/- THE CELL 'sum', in the pinned program and in every row, IS THE sha256 OF THE DUMP (.gsa) THAT YtmcaielgjfpekaaProg.lean LOADS. Nothing in Lean hashes anything: it is a label: what it is worth is what the hold of that sum in a sandbox is worth. -/
noncomputable def Try.pinned : Pinned := { name := "ytmcaielgjfpekaa", sum := "5b136c69111c39c5e676c5caf4d643c7d109520f94ccc1b5bb7ffad380b0074f", checked := Try.checked }
namespace Rows
def none {H : Type} : Left H := { results := [], args := [] }

/-- 'hocketlaw23.NetsOrder': WHATEVER THE INPUT: true; the input reads as it did. -/
def netsOrderSpec : ChangeSpec := { name := "netsOrder", fn := fun _ => fun
  | [d1, d2] => { results := [.lit (.bool true)], args := [d1, d2] }
  | _ => none }
def netsOrderRow : OpenClaim := { program := "ytmcaielgjfpekaa", sum := "5b136c69111c39c5e676c5caf4d643c7d109520f94ccc1b5bb7ffad380b0074f", func := "hocket/hocketlaw23.NetsOrder", spec := "netsOrder", unfollowed := true, recurses := true, apart := false }
def NetsOrderSaid : Prop := netsOrderRow.holds Try.pinned (OpenSpec.ofChange netsOrderSpec)

/-- ITS FALSE NEIGHBOUR: 'it returns false'. Refute it at one input. -/
def netsOrderWrong : ChangeSpec := { name := "netsOrder", fn := fun _ => fun
  | [d1, d2] => { results := [.lit (.bool false)], args := [d1, d2] }
  | _ => none }
def NetsOrderWrongFalsely : Prop := netsOrderRow.holds Try.pinned (OpenSpec.ofChange netsOrderWrong)

/-- 'hocketlaw23.NetsTurned': WHATEVER THE INPUT: true; the input reads as it did. -/
def netsTurnedSpec : ChangeSpec := { name := "netsTurned", fn := fun _ => fun
  | [d1, d2, d3] => { results := [.lit (.bool true)], args := [d1, d2, d3] }
  | _ => none }
def netsTurnedRow : OpenClaim := { program := "ytmcaielgjfpekaa", sum := "5b136c69111c39c5e676c5caf4d643c7d109520f94ccc1b5bb7ffad380b0074f", func := "hocket/hocketlaw23.NetsTurned", spec := "netsTurned", unfollowed := true, recurses := true, apart := false }
def NetsTurnedSaid : Prop := netsTurnedRow.holds Try.pinned (OpenSpec.ofChange netsTurnedSpec)

/-- ITS FALSE NEIGHBOUR: 'it returns false'. Refute it at one input. -/
def netsTurnedWrong : ChangeSpec := { name := "netsTurned", fn := fun _ => fun
  | [d1, d2, d3] => { results := [.lit (.bool false)], args := [d1, d2, d3] }
  | _ => none }
def NetsTurnedWrongFalsely : Prop := netsTurnedRow.holds Try.pinned (OpenSpec.ofChange netsTurnedWrong)

/-- 'hocketlaw23.NetsOwn': WHATEVER THE INPUT: true; the input reads as it did. -/
def netsOwnSpec : ChangeSpec := { name := "netsOwn", fn := fun _ => fun
  | [d1, d2] => { results := [.lit (.bool true)], args := [d1, d2] }
  | _ => none }
def netsOwnRow : OpenClaim := { program := "ytmcaielgjfpekaa", sum := "5b136c69111c39c5e676c5caf4d643c7d109520f94ccc1b5bb7ffad380b0074f", func := "hocket/hocketlaw23.NetsOwn", spec := "netsOwn", unfollowed := true, recurses := true, apart := false }
def NetsOwnSaid : Prop := netsOwnRow.holds Try.pinned (OpenSpec.ofChange netsOwnSpec)

/-- ITS FALSE NEIGHBOUR: 'it returns false'. Refute it at one input. -/
def netsOwnWrong : ChangeSpec := { name := "netsOwn", fn := fun _ => fun
  | [d1, d2] => { results := [.lit (.bool false)], args := [d1, d2] }
  | _ => none }
def NetsOwnWrongFalsely : Prop := netsOwnRow.holds Try.pinned (OpenSpec.ofChange netsOwnWrong)

/-- 'hocketlaw23.NetsApart': WHATEVER THE INPUT: true; the input reads as it did. -/
def netsApartSpec : ChangeSpec := { name := "netsApart", fn := fun _ => fun
  | [d1, d2, d3] => { results := [.lit (.bool true)], args := [d1, d2, d3] }
  | _ => none }
def netsApartRow : OpenClaim := { program := "ytmcaielgjfpekaa", sum := "5b136c69111c39c5e676c5caf4d643c7d109520f94ccc1b5bb7ffad380b0074f", func := "hocket/hocketlaw23.NetsApart", spec := "netsApart", unfollowed := true, recurses := true, apart := false }
def NetsApartSaid : Prop := netsApartRow.holds Try.pinned (OpenSpec.ofChange netsApartSpec)

/-- ITS FALSE NEIGHBOUR: 'it returns false'. Refute it at one input. -/
def netsApartWrong : ChangeSpec := { name := "netsApart", fn := fun _ => fun
  | [d1, d2, d3] => { results := [.lit (.bool false)], args := [d1, d2, d3] }
  | _ => none }
def NetsApartWrongFalsely : Prop := netsApartRow.holds Try.pinned (OpenSpec.ofChange netsApartWrong)

/-- 'hocketlaw23.NetsPlays': WHATEVER THE INPUT: true; the input reads as it did. -/
def netsPlaysSpec : ChangeSpec := { name := "netsPlays", fn := fun _ => fun
  | [d1, d2, d3] => { results := [.lit (.bool true)], args := [d1, d2, d3] }
  | _ => none }
def netsPlaysRow : OpenClaim := { program := "ytmcaielgjfpekaa", sum := "5b136c69111c39c5e676c5caf4d643c7d109520f94ccc1b5bb7ffad380b0074f", func := "hocket/hocketlaw23.NetsPlays", spec := "netsPlays", unfollowed := true, recurses := true, apart := false }
def NetsPlaysSaid : Prop := netsPlaysRow.holds Try.pinned (OpenSpec.ofChange netsPlaysSpec)

/-- ITS FALSE NEIGHBOUR: 'it returns false'. Refute it at one input. -/
def netsPlaysWrong : ChangeSpec := { name := "netsPlays", fn := fun _ => fun
  | [d1, d2, d3] => { results := [.lit (.bool false)], args := [d1, d2, d3] }
  | _ => none }
def NetsPlaysWrongFalsely : Prop := netsPlaysRow.holds Try.pinned (OpenSpec.ofChange netsPlaysWrong)

/-- 'hocketlaw23.NetsFull': WHATEVER THE INPUT: true; the input reads as it did. -/
def netsFullSpec : ChangeSpec := { name := "netsFull", fn := fun _ => fun
  | [d1, d2] => { results := [.lit (.bool true)], args := [d1, d2] }
  | _ => none }
def netsFullRow : OpenClaim := { program := "ytmcaielgjfpekaa", sum := "5b136c69111c39c5e676c5caf4d643c7d109520f94ccc1b5bb7ffad380b0074f", func := "hocket/hocketlaw23.NetsFull", spec := "netsFull", unfollowed := true, recurses := true, apart := false }
def NetsFullSaid : Prop := netsFullRow.holds Try.pinned (OpenSpec.ofChange netsFullSpec)

/-- ITS FALSE NEIGHBOUR: 'it returns false'. Refute it at one input. -/
def netsFullWrong : ChangeSpec := { name := "netsFull", fn := fun _ => fun
  | [d1, d2] => { results := [.lit (.bool false)], args := [d1, d2] }
  | _ => none }
def NetsFullWrongFalsely : Prop := netsFullRow.holds Try.pinned (OpenSpec.ofChange netsFullWrong)

/- THE SECOND FORM. 'bulk': how many values and letters a reading holds, each counted each time it is reached (what is shared counts as often as it is met; a slice's spare places count too). A statement '..UptoSaid' is the law's where the arguments, and the package variables that the reading takes, are together of bulk at most 1048576: NARROWER than '..Said'. Prove '..Said' where nothing that the law and all that it calls make is longer than what came in: it says more and counts as full. Else prove '..UptoSaid'. A law counts once. -/
mutual
def uptoBulk {H : Type} : DataW H → Nat
  | .lit (.string bytes) => bytes.length + 1
  | .lit _ => 1
  | .nil => 1
  | .ptr d => uptoBulk d + 1
  | .slice elems spare => uptoBulkAll elems + uptoBulkAll spare + 1
  | .agg parts => uptoBulkAll parts + 1
  | .iface _ d => uptoBulk d + 1
  | .map entries => uptoBulkEntries entries + 1
  | .held _ => 1
def uptoBulkAll {H : Type} : List (DataW H) → Nat
  | [] => 0
  | d :: r => uptoBulk d + uptoBulkAll r
def uptoBulkEntries {H : Type} : List (Lit × DataW H) → Nat
  | [] => 0
  | x :: r => uptoBulkEntry x + uptoBulkEntries r
def uptoBulkEntry {H : Type} : Lit × DataW H → Nat
  | (.string bytes, d) => bytes.length + uptoBulk d + 1
  | (_, d) => uptoBulk d + 1
 end
def uptoSmall : (H : Type) → List (DataW H) → Bool := fun _ ds => decide (uptoBulkAll ds ≤ 1048576)
def OpenSpec.upto (s : _root_.Go.ChangeSpec) : _root_.Go.OpenSpec := { _root_.Go.OpenSpec.ofChange s with cond := some uptoSmall }

/-- 'hocketlaw23.NetsOrder', WHERE WHAT IT READS IS OF BULK AT MOST 1048576: true; the input reads as it did. -/
def netsOrderUptoRow : OpenClaim := { program := "ytmcaielgjfpekaa", sum := "5b136c69111c39c5e676c5caf4d643c7d109520f94ccc1b5bb7ffad380b0074f", func := "hocket/hocketlaw23.NetsOrder", spec := "netsOrder", unfollowed := true, recurses := true, apart := false, narrowed := true }
def NetsOrderUptoSaid : Prop := netsOrderUptoRow.holds Try.pinned (OpenSpec.upto netsOrderSpec)

/-- 'hocketlaw23.NetsTurned', WHERE WHAT IT READS IS OF BULK AT MOST 1048576: true; the input reads as it did. -/
def netsTurnedUptoRow : OpenClaim := { program := "ytmcaielgjfpekaa", sum := "5b136c69111c39c5e676c5caf4d643c7d109520f94ccc1b5bb7ffad380b0074f", func := "hocket/hocketlaw23.NetsTurned", spec := "netsTurned", unfollowed := true, recurses := true, apart := false, narrowed := true }
def NetsTurnedUptoSaid : Prop := netsTurnedUptoRow.holds Try.pinned (OpenSpec.upto netsTurnedSpec)

/-- 'hocketlaw23.NetsOwn', WHERE WHAT IT READS IS OF BULK AT MOST 1048576: true; the input reads as it did. -/
def netsOwnUptoRow : OpenClaim := { program := "ytmcaielgjfpekaa", sum := "5b136c69111c39c5e676c5caf4d643c7d109520f94ccc1b5bb7ffad380b0074f", func := "hocket/hocketlaw23.NetsOwn", spec := "netsOwn", unfollowed := true, recurses := true, apart := false, narrowed := true }
def NetsOwnUptoSaid : Prop := netsOwnUptoRow.holds Try.pinned (OpenSpec.upto netsOwnSpec)

/-- 'hocketlaw23.NetsApart', WHERE WHAT IT READS IS OF BULK AT MOST 1048576: true; the input reads as it did. -/
def netsApartUptoRow : OpenClaim := { program := "ytmcaielgjfpekaa", sum := "5b136c69111c39c5e676c5caf4d643c7d109520f94ccc1b5bb7ffad380b0074f", func := "hocket/hocketlaw23.NetsApart", spec := "netsApart", unfollowed := true, recurses := true, apart := false, narrowed := true }
def NetsApartUptoSaid : Prop := netsApartUptoRow.holds Try.pinned (OpenSpec.upto netsApartSpec)

/-- 'hocketlaw23.NetsPlays', WHERE WHAT IT READS IS OF BULK AT MOST 1048576: true; the input reads as it did. -/
def netsPlaysUptoRow : OpenClaim := { program := "ytmcaielgjfpekaa", sum := "5b136c69111c39c5e676c5caf4d643c7d109520f94ccc1b5bb7ffad380b0074f", func := "hocket/hocketlaw23.NetsPlays", spec := "netsPlays", unfollowed := true, recurses := true, apart := false, narrowed := true }
def NetsPlaysUptoSaid : Prop := netsPlaysUptoRow.holds Try.pinned (OpenSpec.upto netsPlaysSpec)

/-- 'hocketlaw23.NetsFull', WHERE WHAT IT READS IS OF BULK AT MOST 1048576: true; the input reads as it did. -/
def netsFullUptoRow : OpenClaim := { program := "ytmcaielgjfpekaa", sum := "5b136c69111c39c5e676c5caf4d643c7d109520f94ccc1b5bb7ffad380b0074f", func := "hocket/hocketlaw23.NetsFull", spec := "netsFull", unfollowed := true, recurses := true, apart := false, narrowed := true }
def NetsFullUptoSaid : Prop := netsFullUptoRow.holds Try.pinned (OpenSpec.upto netsFullSpec)

end Rows
end Go.Proofs.Ytmcaielgjfpekaa
