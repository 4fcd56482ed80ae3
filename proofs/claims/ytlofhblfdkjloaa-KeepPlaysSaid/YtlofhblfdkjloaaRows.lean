/-
  No cell of these rows narrows 'for every input' (looked for: loops, veiled, ifaces, maps, wideKeys, modest, calm, conditions, laid).
  DERIVED. THE GIVEN ROWS OF THIS SEAT. 8 by the template 'for every input the law returns true; each argument reads behind the call as it read before'; 0 by the template 'total and deterministic' (their statements: YtlofhblfdkjloaaTotals.lean).
  GIVEN WITH THE SEED: the statements are not yours to turn. If you find one false, say at which input.
  Laid BY PROGRAM, IN A SANDBOX (cutbox-rows.mjs): the forced cells as the released guide's own fill.sh prints them over the translation e5810b8c46059059… (all of the seat's roots in one cut). By AI agents, Wed Nov 11 2026. No macro, syntax, notation, axiom, sorry.
-/
import Derived.Test.YtlofhblfdkjloaaChecked
import GoSem.Claim
import GoSem.ClaimJoined
import GoSem.ClaimMapViews
import Derived.JoinedTies
import Derived.KernelRfl
namespace Go.Proofs.Ytlofhblfdkjloaa
/- THE CELL 'sum', in the pinned program and in every row, IS THE sha256 OF THE DUMP (.gsa) THAT YtlofhblfdkjloaaProg.lean LOADS. Nothing in Lean hashes anything: it is a label: what it is worth is what the hold of that sum in a sandbox is worth. -/
noncomputable def Try.pinned : Pinned := { name := "ytlofhblfdkjloaa", sum := "e5810b8c4605905979aba24ed7c617d21105adca7864995580e245bf8368bd23", checked := Try.checked }
namespace Rows
def none {H : Type} : Left H := { results := [], args := [] }

/-- 'hocketlaw13.DiskTurns': WHATEVER THE INPUT: true; the input reads as it did. -/
def diskTurnsSpec : ChangeSpec := { name := "diskTurns", fn := fun _ => fun
  | [d] => { results := [.lit (.bool true)], args := [d] }
  | _ => none }
def diskTurnsRow : OpenClaim := { program := "ytlofhblfdkjloaa", sum := "e5810b8c4605905979aba24ed7c617d21105adca7864995580e245bf8368bd23", func := "hocket/hocketlaw13.DiskTurns", spec := "diskTurns", apart := false }
def DiskTurnsSaid : Prop := diskTurnsRow.holds Try.pinned (OpenSpec.ofChange diskTurnsSpec)

/-- ITS FALSE NEIGHBOUR: 'it returns false'. Refute it at one input. -/
def diskTurnsWrong : ChangeSpec := { name := "diskTurns", fn := fun _ => fun
  | [d] => { results := [.lit (.bool false)], args := [d] }
  | _ => none }
def DiskTurnsWrongFalsely : Prop := diskTurnsRow.holds Try.pinned (OpenSpec.ofChange diskTurnsWrong)

/-- 'hocketlaw13.DiskPrefix': WHATEVER THE INPUT: true; the input reads as it did. -/
def diskPrefixSpec : ChangeSpec := { name := "diskPrefix", fn := fun _ => fun
  | [d1, d2, d3, d4, d5] => { results := [.lit (.bool true)], args := [d1, d2, d3, d4, d5] }
  | _ => none }
def diskPrefixRow : OpenClaim := { program := "ytlofhblfdkjloaa", sum := "e5810b8c4605905979aba24ed7c617d21105adca7864995580e245bf8368bd23", func := "hocket/hocketlaw13.DiskPrefix", spec := "diskPrefix", apart := false }
def DiskPrefixSaid : Prop := diskPrefixRow.holds Try.pinned (OpenSpec.ofChange diskPrefixSpec)

/-- ITS FALSE NEIGHBOUR: 'it returns false'. Refute it at one input. -/
def diskPrefixWrong : ChangeSpec := { name := "diskPrefix", fn := fun _ => fun
  | [d1, d2, d3, d4, d5] => { results := [.lit (.bool false)], args := [d1, d2, d3, d4, d5] }
  | _ => none }
def DiskPrefixWrongFalsely : Prop := diskPrefixRow.holds Try.pinned (OpenSpec.ofChange diskPrefixWrong)

/-- 'hocketlaw13.DiskOwn': WHATEVER THE INPUT: true; the input reads as it did. -/
def diskOwnSpec : ChangeSpec := { name := "diskOwn", fn := fun _ => fun
  | [d1, d2, d3] => { results := [.lit (.bool true)], args := [d1, d2, d3] }
  | _ => none }
def diskOwnRow : OpenClaim := { program := "ytlofhblfdkjloaa", sum := "e5810b8c4605905979aba24ed7c617d21105adca7864995580e245bf8368bd23", func := "hocket/hocketlaw13.DiskOwn", spec := "diskOwn", apart := false }
def DiskOwnSaid : Prop := diskOwnRow.holds Try.pinned (OpenSpec.ofChange diskOwnSpec)

/-- ITS FALSE NEIGHBOUR: 'it returns false'. Refute it at one input. -/
def diskOwnWrong : ChangeSpec := { name := "diskOwn", fn := fun _ => fun
  | [d1, d2, d3] => { results := [.lit (.bool false)], args := [d1, d2, d3] }
  | _ => none }
def DiskOwnWrongFalsely : Prop := diskOwnRow.holds Try.pinned (OpenSpec.ofChange diskOwnWrong)

/-- 'hocketlaw13.DiskPlays': WHATEVER THE INPUT: true; the input reads as it did. -/
def diskPlaysSpec : ChangeSpec := { name := "diskPlays", fn := fun _ => fun
  | [d1, d2, d3, d4] => { results := [.lit (.bool true)], args := [d1, d2, d3, d4] }
  | _ => none }
def diskPlaysRow : OpenClaim := { program := "ytlofhblfdkjloaa", sum := "e5810b8c4605905979aba24ed7c617d21105adca7864995580e245bf8368bd23", func := "hocket/hocketlaw13.DiskPlays", spec := "diskPlays", apart := false }
def DiskPlaysSaid : Prop := diskPlaysRow.holds Try.pinned (OpenSpec.ofChange diskPlaysSpec)

/-- ITS FALSE NEIGHBOUR: 'it returns false'. Refute it at one input. -/
def diskPlaysWrong : ChangeSpec := { name := "diskPlays", fn := fun _ => fun
  | [d1, d2, d3, d4] => { results := [.lit (.bool false)], args := [d1, d2, d3, d4] }
  | _ => none }
def DiskPlaysWrongFalsely : Prop := diskPlaysRow.holds Try.pinned (OpenSpec.ofChange diskPlaysWrong)

/-- 'hocketlaw13.DiskOldOrNew': WHATEVER THE INPUT: true; the input reads as it did. -/
def diskOldOrNewSpec : ChangeSpec := { name := "diskOldOrNew", fn := fun _ => fun
  | [d1, d2, d3] => { results := [.lit (.bool true)], args := [d1, d2, d3] }
  | _ => none }
def diskOldOrNewRow : OpenClaim := { program := "ytlofhblfdkjloaa", sum := "e5810b8c4605905979aba24ed7c617d21105adca7864995580e245bf8368bd23", func := "hocket/hocketlaw13.DiskOldOrNew", spec := "diskOldOrNew", apart := false }
def DiskOldOrNewSaid : Prop := diskOldOrNewRow.holds Try.pinned (OpenSpec.ofChange diskOldOrNewSpec)

/-- ITS FALSE NEIGHBOUR: 'it returns false'. Refute it at one input. -/
def diskOldOrNewWrong : ChangeSpec := { name := "diskOldOrNew", fn := fun _ => fun
  | [d1, d2, d3] => { results := [.lit (.bool false)], args := [d1, d2, d3] }
  | _ => none }
def DiskOldOrNewWrongFalsely : Prop := diskOldOrNewRow.holds Try.pinned (OpenSpec.ofChange diskOldOrNewWrong)

/-- 'hocketlaw21.KeepCut': WHATEVER THE INPUT: true; the input reads as it did. -/
def keepCutSpec : ChangeSpec := { name := "keepCut", fn := fun _ => fun
  | [d1, d2, d3] => { results := [.lit (.bool true)], args := [d1, d2, d3] }
  | _ => none }
def keepCutRow : OpenClaim := { program := "ytlofhblfdkjloaa", sum := "e5810b8c4605905979aba24ed7c617d21105adca7864995580e245bf8368bd23", func := "hocket/hocketlaw21.KeepCut", spec := "keepCut", apart := false }
def KeepCutSaid : Prop := keepCutRow.holds Try.pinned (OpenSpec.ofChange keepCutSpec)

/-- ITS FALSE NEIGHBOUR: 'it returns false'. Refute it at one input. -/
def keepCutWrong : ChangeSpec := { name := "keepCut", fn := fun _ => fun
  | [d1, d2, d3] => { results := [.lit (.bool false)], args := [d1, d2, d3] }
  | _ => none }
def KeepCutWrongFalsely : Prop := keepCutRow.holds Try.pinned (OpenSpec.ofChange keepCutWrong)

/-- 'hocketlaw21.KeepTurns': WHATEVER THE INPUT: true; the input reads as it did. -/
def keepTurnsSpec : ChangeSpec := { name := "keepTurns", fn := fun _ => fun
  | [d] => { results := [.lit (.bool true)], args := [d] }
  | _ => none }
def keepTurnsRow : OpenClaim := { program := "ytlofhblfdkjloaa", sum := "e5810b8c4605905979aba24ed7c617d21105adca7864995580e245bf8368bd23", func := "hocket/hocketlaw21.KeepTurns", spec := "keepTurns", apart := false }
def KeepTurnsSaid : Prop := keepTurnsRow.holds Try.pinned (OpenSpec.ofChange keepTurnsSpec)

/-- ITS FALSE NEIGHBOUR: 'it returns false'. Refute it at one input. -/
def keepTurnsWrong : ChangeSpec := { name := "keepTurns", fn := fun _ => fun
  | [d] => { results := [.lit (.bool false)], args := [d] }
  | _ => none }
def KeepTurnsWrongFalsely : Prop := keepTurnsRow.holds Try.pinned (OpenSpec.ofChange keepTurnsWrong)

/-- 'hocketlaw21.KeepPlays': WHATEVER THE INPUT: true; the input reads as it did. -/
def keepPlaysSpec : ChangeSpec := { name := "keepPlays", fn := fun _ => fun
  | [d1, d2] => { results := [.lit (.bool true)], args := [d1, d2] }
  | _ => none }
def keepPlaysRow : OpenClaim := { program := "ytlofhblfdkjloaa", sum := "e5810b8c4605905979aba24ed7c617d21105adca7864995580e245bf8368bd23", func := "hocket/hocketlaw21.KeepPlays", spec := "keepPlays", apart := false }
def KeepPlaysSaid : Prop := keepPlaysRow.holds Try.pinned (OpenSpec.ofChange keepPlaysSpec)

/-- ITS FALSE NEIGHBOUR: 'it returns false'. Refute it at one input. -/
def keepPlaysWrong : ChangeSpec := { name := "keepPlays", fn := fun _ => fun
  | [d1, d2] => { results := [.lit (.bool false)], args := [d1, d2] }
  | _ => none }
def KeepPlaysWrongFalsely : Prop := keepPlaysRow.holds Try.pinned (OpenSpec.ofChange keepPlaysWrong)

/- THE SECOND FORM. 'bulk': how many values and letters a reading holds, each counted each time it is reached (what is shared counts as often as it is met; a slice's spare places count too). A statement '..UptoSaid' is the law's where the arguments, and the package variables that the reading takes, are together of bulk at most 1048576: NARROWER than '..Said'. Prove '..Said' where nothing that the law and all that it calls make is longer than what came in: it says more and counts as full. Else prove '..UptoSaid'. A law counts once. -/
mutual
def uptoBulk {H : Type} : DataW H → Nat
  | .lit (.string bytes) => bytes.length + 1
  | .lit _ => 1
  | .nil => 1
  | .ptr d => uptoBulk d + 1
  | .slice elems spare => uptoBulkAll elems + uptoBulkAll spare + 1
  | .agg parts => uptoBulkAll parts + 1
  | .iface _ d => uptoBulk d + 1
  | .map entries => uptoBulkEntries entries + 1
  | .held _ => 1
def uptoBulkAll {H : Type} : List (DataW H) → Nat
  | [] => 0
  | d :: r => uptoBulk d + uptoBulkAll r
def uptoBulkEntries {H : Type} : List (Lit × DataW H) → Nat
  | [] => 0
  | x :: r => uptoBulkEntry x + uptoBulkEntries r
def uptoBulkEntry {H : Type} : Lit × DataW H → Nat
  | (.string bytes, d) => bytes.length + uptoBulk d + 1
  | (_, d) => uptoBulk d + 1
 end
def uptoSmall : (H : Type) → List (DataW H) → Bool := fun _ ds => decide (uptoBulkAll ds ≤ 1048576)
def OpenSpec.upto (s : _root_.Go.ChangeSpec) : _root_.Go.OpenSpec := { _root_.Go.OpenSpec.ofChange s with cond := some uptoSmall }

/-- 'hocketlaw13.DiskTurns', WHERE WHAT IT READS IS OF BULK AT MOST 1048576: true; the input reads as it did. -/
def diskTurnsUptoRow : OpenClaim := { program := "ytlofhblfdkjloaa", sum := "e5810b8c4605905979aba24ed7c617d21105adca7864995580e245bf8368bd23", func := "hocket/hocketlaw13.DiskTurns", spec := "diskTurns", apart := false, narrowed := true }
def DiskTurnsUptoSaid : Prop := diskTurnsUptoRow.holds Try.pinned (OpenSpec.upto diskTurnsSpec)

/-- 'hocketlaw13.DiskPrefix', WHERE WHAT IT READS IS OF BULK AT MOST 1048576: true; the input reads as it did. -/
def diskPrefixUptoRow : OpenClaim := { program := "ytlofhblfdkjloaa", sum := "e5810b8c4605905979aba24ed7c617d21105adca7864995580e245bf8368bd23", func := "hocket/hocketlaw13.DiskPrefix", spec := "diskPrefix", apart := false, narrowed := true }
def DiskPrefixUptoSaid : Prop := diskPrefixUptoRow.holds Try.pinned (OpenSpec.upto diskPrefixSpec)

/-- 'hocketlaw13.DiskOwn', WHERE WHAT IT READS IS OF BULK AT MOST 1048576: true; the input reads as it did. -/
def diskOwnUptoRow : OpenClaim := { program := "ytlofhblfdkjloaa", sum := "e5810b8c4605905979aba24ed7c617d21105adca7864995580e245bf8368bd23", func := "hocket/hocketlaw13.DiskOwn", spec := "diskOwn", apart := false, narrowed := true }
def DiskOwnUptoSaid : Prop := diskOwnUptoRow.holds Try.pinned (OpenSpec.upto diskOwnSpec)

/-- 'hocketlaw13.DiskPlays', WHERE WHAT IT READS IS OF BULK AT MOST 1048576: true; the input reads as it did. -/
def diskPlaysUptoRow : OpenClaim := { program := "ytlofhblfdkjloaa", sum := "e5810b8c4605905979aba24ed7c617d21105adca7864995580e245bf8368bd23", func := "hocket/hocketlaw13.DiskPlays", spec := "diskPlays", apart := false, narrowed := true }
def DiskPlaysUptoSaid : Prop := diskPlaysUptoRow.holds Try.pinned (OpenSpec.upto diskPlaysSpec)

/-- 'hocketlaw13.DiskOldOrNew', WHERE WHAT IT READS IS OF BULK AT MOST 1048576: true; the input reads as it did. -/
def diskOldOrNewUptoRow : OpenClaim := { program := "ytlofhblfdkjloaa", sum := "e5810b8c4605905979aba24ed7c617d21105adca7864995580e245bf8368bd23", func := "hocket/hocketlaw13.DiskOldOrNew", spec := "diskOldOrNew", apart := false, narrowed := true }
def DiskOldOrNewUptoSaid : Prop := diskOldOrNewUptoRow.holds Try.pinned (OpenSpec.upto diskOldOrNewSpec)

/-- 'hocketlaw21.KeepCut', WHERE WHAT IT READS IS OF BULK AT MOST 1048576: true; the input reads as it did. -/
def keepCutUptoRow : OpenClaim := { program := "ytlofhblfdkjloaa", sum := "e5810b8c4605905979aba24ed7c617d21105adca7864995580e245bf8368bd23", func := "hocket/hocketlaw21.KeepCut", spec := "keepCut", apart := false, narrowed := true }
def KeepCutUptoSaid : Prop := keepCutUptoRow.holds Try.pinned (OpenSpec.upto keepCutSpec)

/-- 'hocketlaw21.KeepTurns', WHERE WHAT IT READS IS OF BULK AT MOST 1048576: true; the input reads as it did. -/
def keepTurnsUptoRow : OpenClaim := { program := "ytlofhblfdkjloaa", sum := "e5810b8c4605905979aba24ed7c617d21105adca7864995580e245bf8368bd23", func := "hocket/hocketlaw21.KeepTurns", spec := "keepTurns", apart := false, narrowed := true }
def KeepTurnsUptoSaid : Prop := keepTurnsUptoRow.holds Try.pinned (OpenSpec.upto keepTurnsSpec)

/-- 'hocketlaw21.KeepPlays', WHERE WHAT IT READS IS OF BULK AT MOST 1048576: true; the input reads as it did. -/
def keepPlaysUptoRow : OpenClaim := { program := "ytlofhblfdkjloaa", sum := "e5810b8c4605905979aba24ed7c617d21105adca7864995580e245bf8368bd23", func := "hocket/hocketlaw21.KeepPlays", spec := "keepPlays", apart := false, narrowed := true }
def KeepPlaysUptoSaid : Prop := keepPlaysUptoRow.holds Try.pinned (OpenSpec.upto keepPlaysSpec)

end Rows
end Go.Proofs.Ytlofhblfdkjloaa
