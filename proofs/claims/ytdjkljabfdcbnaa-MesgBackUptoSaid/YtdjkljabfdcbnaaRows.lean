/-
  No cell of these rows narrows 'for every input' (looked for: loops, veiled, ifaces, maps, wideKeys, modest, calm, conditions, laid).
  DERIVED. THE GIVEN ROWS OF THIS SEAT. 8 by the template 'for every input the law returns true; each argument reads behind the call as it read before'; 0 by the template 'total and deterministic' (their statements: YtdjkljabfdcbnaaTotals.lean).
  GIVEN WITH THE SEED: the statements are not yours to turn. If you find one false, say at which input.
  Laid BY PROGRAM, IN A SANDBOX (cutbox-rows.mjs): the forced cells as the released guide's own fill.sh prints them over the translation c2e71c1c16f3b462… (all of the seat's roots in one cut). By AI agents, Wed Nov 11 2026. No macro, syntax, notation, axiom, sorry.
-/
import Derived.Test.YtdjkljabfdcbnaaChecked
import GoSem.Claim
import GoSem.ClaimJoined
import GoSem.ClaimMapViews
import Derived.JoinedTies
import Derived.KernelRfl
namespace Go.Proofs.Ytdjkljabfdcbnaa
/- THE CELL 'sum', in the pinned program and in every row, IS THE sha256 OF THE DUMP (.gsa) THAT YtdjkljabfdcbnaaProg.lean LOADS. Nothing in Lean hashes anything: it is a label: what it is worth is what the hold of that sum in a sandbox is worth. -/
noncomputable def Try.pinned : Pinned := { name := "ytdjkljabfdcbnaa", sum := "c2e71c1c16f3b46272077abb59676b56de81c602ff5611fea06c2b2c563d7b53", checked := Try.checked }
namespace Rows
def none {H : Type} : Left H := { results := [], args := [] }

/-- 'hocketlaw11.MesgBounds': WHATEVER THE INPUT: true; the input reads as it did. -/
def mesgBoundsSpec : ChangeSpec := { name := "mesgBounds", fn := fun _ => fun
  | [d] => { results := [.lit (.bool true)], args := [d] }
  | _ => none }
def mesgBoundsRow : OpenClaim := { program := "ytdjkljabfdcbnaa", sum := "c2e71c1c16f3b46272077abb59676b56de81c602ff5611fea06c2b2c563d7b53", func := "hocket/hocketlaw11.MesgBounds", spec := "mesgBounds", unfollowed := true, recurses := true, apart := false }
def MesgBoundsSaid : Prop := mesgBoundsRow.holds Try.pinned (OpenSpec.ofChange mesgBoundsSpec)

/-- ITS FALSE NEIGHBOUR: 'it returns false'. Refute it at one input. -/
def mesgBoundsWrong : ChangeSpec := { name := "mesgBounds", fn := fun _ => fun
  | [d] => { results := [.lit (.bool false)], args := [d] }
  | _ => none }
def MesgBoundsWrongFalsely : Prop := mesgBoundsRow.holds Try.pinned (OpenSpec.ofChange mesgBoundsWrong)

/-- 'hocketlaw11.MesgOwn': WHATEVER THE INPUT: true; the input reads as it did. -/
def mesgOwnSpec : ChangeSpec := { name := "mesgOwn", fn := fun _ => fun
  | [d1, d2] => { results := [.lit (.bool true)], args := [d1, d2] }
  | _ => none }
def mesgOwnRow : OpenClaim := { program := "ytdjkljabfdcbnaa", sum := "c2e71c1c16f3b46272077abb59676b56de81c602ff5611fea06c2b2c563d7b53", func := "hocket/hocketlaw11.MesgOwn", spec := "mesgOwn", unfollowed := true, recurses := true, apart := false }
def MesgOwnSaid : Prop := mesgOwnRow.holds Try.pinned (OpenSpec.ofChange mesgOwnSpec)

/-- ITS FALSE NEIGHBOUR: 'it returns false'. Refute it at one input. -/
def mesgOwnWrong : ChangeSpec := { name := "mesgOwn", fn := fun _ => fun
  | [d1, d2] => { results := [.lit (.bool false)], args := [d1, d2] }
  | _ => none }
def MesgOwnWrongFalsely : Prop := mesgOwnRow.holds Try.pinned (OpenSpec.ofChange mesgOwnWrong)

/-- 'hocketlaw11.MesgTells': WHATEVER THE INPUT: true; the input reads as it did. -/
def mesgTellsSpec : ChangeSpec := { name := "mesgTells", fn := fun _ => fun
  | [d1, d2, d3, d4, d5, d6] => { results := [.lit (.bool true)], args := [d1, d2, d3, d4, d5, d6] }
  | _ => none }
def mesgTellsRow : OpenClaim := { program := "ytdjkljabfdcbnaa", sum := "c2e71c1c16f3b46272077abb59676b56de81c602ff5611fea06c2b2c563d7b53", func := "hocket/hocketlaw11.MesgTells", spec := "mesgTells", unfollowed := true, recurses := true, apart := false }
def MesgTellsSaid : Prop := mesgTellsRow.holds Try.pinned (OpenSpec.ofChange mesgTellsSpec)

/-- ITS FALSE NEIGHBOUR: 'it returns false'. Refute it at one input. -/
def mesgTellsWrong : ChangeSpec := { name := "mesgTells", fn := fun _ => fun
  | [d1, d2, d3, d4, d5, d6] => { results := [.lit (.bool false)], args := [d1, d2, d3, d4, d5, d6] }
  | _ => none }
def MesgTellsWrongFalsely : Prop := mesgTellsRow.holds Try.pinned (OpenSpec.ofChange mesgTellsWrong)

/-- 'hocketlaw11.MesgBack': WHATEVER THE INPUT: true; the input reads as it did. -/
def mesgBackSpec : ChangeSpec := { name := "mesgBack", fn := fun _ => fun
  | [d1, d2, d3, d4] => { results := [.lit (.bool true)], args := [d1, d2, d3, d4] }
  | _ => none }
def mesgBackRow : OpenClaim := { program := "ytdjkljabfdcbnaa", sum := "c2e71c1c16f3b46272077abb59676b56de81c602ff5611fea06c2b2c563d7b53", func := "hocket/hocketlaw11.MesgBack", spec := "mesgBack", unfollowed := true, recurses := true, apart := false }
def MesgBackSaid : Prop := mesgBackRow.holds Try.pinned (OpenSpec.ofChange mesgBackSpec)

/-- ITS FALSE NEIGHBOUR: 'it returns false'. Refute it at one input. -/
def mesgBackWrong : ChangeSpec := { name := "mesgBack", fn := fun _ => fun
  | [d1, d2, d3, d4] => { results := [.lit (.bool false)], args := [d1, d2, d3, d4] }
  | _ => none }
def MesgBackWrongFalsely : Prop := mesgBackRow.holds Try.pinned (OpenSpec.ofChange mesgBackWrong)

/-- 'hocketlaw12.FramShort': WHATEVER THE INPUT: true; the input reads as it did. -/
def framShortSpec : ChangeSpec := { name := "framShort", fn := fun _ => fun
  | [d1, d2, d3, d4, d5, d6] => { results := [.lit (.bool true)], args := [d1, d2, d3, d4, d5, d6] }
  | _ => none }
def framShortRow : OpenClaim := { program := "ytdjkljabfdcbnaa", sum := "c2e71c1c16f3b46272077abb59676b56de81c602ff5611fea06c2b2c563d7b53", func := "hocket/hocketlaw12.FramShort", spec := "framShort", unfollowed := true, recurses := true, apart := false }
def FramShortSaid : Prop := framShortRow.holds Try.pinned (OpenSpec.ofChange framShortSpec)

/-- ITS FALSE NEIGHBOUR: 'it returns false'. Refute it at one input. -/
def framShortWrong : ChangeSpec := { name := "framShort", fn := fun _ => fun
  | [d1, d2, d3, d4, d5, d6] => { results := [.lit (.bool false)], args := [d1, d2, d3, d4, d5, d6] }
  | _ => none }
def FramShortWrongFalsely : Prop := framShortRow.holds Try.pinned (OpenSpec.ofChange framShortWrong)

/-- 'hocketlaw12.FramBursts': WHATEVER THE INPUT: true; the input reads as it did. -/
def framBurstsSpec : ChangeSpec := { name := "framBursts", fn := fun _ => fun
  | [d1, d2, d3, d4] => { results := [.lit (.bool true)], args := [d1, d2, d3, d4] }
  | _ => none }
def framBurstsRow : OpenClaim := { program := "ytdjkljabfdcbnaa", sum := "c2e71c1c16f3b46272077abb59676b56de81c602ff5611fea06c2b2c563d7b53", func := "hocket/hocketlaw12.FramBursts", spec := "framBursts", unfollowed := true, recurses := true, apart := false }
def FramBurstsSaid : Prop := framBurstsRow.holds Try.pinned (OpenSpec.ofChange framBurstsSpec)

/-- ITS FALSE NEIGHBOUR: 'it returns false'. Refute it at one input. -/
def framBurstsWrong : ChangeSpec := { name := "framBursts", fn := fun _ => fun
  | [d1, d2, d3, d4] => { results := [.lit (.bool false)], args := [d1, d2, d3, d4] }
  | _ => none }
def FramBurstsWrongFalsely : Prop := framBurstsRow.holds Try.pinned (OpenSpec.ofChange framBurstsWrong)

/-- 'hocketlaw12.FramTells': WHATEVER THE INPUT: true; the input reads as it did. -/
def framTellsSpec : ChangeSpec := { name := "framTells", fn := fun _ => fun
  | [d1, d2, d3, d4, d5, d6] => { results := [.lit (.bool true)], args := [d1, d2, d3, d4, d5, d6] }
  | _ => none }
def framTellsRow : OpenClaim := { program := "ytdjkljabfdcbnaa", sum := "c2e71c1c16f3b46272077abb59676b56de81c602ff5611fea06c2b2c563d7b53", func := "hocket/hocketlaw12.FramTells", spec := "framTells", unfollowed := true, recurses := true, apart := false }
def FramTellsSaid : Prop := framTellsRow.holds Try.pinned (OpenSpec.ofChange framTellsSpec)

/-- ITS FALSE NEIGHBOUR: 'it returns false'. Refute it at one input. -/
def framTellsWrong : ChangeSpec := { name := "framTells", fn := fun _ => fun
  | [d1, d2, d3, d4, d5, d6] => { results := [.lit (.bool false)], args := [d1, d2, d3, d4, d5, d6] }
  | _ => none }
def FramTellsWrongFalsely : Prop := framTellsRow.holds Try.pinned (OpenSpec.ofChange framTellsWrong)

/-- 'hocketlaw12.FramTurned': WHATEVER THE INPUT: true; the input reads as it did. -/
def framTurnedSpec : ChangeSpec := { name := "framTurned", fn := fun _ => fun
  | [d1, d2] => { results := [.lit (.bool true)], args := [d1, d2] }
  | _ => none }
def framTurnedRow : OpenClaim := { program := "ytdjkljabfdcbnaa", sum := "c2e71c1c16f3b46272077abb59676b56de81c602ff5611fea06c2b2c563d7b53", func := "hocket/hocketlaw12.FramTurned", spec := "framTurned", unfollowed := true, recurses := true, apart := false }
def FramTurnedSaid : Prop := framTurnedRow.holds Try.pinned (OpenSpec.ofChange framTurnedSpec)

/-- ITS FALSE NEIGHBOUR: 'it returns false'. Refute it at one input. -/
def framTurnedWrong : ChangeSpec := { name := "framTurned", fn := fun _ => fun
  | [d1, d2] => { results := [.lit (.bool false)], args := [d1, d2] }
  | _ => none }
def FramTurnedWrongFalsely : Prop := framTurnedRow.holds Try.pinned (OpenSpec.ofChange framTurnedWrong)

/- THE SECOND FORM. 'bulk': how many values and letters a reading holds, each counted each time it is reached (what is shared counts as often as it is met; a slice's spare places count too). A statement '..UptoSaid' is the law's where the arguments, and the package variables that the reading takes, are together of bulk at most 1048576: NARROWER than '..Said'. Prove '..Said' where nothing that the law and all that it calls make is longer than what came in: it says more and counts as full. Else prove '..UptoSaid'. A law counts once. -/
mutual
def uptoBulk {H : Type} : DataW H → Nat
  | .lit (.string bytes) => bytes.length + 1
  | .lit _ => 1
  | .nil => 1
  | .ptr d => uptoBulk d + 1
  | .slice elems spare => uptoBulkAll elems + uptoBulkAll spare + 1
  | .agg parts => uptoBulkAll parts + 1
  | .iface _ d => uptoBulk d + 1
  | .map entries => uptoBulkEntries entries + 1
  | .held _ => 1
def uptoBulkAll {H : Type} : List (DataW H) → Nat
  | [] => 0
  | d :: r => uptoBulk d + uptoBulkAll r
def uptoBulkEntries {H : Type} : List (Lit × DataW H) → Nat
  | [] => 0
  | x :: r => uptoBulkEntry x + uptoBulkEntries r
def uptoBulkEntry {H : Type} : Lit × DataW H → Nat
  | (.string bytes, d) => bytes.length + uptoBulk d + 1
  | (_, d) => uptoBulk d + 1
 end
def uptoSmall : (H : Type) → List (DataW H) → Bool := fun _ ds => decide (uptoBulkAll ds ≤ 1048576)
def OpenSpec.upto (s : _root_.Go.ChangeSpec) : _root_.Go.OpenSpec := { _root_.Go.OpenSpec.ofChange s with cond := some uptoSmall }

/-- 'hocketlaw11.MesgBounds', WHERE WHAT IT READS IS OF BULK AT MOST 1048576: true; the input reads as it did. -/
def mesgBoundsUptoRow : OpenClaim := { program := "ytdjkljabfdcbnaa", sum := "c2e71c1c16f3b46272077abb59676b56de81c602ff5611fea06c2b2c563d7b53", func := "hocket/hocketlaw11.MesgBounds", spec := "mesgBounds", unfollowed := true, recurses := true, apart := false, narrowed := true }
def MesgBoundsUptoSaid : Prop := mesgBoundsUptoRow.holds Try.pinned (OpenSpec.upto mesgBoundsSpec)

/-- 'hocketlaw11.MesgOwn', WHERE WHAT IT READS IS OF BULK AT MOST 1048576: true; the input reads as it did. -/
def mesgOwnUptoRow : OpenClaim := { program := "ytdjkljabfdcbnaa", sum := "c2e71c1c16f3b46272077abb59676b56de81c602ff5611fea06c2b2c563d7b53", func := "hocket/hocketlaw11.MesgOwn", spec := "mesgOwn", unfollowed := true, recurses := true, apart := false, narrowed := true }
def MesgOwnUptoSaid : Prop := mesgOwnUptoRow.holds Try.pinned (OpenSpec.upto mesgOwnSpec)

/-- 'hocketlaw11.MesgTells', WHERE WHAT IT READS IS OF BULK AT MOST 1048576: true; the input reads as it did. -/
def mesgTellsUptoRow : OpenClaim := { program := "ytdjkljabfdcbnaa", sum := "c2e71c1c16f3b46272077abb59676b56de81c602ff5611fea06c2b2c563d7b53", func := "hocket/hocketlaw11.MesgTells", spec := "mesgTells", unfollowed := true, recurses := true, apart := false, narrowed := true }
def MesgTellsUptoSaid : Prop := mesgTellsUptoRow.holds Try.pinned (OpenSpec.upto mesgTellsSpec)

/-- 'hocketlaw11.MesgBack', WHERE WHAT IT READS IS OF BULK AT MOST 1048576: true; the input reads as it did. -/
def mesgBackUptoRow : OpenClaim := { program := "ytdjkljabfdcbnaa", sum := "c2e71c1c16f3b46272077abb59676b56de81c602ff5611fea06c2b2c563d7b53", func := "hocket/hocketlaw11.MesgBack", spec := "mesgBack", unfollowed := true, recurses := true, apart := false, narrowed := true }
def MesgBackUptoSaid : Prop := mesgBackUptoRow.holds Try.pinned (OpenSpec.upto mesgBackSpec)

/-- 'hocketlaw12.FramShort', WHERE WHAT IT READS IS OF BULK AT MOST 1048576: true; the input reads as it did. -/
def framShortUptoRow : OpenClaim := { program := "ytdjkljabfdcbnaa", sum := "c2e71c1c16f3b46272077abb59676b56de81c602ff5611fea06c2b2c563d7b53", func := "hocket/hocketlaw12.FramShort", spec := "framShort", unfollowed := true, recurses := true, apart := false, narrowed := true }
def FramShortUptoSaid : Prop := framShortUptoRow.holds Try.pinned (OpenSpec.upto framShortSpec)

/-- 'hocketlaw12.FramBursts', WHERE WHAT IT READS IS OF BULK AT MOST 1048576: true; the input reads as it did. -/
def framBurstsUptoRow : OpenClaim := { program := "ytdjkljabfdcbnaa", sum := "c2e71c1c16f3b46272077abb59676b56de81c602ff5611fea06c2b2c563d7b53", func := "hocket/hocketlaw12.FramBursts", spec := "framBursts", unfollowed := true, recurses := true, apart := false, narrowed := true }
def FramBurstsUptoSaid : Prop := framBurstsUptoRow.holds Try.pinned (OpenSpec.upto framBurstsSpec)

/-- 'hocketlaw12.FramTells', WHERE WHAT IT READS IS OF BULK AT MOST 1048576: true; the input reads as it did. -/
def framTellsUptoRow : OpenClaim := { program := "ytdjkljabfdcbnaa", sum := "c2e71c1c16f3b46272077abb59676b56de81c602ff5611fea06c2b2c563d7b53", func := "hocket/hocketlaw12.FramTells", spec := "framTells", unfollowed := true, recurses := true, apart := false, narrowed := true }
def FramTellsUptoSaid : Prop := framTellsUptoRow.holds Try.pinned (OpenSpec.upto framTellsSpec)

/-- 'hocketlaw12.FramTurned', WHERE WHAT IT READS IS OF BULK AT MOST 1048576: true; the input reads as it did. -/
def framTurnedUptoRow : OpenClaim := { program := "ytdjkljabfdcbnaa", sum := "c2e71c1c16f3b46272077abb59676b56de81c602ff5611fea06c2b2c563d7b53", func := "hocket/hocketlaw12.FramTurned", spec := "framTurned", unfollowed := true, recurses := true, apart := false, narrowed := true }
def FramTurnedUptoSaid : Prop := framTurnedUptoRow.holds Try.pinned (OpenSpec.upto framTurnedSpec)

end Rows
end Go.Proofs.Ytdjkljabfdcbnaa
