/-
  No cell of these rows narrows 'for every input' (looked for: loops, veiled, ifaces, maps, wideKeys, modest, calm, conditions, laid).
  DERIVED. THE GIVEN ROWS OF THIS SEAT. 12 by the template 'for every input the law returns true; each argument reads behind the call as it read before'; 0 by the template 'total and deterministic' (their statements: YtabedbggldnkhaaTotals.lean).
  GIVEN WITH THE SEED: the statements are not yours to turn. If you find one false, say at which input.
  Laid BY PROGRAM, IN A SANDBOX (cutbox-rows.mjs): the forced cells as the released guide's own fill.sh prints them over the translation 763e6441074d9a74… (all of the seat's roots in one cut). By AI agents, Wed Nov 11 2026. No macro, syntax, notation, axiom, sorry.
-/
import Derived.Test.YtabedbggldnkhaaChecked
import GoSem.Claim
import GoSem.ClaimJoined
import GoSem.ClaimMapViews
import Derived.JoinedTies
import Derived.KernelRfl
namespace Go.Proofs.Ytabedbggldnkhaa
/- THE CELL 'sum', in the pinned program and in every row, IS THE sha256 OF THE DUMP (.gsa) THAT YtabedbggldnkhaaProg.lean LOADS. Nothing in Lean hashes anything: it is a label: what it is worth is what the hold of that sum in a sandbox is worth. -/
noncomputable def Try.pinned : Pinned := { name := "ytabedbggldnkhaa", sum := "763e6441074d9a743f94f8553ddcd48ad7c7a4fbaa4df58af0b89b345a87a523", checked := Try.checked }
namespace Rows
def none {H : Type} : Left H := { results := [], args := [] }

/-- 'hocketlaw14.ViewForms': WHATEVER THE INPUT: true; the input reads as it did. -/
def viewFormsSpec : ChangeSpec := { name := "viewForms", fn := fun _ => fun
  | [d] => { results := [.lit (.bool true)], args := [d] }
  | _ => none }
def viewFormsRow : OpenClaim := { program := "ytabedbggldnkhaa", sum := "763e6441074d9a743f94f8553ddcd48ad7c7a4fbaa4df58af0b89b345a87a523", func := "hocket/hocketlaw14.ViewForms", spec := "viewForms", unfollowed := true, recurses := true, apart := false }
def ViewFormsSaid : Prop := viewFormsRow.holds Try.pinned (OpenSpec.ofChange viewFormsSpec)

/-- ITS FALSE NEIGHBOUR: 'it returns false'. Refute it at one input. -/
def viewFormsWrong : ChangeSpec := { name := "viewForms", fn := fun _ => fun
  | [d] => { results := [.lit (.bool false)], args := [d] }
  | _ => none }
def ViewFormsWrongFalsely : Prop := viewFormsRow.holds Try.pinned (OpenSpec.ofChange viewFormsWrong)

/-- 'hocketlaw14.ViewCounts': WHATEVER THE INPUT: true; the input reads as it did. -/
def viewCountsSpec : ChangeSpec := { name := "viewCounts", fn := fun _ => fun
  | [d1, d2] => { results := [.lit (.bool true)], args := [d1, d2] }
  | _ => none }
def viewCountsRow : OpenClaim := { program := "ytabedbggldnkhaa", sum := "763e6441074d9a743f94f8553ddcd48ad7c7a4fbaa4df58af0b89b345a87a523", func := "hocket/hocketlaw14.ViewCounts", spec := "viewCounts", apart := false }
def ViewCountsSaid : Prop := viewCountsRow.holds Try.pinned (OpenSpec.ofChange viewCountsSpec)

/-- ITS FALSE NEIGHBOUR: 'it returns false'. Refute it at one input. -/
def viewCountsWrong : ChangeSpec := { name := "viewCounts", fn := fun _ => fun
  | [d1, d2] => { results := [.lit (.bool false)], args := [d1, d2] }
  | _ => none }
def ViewCountsWrongFalsely : Prop := viewCountsRow.holds Try.pinned (OpenSpec.ofChange viewCountsWrong)

/-- 'hocketlaw14.ViewTells': WHATEVER THE INPUT: true; the input reads as it did. -/
def viewTellsSpec : ChangeSpec := { name := "viewTells", fn := fun _ => fun
  | [d1, d2, d3, d4, d5] => { results := [.lit (.bool true)], args := [d1, d2, d3, d4, d5] }
  | _ => none }
def viewTellsRow : OpenClaim := { program := "ytabedbggldnkhaa", sum := "763e6441074d9a743f94f8553ddcd48ad7c7a4fbaa4df58af0b89b345a87a523", func := "hocket/hocketlaw14.ViewTells", spec := "viewTells", apart := false }
def ViewTellsSaid : Prop := viewTellsRow.holds Try.pinned (OpenSpec.ofChange viewTellsSpec)

/-- ITS FALSE NEIGHBOUR: 'it returns false'. Refute it at one input. -/
def viewTellsWrong : ChangeSpec := { name := "viewTells", fn := fun _ => fun
  | [d1, d2, d3, d4, d5] => { results := [.lit (.bool false)], args := [d1, d2, d3, d4, d5] }
  | _ => none }
def ViewTellsWrongFalsely : Prop := viewTellsRow.holds Try.pinned (OpenSpec.ofChange viewTellsWrong)

/-- 'hocketlaw14.ViewMeets': WHATEVER THE INPUT: true; the input reads as it did. -/
def viewMeetsSpec : ChangeSpec := { name := "viewMeets", fn := fun _ => fun
  | [d1, d2, d3, d4, d5, d6] => { results := [.lit (.bool true)], args := [d1, d2, d3, d4, d5, d6] }
  | _ => none }
def viewMeetsRow : OpenClaim := { program := "ytabedbggldnkhaa", sum := "763e6441074d9a743f94f8553ddcd48ad7c7a4fbaa4df58af0b89b345a87a523", func := "hocket/hocketlaw14.ViewMeets", spec := "viewMeets", apart := false }
def ViewMeetsSaid : Prop := viewMeetsRow.holds Try.pinned (OpenSpec.ofChange viewMeetsSpec)

/-- ITS FALSE NEIGHBOUR: 'it returns false'. Refute it at one input. -/
def viewMeetsWrong : ChangeSpec := { name := "viewMeets", fn := fun _ => fun
  | [d1, d2, d3, d4, d5, d6] => { results := [.lit (.bool false)], args := [d1, d2, d3, d4, d5, d6] }
  | _ => none }
def ViewMeetsWrongFalsely : Prop := viewMeetsRow.holds Try.pinned (OpenSpec.ofChange viewMeetsWrong)

/-- 'hocketlaw17.ToknForms': WHATEVER THE INPUT: true; the input reads as it did. -/
def toknFormsSpec : ChangeSpec := { name := "toknForms", fn := fun _ => fun
  | [d] => { results := [.lit (.bool true)], args := [d] }
  | _ => none }
def toknFormsRow : OpenClaim := { program := "ytabedbggldnkhaa", sum := "763e6441074d9a743f94f8553ddcd48ad7c7a4fbaa4df58af0b89b345a87a523", func := "hocket/hocketlaw17.ToknForms", spec := "toknForms", unfollowed := true, recurses := true, apart := false }
def ToknFormsSaid : Prop := toknFormsRow.holds Try.pinned (OpenSpec.ofChange toknFormsSpec)

/-- ITS FALSE NEIGHBOUR: 'it returns false'. Refute it at one input. -/
def toknFormsWrong : ChangeSpec := { name := "toknForms", fn := fun _ => fun
  | [d] => { results := [.lit (.bool false)], args := [d] }
  | _ => none }
def ToknFormsWrongFalsely : Prop := toknFormsRow.holds Try.pinned (OpenSpec.ofChange toknFormsWrong)

/-- 'hocketlaw17.ToknOwn': WHATEVER THE INPUT: true; the input reads as it did. -/
def toknOwnSpec : ChangeSpec := { name := "toknOwn", fn := fun _ => fun
  | [d1, d2] => { results := [.lit (.bool true)], args := [d1, d2] }
  | _ => none }
def toknOwnRow : OpenClaim := { program := "ytabedbggldnkhaa", sum := "763e6441074d9a743f94f8553ddcd48ad7c7a4fbaa4df58af0b89b345a87a523", func := "hocket/hocketlaw17.ToknOwn", spec := "toknOwn", unfollowed := true, recurses := true, apart := false }
def ToknOwnSaid : Prop := toknOwnRow.holds Try.pinned (OpenSpec.ofChange toknOwnSpec)

/-- ITS FALSE NEIGHBOUR: 'it returns false'. Refute it at one input. -/
def toknOwnWrong : ChangeSpec := { name := "toknOwn", fn := fun _ => fun
  | [d1, d2] => { results := [.lit (.bool false)], args := [d1, d2] }
  | _ => none }
def ToknOwnWrongFalsely : Prop := toknOwnRow.holds Try.pinned (OpenSpec.ofChange toknOwnWrong)

/-- 'hocketlaw17.ToknRises': WHATEVER THE INPUT: true; the input reads as it did. -/
def toknRisesSpec : ChangeSpec := { name := "toknRises", fn := fun _ => fun
  | [d1, d2, d3] => { results := [.lit (.bool true)], args := [d1, d2, d3] }
  | _ => none }
def toknRisesRow : OpenClaim := { program := "ytabedbggldnkhaa", sum := "763e6441074d9a743f94f8553ddcd48ad7c7a4fbaa4df58af0b89b345a87a523", func := "hocket/hocketlaw17.ToknRises", spec := "toknRises", apart := false }
def ToknRisesSaid : Prop := toknRisesRow.holds Try.pinned (OpenSpec.ofChange toknRisesSpec)

/-- ITS FALSE NEIGHBOUR: 'it returns false'. Refute it at one input. -/
def toknRisesWrong : ChangeSpec := { name := "toknRises", fn := fun _ => fun
  | [d1, d2, d3] => { results := [.lit (.bool false)], args := [d1, d2, d3] }
  | _ => none }
def ToknRisesWrongFalsely : Prop := toknRisesRow.holds Try.pinned (OpenSpec.ofChange toknRisesWrong)

/-- 'hocketlaw18.GathForms': WHATEVER THE INPUT: true; the input reads as it did. -/
def gathFormsSpec : ChangeSpec := { name := "gathForms", fn := fun _ => fun
  | [d1, d2, d3] => { results := [.lit (.bool true)], args := [d1, d2, d3] }
  | _ => none }
def gathFormsRow : OpenClaim := { program := "ytabedbggldnkhaa", sum := "763e6441074d9a743f94f8553ddcd48ad7c7a4fbaa4df58af0b89b345a87a523", func := "hocket/hocketlaw18.GathForms", spec := "gathForms", unfollowed := true, recurses := true, apart := false }
def GathFormsSaid : Prop := gathFormsRow.holds Try.pinned (OpenSpec.ofChange gathFormsSpec)

/-- ITS FALSE NEIGHBOUR: 'it returns false'. Refute it at one input. -/
def gathFormsWrong : ChangeSpec := { name := "gathForms", fn := fun _ => fun
  | [d1, d2, d3] => { results := [.lit (.bool false)], args := [d1, d2, d3] }
  | _ => none }
def GathFormsWrongFalsely : Prop := gathFormsRow.holds Try.pinned (OpenSpec.ofChange gathFormsWrong)

/-- 'hocketlaw18.GathReady': WHATEVER THE INPUT: true; the input reads as it did. -/
def gathReadySpec : ChangeSpec := { name := "gathReady", fn := fun _ => fun
  | [d1, d2] => { results := [.lit (.bool true)], args := [d1, d2] }
  | _ => none }
def gathReadyRow : OpenClaim := { program := "ytabedbggldnkhaa", sum := "763e6441074d9a743f94f8553ddcd48ad7c7a4fbaa4df58af0b89b345a87a523", func := "hocket/hocketlaw18.GathReady", spec := "gathReady", unfollowed := true, recurses := true, apart := false }
def GathReadySaid : Prop := gathReadyRow.holds Try.pinned (OpenSpec.ofChange gathReadySpec)

/-- ITS FALSE NEIGHBOUR: 'it returns false'. Refute it at one input. -/
def gathReadyWrong : ChangeSpec := { name := "gathReady", fn := fun _ => fun
  | [d1, d2] => { results := [.lit (.bool false)], args := [d1, d2] }
  | _ => none }
def GathReadyWrongFalsely : Prop := gathReadyRow.holds Try.pinned (OpenSpec.ofChange gathReadyWrong)

/-- 'hocketlaw18.GathBlocks': WHATEVER THE INPUT: true; the input reads as it did. -/
def gathBlocksSpec : ChangeSpec := { name := "gathBlocks", fn := fun _ => fun
  | [d1, d2] => { results := [.lit (.bool true)], args := [d1, d2] }
  | _ => none }
def gathBlocksRow : OpenClaim := { program := "ytabedbggldnkhaa", sum := "763e6441074d9a743f94f8553ddcd48ad7c7a4fbaa4df58af0b89b345a87a523", func := "hocket/hocketlaw18.GathBlocks", spec := "gathBlocks", unfollowed := true, recurses := true, apart := false }
def GathBlocksSaid : Prop := gathBlocksRow.holds Try.pinned (OpenSpec.ofChange gathBlocksSpec)

/-- ITS FALSE NEIGHBOUR: 'it returns false'. Refute it at one input. -/
def gathBlocksWrong : ChangeSpec := { name := "gathBlocks", fn := fun _ => fun
  | [d1, d2] => { results := [.lit (.bool false)], args := [d1, d2] }
  | _ => none }
def GathBlocksWrongFalsely : Prop := gathBlocksRow.holds Try.pinned (OpenSpec.ofChange gathBlocksWrong)

/-- 'hocketlaw18.GathPlays': WHATEVER THE INPUT: true; the input reads as it did. -/
def gathPlaysSpec : ChangeSpec := { name := "gathPlays", fn := fun _ => fun
  | [d1, d2, d3, d4, d5] => { results := [.lit (.bool true)], args := [d1, d2, d3, d4, d5] }
  | _ => none }
def gathPlaysRow : OpenClaim := { program := "ytabedbggldnkhaa", sum := "763e6441074d9a743f94f8553ddcd48ad7c7a4fbaa4df58af0b89b345a87a523", func := "hocket/hocketlaw18.GathPlays", spec := "gathPlays", unfollowed := true, recurses := true, apart := false }
def GathPlaysSaid : Prop := gathPlaysRow.holds Try.pinned (OpenSpec.ofChange gathPlaysSpec)

/-- ITS FALSE NEIGHBOUR: 'it returns false'. Refute it at one input. -/
def gathPlaysWrong : ChangeSpec := { name := "gathPlays", fn := fun _ => fun
  | [d1, d2, d3, d4, d5] => { results := [.lit (.bool false)], args := [d1, d2, d3, d4, d5] }
  | _ => none }
def GathPlaysWrongFalsely : Prop := gathPlaysRow.holds Try.pinned (OpenSpec.ofChange gathPlaysWrong)

/-- 'hocketlaw18.GathOnce': WHATEVER THE INPUT: true; the input reads as it did. -/
def gathOnceSpec : ChangeSpec := { name := "gathOnce", fn := fun _ => fun
  | [d1, d2, d3] => { results := [.lit (.bool true)], args := [d1, d2, d3] }
  | _ => none }
def gathOnceRow : OpenClaim := { program := "ytabedbggldnkhaa", sum := "763e6441074d9a743f94f8553ddcd48ad7c7a4fbaa4df58af0b89b345a87a523", func := "hocket/hocketlaw18.GathOnce", spec := "gathOnce", unfollowed := true, recurses := true, apart := false }
def GathOnceSaid : Prop := gathOnceRow.holds Try.pinned (OpenSpec.ofChange gathOnceSpec)

/-- ITS FALSE NEIGHBOUR: 'it returns false'. Refute it at one input. -/
def gathOnceWrong : ChangeSpec := { name := "gathOnce", fn := fun _ => fun
  | [d1, d2, d3] => { results := [.lit (.bool false)], args := [d1, d2, d3] }
  | _ => none }
def GathOnceWrongFalsely : Prop := gathOnceRow.holds Try.pinned (OpenSpec.ofChange gathOnceWrong)

/- THE SECOND FORM. 'bulk': how many values and letters a reading holds, each counted each time it is reached (what is shared counts as often as it is met; a slice's spare places count too). A statement '..UptoSaid' is the law's where the arguments, and the package variables that the reading takes, are together of bulk at most 1048576: NARROWER than '..Said'. Prove '..Said' where nothing that the law and all that it calls make is longer than what came in: it says more and counts as full. Else prove '..UptoSaid'. A law counts once. -/
mutual
def uptoBulk {H : Type} : DataW H → Nat
  | .lit (.string bytes) => bytes.length + 1
  | .lit _ => 1
  | .nil => 1
  | .ptr d => uptoBulk d + 1
  | .slice elems spare => uptoBulkAll elems + uptoBulkAll spare + 1
  | .agg parts => uptoBulkAll parts + 1
  | .iface _ d => uptoBulk d + 1
  | .map entries => uptoBulkEntries entries + 1
  | .held _ => 1
def uptoBulkAll {H : Type} : List (DataW H) → Nat
  | [] => 0
  | d :: r => uptoBulk d + uptoBulkAll r
def uptoBulkEntries {H : Type} : List (Lit × DataW H) → Nat
  | [] => 0
  | x :: r => uptoBulkEntry x + uptoBulkEntries r
def uptoBulkEntry {H : Type} : Lit × DataW H → Nat
  | (.string bytes, d) => bytes.length + uptoBulk d + 1
  | (_, d) => uptoBulk d + 1
 end
def uptoSmall : (H : Type) → List (DataW H) → Bool := fun _ ds => decide (uptoBulkAll ds ≤ 1048576)
def OpenSpec.upto (s : _root_.Go.ChangeSpec) : _root_.Go.OpenSpec := { _root_.Go.OpenSpec.ofChange s with cond := some uptoSmall }

/-- 'hocketlaw14.ViewForms', WHERE WHAT IT READS IS OF BULK AT MOST 1048576: true; the input reads as it did. -/
def viewFormsUptoRow : OpenClaim := { program := "ytabedbggldnkhaa", sum := "763e6441074d9a743f94f8553ddcd48ad7c7a4fbaa4df58af0b89b345a87a523", func := "hocket/hocketlaw14.ViewForms", spec := "viewForms", unfollowed := true, recurses := true, apart := false, narrowed := true }
def ViewFormsUptoSaid : Prop := viewFormsUptoRow.holds Try.pinned (OpenSpec.upto viewFormsSpec)

/-- 'hocketlaw14.ViewCounts', WHERE WHAT IT READS IS OF BULK AT MOST 1048576: true; the input reads as it did. -/
def viewCountsUptoRow : OpenClaim := { program := "ytabedbggldnkhaa", sum := "763e6441074d9a743f94f8553ddcd48ad7c7a4fbaa4df58af0b89b345a87a523", func := "hocket/hocketlaw14.ViewCounts", spec := "viewCounts", apart := false, narrowed := true }
def ViewCountsUptoSaid : Prop := viewCountsUptoRow.holds Try.pinned (OpenSpec.upto viewCountsSpec)

/-- 'hocketlaw14.ViewTells', WHERE WHAT IT READS IS OF BULK AT MOST 1048576: true; the input reads as it did. -/
def viewTellsUptoRow : OpenClaim := { program := "ytabedbggldnkhaa", sum := "763e6441074d9a743f94f8553ddcd48ad7c7a4fbaa4df58af0b89b345a87a523", func := "hocket/hocketlaw14.ViewTells", spec := "viewTells", apart := false, narrowed := true }
def ViewTellsUptoSaid : Prop := viewTellsUptoRow.holds Try.pinned (OpenSpec.upto viewTellsSpec)

/-- 'hocketlaw14.ViewMeets', WHERE WHAT IT READS IS OF BULK AT MOST 1048576: true; the input reads as it did. -/
def viewMeetsUptoRow : OpenClaim := { program := "ytabedbggldnkhaa", sum := "763e6441074d9a743f94f8553ddcd48ad7c7a4fbaa4df58af0b89b345a87a523", func := "hocket/hocketlaw14.ViewMeets", spec := "viewMeets", apart := false, narrowed := true }
def ViewMeetsUptoSaid : Prop := viewMeetsUptoRow.holds Try.pinned (OpenSpec.upto viewMeetsSpec)

/-- 'hocketlaw17.ToknForms', WHERE WHAT IT READS IS OF BULK AT MOST 1048576: true; the input reads as it did. -/
def toknFormsUptoRow : OpenClaim := { program := "ytabedbggldnkhaa", sum := "763e6441074d9a743f94f8553ddcd48ad7c7a4fbaa4df58af0b89b345a87a523", func := "hocket/hocketlaw17.ToknForms", spec := "toknForms", unfollowed := true, recurses := true, apart := false, narrowed := true }
def ToknFormsUptoSaid : Prop := toknFormsUptoRow.holds Try.pinned (OpenSpec.upto toknFormsSpec)

/-- 'hocketlaw17.ToknOwn', WHERE WHAT IT READS IS OF BULK AT MOST 1048576: true; the input reads as it did. -/
def toknOwnUptoRow : OpenClaim := { program := "ytabedbggldnkhaa", sum := "763e6441074d9a743f94f8553ddcd48ad7c7a4fbaa4df58af0b89b345a87a523", func := "hocket/hocketlaw17.ToknOwn", spec := "toknOwn", unfollowed := true, recurses := true, apart := false, narrowed := true }
def ToknOwnUptoSaid : Prop := toknOwnUptoRow.holds Try.pinned (OpenSpec.upto toknOwnSpec)

/-- 'hocketlaw17.ToknRises', WHERE WHAT IT READS IS OF BULK AT MOST 1048576: true; the input reads as it did. -/
def toknRisesUptoRow : OpenClaim := { program := "ytabedbggldnkhaa", sum := "763e6441074d9a743f94f8553ddcd48ad7c7a4fbaa4df58af0b89b345a87a523", func := "hocket/hocketlaw17.ToknRises", spec := "toknRises", apart := false, narrowed := true }
def ToknRisesUptoSaid : Prop := toknRisesUptoRow.holds Try.pinned (OpenSpec.upto toknRisesSpec)

/-- 'hocketlaw18.GathForms', WHERE WHAT IT READS IS OF BULK AT MOST 1048576: true; the input reads as it did. -/
def gathFormsUptoRow : OpenClaim := { program := "ytabedbggldnkhaa", sum := "763e6441074d9a743f94f8553ddcd48ad7c7a4fbaa4df58af0b89b345a87a523", func := "hocket/hocketlaw18.GathForms", spec := "gathForms", unfollowed := true, recurses := true, apart := false, narrowed := true }
def GathFormsUptoSaid : Prop := gathFormsUptoRow.holds Try.pinned (OpenSpec.upto gathFormsSpec)

/-- 'hocketlaw18.GathReady', WHERE WHAT IT READS IS OF BULK AT MOST 1048576: true; the input reads as it did. -/
def gathReadyUptoRow : OpenClaim := { program := "ytabedbggldnkhaa", sum := "763e6441074d9a743f94f8553ddcd48ad7c7a4fbaa4df58af0b89b345a87a523", func := "hocket/hocketlaw18.GathReady", spec := "gathReady", unfollowed := true, recurses := true, apart := false, narrowed := true }
def GathReadyUptoSaid : Prop := gathReadyUptoRow.holds Try.pinned (OpenSpec.upto gathReadySpec)

/-- 'hocketlaw18.GathBlocks', WHERE WHAT IT READS IS OF BULK AT MOST 1048576: true; the input reads as it did. -/
def gathBlocksUptoRow : OpenClaim := { program := "ytabedbggldnkhaa", sum := "763e6441074d9a743f94f8553ddcd48ad7c7a4fbaa4df58af0b89b345a87a523", func := "hocket/hocketlaw18.GathBlocks", spec := "gathBlocks", unfollowed := true, recurses := true, apart := false, narrowed := true }
def GathBlocksUptoSaid : Prop := gathBlocksUptoRow.holds Try.pinned (OpenSpec.upto gathBlocksSpec)

/-- 'hocketlaw18.GathPlays', WHERE WHAT IT READS IS OF BULK AT MOST 1048576: true; the input reads as it did. -/
def gathPlaysUptoRow : OpenClaim := { program := "ytabedbggldnkhaa", sum := "763e6441074d9a743f94f8553ddcd48ad7c7a4fbaa4df58af0b89b345a87a523", func := "hocket/hocketlaw18.GathPlays", spec := "gathPlays", unfollowed := true, recurses := true, apart := false, narrowed := true }
def GathPlaysUptoSaid : Prop := gathPlaysUptoRow.holds Try.pinned (OpenSpec.upto gathPlaysSpec)

/-- 'hocketlaw18.GathOnce', WHERE WHAT IT READS IS OF BULK AT MOST 1048576: true; the input reads as it did. -/
def gathOnceUptoRow : OpenClaim := { program := "ytabedbggldnkhaa", sum := "763e6441074d9a743f94f8553ddcd48ad7c7a4fbaa4df58af0b89b345a87a523", func := "hocket/hocketlaw18.GathOnce", spec := "gathOnce", unfollowed := true, recurses := true, apart := false, narrowed := true }
def GathOnceUptoSaid : Prop := gathOnceUptoRow.holds Try.pinned (OpenSpec.upto gathOnceSpec)

end Rows
end Go.Proofs.Ytabedbggldnkhaa
