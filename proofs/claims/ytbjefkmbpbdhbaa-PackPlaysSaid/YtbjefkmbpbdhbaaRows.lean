/-
  No cell of these rows narrows 'for every input' (looked for: loops, veiled, ifaces, maps, wideKeys, modest, calm, conditions, laid).
  DERIVED. THE GIVEN ROWS OF THIS SEAT. 11 by the template 'for every input the law returns true; each argument reads behind the call as it read before'; 0 by the template 'total and deterministic' (their statements: YtbjefkmbpbdhbaaTotals.lean).
  GIVEN WITH THE SEED: the statements are not yours to turn. If you find one false, say at which input.
  Laid BY PROGRAM, IN A SANDBOX (cutbox-rows.mjs): the forced cells as the released guide's own fill.sh prints them over the translation 82624ee098a17f6a… (all of the seat's roots in one cut). By AI agents, Wed Nov 11 2026. No macro, syntax, notation, axiom, sorry.
-/
import Derived.Test.YtbjefkmbpbdhbaaChecked
import GoSem.Claim
import GoSem.ClaimJoined
import GoSem.ClaimMapViews
import Derived.JoinedTies
import Derived.KernelRfl
namespace Go.Proofs.Ytbjefkmbpbdhbaa
/- THE CELL 'sum', in the pinned program and in every row, IS THE sha256 OF THE DUMP (.gsa) THAT YtbjefkmbpbdhbaaProg.lean LOADS. Nothing in Lean hashes anything: it is a label: what it is worth is what the hold of that sum in a sandbox is worth. -/
noncomputable def Try.pinned : Pinned := { name := "ytbjefkmbpbdhbaa", sum := "82624ee098a17f6a27c768681380ede0676de193f3378c6bf564d171ef637946", checked := Try.checked }
namespace Rows
def none {H : Type} : Left H := { results := [], args := [] }

/-- 'hocketlaw4.RegsForms': WHATEVER THE INPUT: true; the input reads as it did. -/
def regsFormsSpec : ChangeSpec := { name := "regsForms", fn := fun _ => fun
  | [d] => { results := [.lit (.bool true)], args := [d] }
  | _ => none }
def regsFormsRow : OpenClaim := { program := "ytbjefkmbpbdhbaa", sum := "82624ee098a17f6a27c768681380ede0676de193f3378c6bf564d171ef637946", func := "hocket/hocketlaw4.RegsForms", spec := "regsForms", apart := false }
def RegsFormsSaid : Prop := regsFormsRow.holds Try.pinned (OpenSpec.ofChange regsFormsSpec)

/-- ITS FALSE NEIGHBOUR: 'it returns false'. Refute it at one input. -/
def regsFormsWrong : ChangeSpec := { name := "regsForms", fn := fun _ => fun
  | [d] => { results := [.lit (.bool false)], args := [d] }
  | _ => none }
def RegsFormsWrongFalsely : Prop := regsFormsRow.holds Try.pinned (OpenSpec.ofChange regsFormsWrong)

/-- 'hocketlaw4.RegsTells': WHATEVER THE INPUT: true; the input reads as it did. -/
def regsTellsSpec : ChangeSpec := { name := "regsTells", fn := fun _ => fun
  | [d1, d2, d3, d4] => { results := [.lit (.bool true)], args := [d1, d2, d3, d4] }
  | _ => none }
def regsTellsRow : OpenClaim := { program := "ytbjefkmbpbdhbaa", sum := "82624ee098a17f6a27c768681380ede0676de193f3378c6bf564d171ef637946", func := "hocket/hocketlaw4.RegsTells", spec := "regsTells", apart := false }
def RegsTellsSaid : Prop := regsTellsRow.holds Try.pinned (OpenSpec.ofChange regsTellsSpec)

/-- ITS FALSE NEIGHBOUR: 'it returns false'. Refute it at one input. -/
def regsTellsWrong : ChangeSpec := { name := "regsTells", fn := fun _ => fun
  | [d1, d2, d3, d4] => { results := [.lit (.bool false)], args := [d1, d2, d3, d4] }
  | _ => none }
def RegsTellsWrongFalsely : Prop := regsTellsRow.holds Try.pinned (OpenSpec.ofChange regsTellsWrong)

/-- 'hocketlaw4.RegsOnce': WHATEVER THE INPUT: true; the input reads as it did. -/
def regsOnceSpec : ChangeSpec := { name := "regsOnce", fn := fun _ => fun
  | [d1, d2, d3] => { results := [.lit (.bool true)], args := [d1, d2, d3] }
  | _ => none }
def regsOnceRow : OpenClaim := { program := "ytbjefkmbpbdhbaa", sum := "82624ee098a17f6a27c768681380ede0676de193f3378c6bf564d171ef637946", func := "hocket/hocketlaw4.RegsOnce", spec := "regsOnce", apart := false }
def RegsOnceSaid : Prop := regsOnceRow.holds Try.pinned (OpenSpec.ofChange regsOnceSpec)

/-- ITS FALSE NEIGHBOUR: 'it returns false'. Refute it at one input. -/
def regsOnceWrong : ChangeSpec := { name := "regsOnce", fn := fun _ => fun
  | [d1, d2, d3] => { results := [.lit (.bool false)], args := [d1, d2, d3] }
  | _ => none }
def RegsOnceWrongFalsely : Prop := regsOnceRow.holds Try.pinned (OpenSpec.ofChange regsOnceWrong)

/-- 'hocketlaw5.FifoForms': WHATEVER THE INPUT: true; the input reads as it did. -/
def fifoFormsSpec : ChangeSpec := { name := "fifoForms", fn := fun _ => fun
  | [d1, d2] => { results := [.lit (.bool true)], args := [d1, d2] }
  | _ => none }
def fifoFormsRow : OpenClaim := { program := "ytbjefkmbpbdhbaa", sum := "82624ee098a17f6a27c768681380ede0676de193f3378c6bf564d171ef637946", func := "hocket/hocketlaw5.FifoForms", spec := "fifoForms", apart := false }
def FifoFormsSaid : Prop := fifoFormsRow.holds Try.pinned (OpenSpec.ofChange fifoFormsSpec)

/-- ITS FALSE NEIGHBOUR: 'it returns false'. Refute it at one input. -/
def fifoFormsWrong : ChangeSpec := { name := "fifoForms", fn := fun _ => fun
  | [d1, d2] => { results := [.lit (.bool false)], args := [d1, d2] }
  | _ => none }
def FifoFormsWrongFalsely : Prop := fifoFormsRow.holds Try.pinned (OpenSpec.ofChange fifoFormsWrong)

/-- 'hocketlaw5.FifoOwn': WHATEVER THE INPUT: true; the input reads as it did. -/
def fifoOwnSpec : ChangeSpec := { name := "fifoOwn", fn := fun _ => fun
  | [d] => { results := [.lit (.bool true)], args := [d] }
  | _ => none }
def fifoOwnRow : OpenClaim := { program := "ytbjefkmbpbdhbaa", sum := "82624ee098a17f6a27c768681380ede0676de193f3378c6bf564d171ef637946", func := "hocket/hocketlaw5.FifoOwn", spec := "fifoOwn", apart := false }
def FifoOwnSaid : Prop := fifoOwnRow.holds Try.pinned (OpenSpec.ofChange fifoOwnSpec)

/-- ITS FALSE NEIGHBOUR: 'it returns false'. Refute it at one input. -/
def fifoOwnWrong : ChangeSpec := { name := "fifoOwn", fn := fun _ => fun
  | [d] => { results := [.lit (.bool false)], args := [d] }
  | _ => none }
def FifoOwnWrongFalsely : Prop := fifoOwnRow.holds Try.pinned (OpenSpec.ofChange fifoOwnWrong)

/-- 'hocketlaw5.FifoPlays': WHATEVER THE INPUT: true; the input reads as it did. -/
def fifoPlaysSpec : ChangeSpec := { name := "fifoPlays", fn := fun _ => fun
  | [d1, d2] => { results := [.lit (.bool true)], args := [d1, d2] }
  | _ => none }
def fifoPlaysRow : OpenClaim := { program := "ytbjefkmbpbdhbaa", sum := "82624ee098a17f6a27c768681380ede0676de193f3378c6bf564d171ef637946", func := "hocket/hocketlaw5.FifoPlays", spec := "fifoPlays", apart := false }
def FifoPlaysSaid : Prop := fifoPlaysRow.holds Try.pinned (OpenSpec.ofChange fifoPlaysSpec)

/-- ITS FALSE NEIGHBOUR: 'it returns false'. Refute it at one input. -/
def fifoPlaysWrong : ChangeSpec := { name := "fifoPlays", fn := fun _ => fun
  | [d1, d2] => { results := [.lit (.bool false)], args := [d1, d2] }
  | _ => none }
def FifoPlaysWrongFalsely : Prop := fifoPlaysRow.holds Try.pinned (OpenSpec.ofChange fifoPlaysWrong)

/-- 'hocketlaw5.FifoOrder': WHATEVER THE INPUT: true; the input reads as it did. -/
def fifoOrderSpec : ChangeSpec := { name := "fifoOrder", fn := fun _ => fun
  | [d] => { results := [.lit (.bool true)], args := [d] }
  | _ => none }
def fifoOrderRow : OpenClaim := { program := "ytbjefkmbpbdhbaa", sum := "82624ee098a17f6a27c768681380ede0676de193f3378c6bf564d171ef637946", func := "hocket/hocketlaw5.FifoOrder", spec := "fifoOrder", apart := false }
def FifoOrderSaid : Prop := fifoOrderRow.holds Try.pinned (OpenSpec.ofChange fifoOrderSpec)

/-- ITS FALSE NEIGHBOUR: 'it returns false'. Refute it at one input. -/
def fifoOrderWrong : ChangeSpec := { name := "fifoOrder", fn := fun _ => fun
  | [d] => { results := [.lit (.bool false)], args := [d] }
  | _ => none }
def FifoOrderWrongFalsely : Prop := fifoOrderRow.holds Try.pinned (OpenSpec.ofChange fifoOrderWrong)

/-- 'hocketlaw2.PackForms': WHATEVER THE INPUT: true; the input reads as it did. -/
def packFormsSpec : ChangeSpec := { name := "packForms", fn := fun _ => fun
  | [d] => { results := [.lit (.bool true)], args := [d] }
  | _ => none }
def packFormsRow : OpenClaim := { program := "ytbjefkmbpbdhbaa", sum := "82624ee098a17f6a27c768681380ede0676de193f3378c6bf564d171ef637946", func := "hocket/hocketlaw2.PackForms", spec := "packForms", apart := false }
def PackFormsSaid : Prop := packFormsRow.holds Try.pinned (OpenSpec.ofChange packFormsSpec)

/-- ITS FALSE NEIGHBOUR: 'it returns false'. Refute it at one input. -/
def packFormsWrong : ChangeSpec := { name := "packForms", fn := fun _ => fun
  | [d] => { results := [.lit (.bool false)], args := [d] }
  | _ => none }
def PackFormsWrongFalsely : Prop := packFormsRow.holds Try.pinned (OpenSpec.ofChange packFormsWrong)

/-- 'hocketlaw2.PackStops': WHATEVER THE INPUT: true; the input reads as it did. -/
def packStopsSpec : ChangeSpec := { name := "packStops", fn := fun _ => fun
  | [d1, d2] => { results := [.lit (.bool true)], args := [d1, d2] }
  | _ => none }
def packStopsRow : OpenClaim := { program := "ytbjefkmbpbdhbaa", sum := "82624ee098a17f6a27c768681380ede0676de193f3378c6bf564d171ef637946", func := "hocket/hocketlaw2.PackStops", spec := "packStops", apart := false }
def PackStopsSaid : Prop := packStopsRow.holds Try.pinned (OpenSpec.ofChange packStopsSpec)

/-- ITS FALSE NEIGHBOUR: 'it returns false'. Refute it at one input. -/
def packStopsWrong : ChangeSpec := { name := "packStops", fn := fun _ => fun
  | [d1, d2] => { results := [.lit (.bool false)], args := [d1, d2] }
  | _ => none }
def PackStopsWrongFalsely : Prop := packStopsRow.holds Try.pinned (OpenSpec.ofChange packStopsWrong)

/-- 'hocketlaw2.PackPlays': WHATEVER THE INPUT: true; the input reads as it did. -/
def packPlaysSpec : ChangeSpec := { name := "packPlays", fn := fun _ => fun
  | [d1, d2, d3, d4, d5, d6] => { results := [.lit (.bool true)], args := [d1, d2, d3, d4, d5, d6] }
  | _ => none }
def packPlaysRow : OpenClaim := { program := "ytbjefkmbpbdhbaa", sum := "82624ee098a17f6a27c768681380ede0676de193f3378c6bf564d171ef637946", func := "hocket/hocketlaw2.PackPlays", spec := "packPlays", apart := false }
def PackPlaysSaid : Prop := packPlaysRow.holds Try.pinned (OpenSpec.ofChange packPlaysSpec)

/-- ITS FALSE NEIGHBOUR: 'it returns false'. Refute it at one input. -/
def packPlaysWrong : ChangeSpec := { name := "packPlays", fn := fun _ => fun
  | [d1, d2, d3, d4, d5, d6] => { results := [.lit (.bool false)], args := [d1, d2, d3, d4, d5, d6] }
  | _ => none }
def PackPlaysWrongFalsely : Prop := packPlaysRow.holds Try.pinned (OpenSpec.ofChange packPlaysWrong)

/-- 'hocketlaw2.PackBack': WHATEVER THE INPUT: true; the input reads as it did. -/
def packBackSpec : ChangeSpec := { name := "packBack", fn := fun _ => fun
  | [d1, d2, d3] => { results := [.lit (.bool true)], args := [d1, d2, d3] }
  | _ => none }
def packBackRow : OpenClaim := { program := "ytbjefkmbpbdhbaa", sum := "82624ee098a17f6a27c768681380ede0676de193f3378c6bf564d171ef637946", func := "hocket/hocketlaw2.PackBack", spec := "packBack", apart := false }
def PackBackSaid : Prop := packBackRow.holds Try.pinned (OpenSpec.ofChange packBackSpec)

/-- ITS FALSE NEIGHBOUR: 'it returns false'. Refute it at one input. -/
def packBackWrong : ChangeSpec := { name := "packBack", fn := fun _ => fun
  | [d1, d2, d3] => { results := [.lit (.bool false)], args := [d1, d2, d3] }
  | _ => none }
def PackBackWrongFalsely : Prop := packBackRow.holds Try.pinned (OpenSpec.ofChange packBackWrong)

/- THE SECOND FORM. 'bulk': how many values and letters a reading holds, each counted each time it is reached (what is shared counts as often as it is met; a slice's spare places count too). A statement '..UptoSaid' is the law's where the arguments, and the package variables that the reading takes, are together of bulk at most 1048576: NARROWER than '..Said'. Prove '..Said' where nothing that the law and all that it calls make is longer than what came in: it says more and counts as full. Else prove '..UptoSaid'. A law counts once. -/
mutual
def uptoBulk {H : Type} : DataW H → Nat
  | .lit (.string bytes) => bytes.length + 1
  | .lit _ => 1
  | .nil => 1
  | .ptr d => uptoBulk d + 1
  | .slice elems spare => uptoBulkAll elems + uptoBulkAll spare + 1
  | .agg parts => uptoBulkAll parts + 1
  | .iface _ d => uptoBulk d + 1
  | .map entries => uptoBulkEntries entries + 1
  | .held _ => 1
def uptoBulkAll {H : Type} : List (DataW H) → Nat
  | [] => 0
  | d :: r => uptoBulk d + uptoBulkAll r
def uptoBulkEntries {H : Type} : List (Lit × DataW H) → Nat
  | [] => 0
  | x :: r => uptoBulkEntry x + uptoBulkEntries r
def uptoBulkEntry {H : Type} : Lit × DataW H → Nat
  | (.string bytes, d) => bytes.length + uptoBulk d + 1
  | (_, d) => uptoBulk d + 1
 end
def uptoSmall : (H : Type) → List (DataW H) → Bool := fun _ ds => decide (uptoBulkAll ds ≤ 1048576)
def OpenSpec.upto (s : _root_.Go.ChangeSpec) : _root_.Go.OpenSpec := { _root_.Go.OpenSpec.ofChange s with cond := some uptoSmall }

/-- 'hocketlaw4.RegsForms', WHERE WHAT IT READS IS OF BULK AT MOST 1048576: true; the input reads as it did. -/
def regsFormsUptoRow : OpenClaim := { program := "ytbjefkmbpbdhbaa", sum := "82624ee098a17f6a27c768681380ede0676de193f3378c6bf564d171ef637946", func := "hocket/hocketlaw4.RegsForms", spec := "regsForms", apart := false, narrowed := true }
def RegsFormsUptoSaid : Prop := regsFormsUptoRow.holds Try.pinned (OpenSpec.upto regsFormsSpec)

/-- 'hocketlaw4.RegsTells', WHERE WHAT IT READS IS OF BULK AT MOST 1048576: true; the input reads as it did. -/
def regsTellsUptoRow : OpenClaim := { program := "ytbjefkmbpbdhbaa", sum := "82624ee098a17f6a27c768681380ede0676de193f3378c6bf564d171ef637946", func := "hocket/hocketlaw4.RegsTells", spec := "regsTells", apart := false, narrowed := true }
def RegsTellsUptoSaid : Prop := regsTellsUptoRow.holds Try.pinned (OpenSpec.upto regsTellsSpec)

/-- 'hocketlaw4.RegsOnce', WHERE WHAT IT READS IS OF BULK AT MOST 1048576: true; the input reads as it did. -/
def regsOnceUptoRow : OpenClaim := { program := "ytbjefkmbpbdhbaa", sum := "82624ee098a17f6a27c768681380ede0676de193f3378c6bf564d171ef637946", func := "hocket/hocketlaw4.RegsOnce", spec := "regsOnce", apart := false, narrowed := true }
def RegsOnceUptoSaid : Prop := regsOnceUptoRow.holds Try.pinned (OpenSpec.upto regsOnceSpec)

/-- 'hocketlaw5.FifoForms', WHERE WHAT IT READS IS OF BULK AT MOST 1048576: true; the input reads as it did. -/
def fifoFormsUptoRow : OpenClaim := { program := "ytbjefkmbpbdhbaa", sum := "82624ee098a17f6a27c768681380ede0676de193f3378c6bf564d171ef637946", func := "hocket/hocketlaw5.FifoForms", spec := "fifoForms", apart := false, narrowed := true }
def FifoFormsUptoSaid : Prop := fifoFormsUptoRow.holds Try.pinned (OpenSpec.upto fifoFormsSpec)

/-- 'hocketlaw5.FifoOwn', WHERE WHAT IT READS IS OF BULK AT MOST 1048576: true; the input reads as it did. -/
def fifoOwnUptoRow : OpenClaim := { program := "ytbjefkmbpbdhbaa", sum := "82624ee098a17f6a27c768681380ede0676de193f3378c6bf564d171ef637946", func := "hocket/hocketlaw5.FifoOwn", spec := "fifoOwn", apart := false, narrowed := true }
def FifoOwnUptoSaid : Prop := fifoOwnUptoRow.holds Try.pinned (OpenSpec.upto fifoOwnSpec)

/-- 'hocketlaw5.FifoPlays', WHERE WHAT IT READS IS OF BULK AT MOST 1048576: true; the input reads as it did. -/
def fifoPlaysUptoRow : OpenClaim := { program := "ytbjefkmbpbdhbaa", sum := "82624ee098a17f6a27c768681380ede0676de193f3378c6bf564d171ef637946", func := "hocket/hocketlaw5.FifoPlays", spec := "fifoPlays", apart := false, narrowed := true }
def FifoPlaysUptoSaid : Prop := fifoPlaysUptoRow.holds Try.pinned (OpenSpec.upto fifoPlaysSpec)

/-- 'hocketlaw5.FifoOrder', WHERE WHAT IT READS IS OF BULK AT MOST 1048576: true; the input reads as it did. -/
def fifoOrderUptoRow : OpenClaim := { program := "ytbjefkmbpbdhbaa", sum := "82624ee098a17f6a27c768681380ede0676de193f3378c6bf564d171ef637946", func := "hocket/hocketlaw5.FifoOrder", spec := "fifoOrder", apart := false, narrowed := true }
def FifoOrderUptoSaid : Prop := fifoOrderUptoRow.holds Try.pinned (OpenSpec.upto fifoOrderSpec)

/-- 'hocketlaw2.PackForms', WHERE WHAT IT READS IS OF BULK AT MOST 1048576: true; the input reads as it did. -/
def packFormsUptoRow : OpenClaim := { program := "ytbjefkmbpbdhbaa", sum := "82624ee098a17f6a27c768681380ede0676de193f3378c6bf564d171ef637946", func := "hocket/hocketlaw2.PackForms", spec := "packForms", apart := false, narrowed := true }
def PackFormsUptoSaid : Prop := packFormsUptoRow.holds Try.pinned (OpenSpec.upto packFormsSpec)

/-- 'hocketlaw2.PackStops', WHERE WHAT IT READS IS OF BULK AT MOST 1048576: true; the input reads as it did. -/
def packStopsUptoRow : OpenClaim := { program := "ytbjefkmbpbdhbaa", sum := "82624ee098a17f6a27c768681380ede0676de193f3378c6bf564d171ef637946", func := "hocket/hocketlaw2.PackStops", spec := "packStops", apart := false, narrowed := true }
def PackStopsUptoSaid : Prop := packStopsUptoRow.holds Try.pinned (OpenSpec.upto packStopsSpec)

/-- 'hocketlaw2.PackPlays', WHERE WHAT IT READS IS OF BULK AT MOST 1048576: true; the input reads as it did. -/
def packPlaysUptoRow : OpenClaim := { program := "ytbjefkmbpbdhbaa", sum := "82624ee098a17f6a27c768681380ede0676de193f3378c6bf564d171ef637946", func := "hocket/hocketlaw2.PackPlays", spec := "packPlays", apart := false, narrowed := true }
def PackPlaysUptoSaid : Prop := packPlaysUptoRow.holds Try.pinned (OpenSpec.upto packPlaysSpec)

/-- 'hocketlaw2.PackBack', WHERE WHAT IT READS IS OF BULK AT MOST 1048576: true; the input reads as it did. -/
def packBackUptoRow : OpenClaim := { program := "ytbjefkmbpbdhbaa", sum := "82624ee098a17f6a27c768681380ede0676de193f3378c6bf564d171ef637946", func := "hocket/hocketlaw2.PackBack", spec := "packBack", apart := false, narrowed := true }
def PackBackUptoSaid : Prop := packBackUptoRow.holds Try.pinned (OpenSpec.upto packBackSpec)

end Rows
end Go.Proofs.Ytbjefkmbpbdhbaa
