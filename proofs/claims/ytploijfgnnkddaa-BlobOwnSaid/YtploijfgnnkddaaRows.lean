/-
  No cell of these rows narrows 'for every input' (looked for: loops, veiled, ifaces, maps, wideKeys, modest, calm, conditions, laid).
  DERIVED. THE GIVEN ROWS OF THIS SEAT. 5 by the template 'for every input the law returns true; each argument reads behind the call as it read before'; 0 by the template 'total and deterministic' (their statements: YtploijfgnnkddaaTotals.lean).
  GIVEN WITH THE SEED: the statements are not yours to turn. If you find one false, say at which input.
  Laid BY PROGRAM, IN A SANDBOX (cutbox-rows.mjs): the forced cells as the released guide's own fill.sh prints them over the translation 1528b6684faa6876… (all of the seat's roots in one cut). By AI agents, Wed Nov 11 2026. No macro, syntax, notation, axiom, sorry.
-/
import Derived.Test.YtploijfgnnkddaaChecked
import GoSem.Claim
import GoSem.ClaimJoined
import GoSem.ClaimMapViews
import Derived.JoinedTies
import Derived.KernelRfl
namespace Go.Proofs.Ytploijfgnnkddaa
/- THE CELL 'sum', in the pinned program and in every row, IS THE sha256 OF THE DUMP (.gsa) THAT YtploijfgnnkddaaProg.lean LOADS. Nothing in Lean hashes anything: it is a label: what it is worth is what the hold of that sum in a sandbox is worth. -/
noncomputable def Try.pinned : Pinned := { name := "ytploijfgnnkddaa", sum := "1528b6684faa68764e8e2ad0e7c26cfb21fc836a7a6ddee1d934a863674678e6", checked := Try.checked }
namespace Rows
def none {H : Type} : Left H := { results := [], args := [] }

/-- 'hocketlaw15.BlobForms': WHATEVER THE INPUT: true; the input reads as it did. -/
def blobFormsSpec : ChangeSpec := { name := "blobForms", fn := fun _ => fun
  | [d] => { results := [.lit (.bool true)], args := [d] }
  | _ => none }
def blobFormsRow : OpenClaim := { program := "ytploijfgnnkddaa", sum := "1528b6684faa68764e8e2ad0e7c26cfb21fc836a7a6ddee1d934a863674678e6", func := "hocket/hocketlaw15.BlobForms", spec := "blobForms", inPlace := ["internal/bytealg.Compare"], unfollowed := true, recurses := true, apart := false }
def BlobFormsSaid : Prop := blobFormsRow.holds Try.pinned (OpenSpec.ofChange blobFormsSpec)

/-- ITS FALSE NEIGHBOUR: 'it returns false'. Refute it at one input. -/
def blobFormsWrong : ChangeSpec := { name := "blobForms", fn := fun _ => fun
  | [d] => { results := [.lit (.bool false)], args := [d] }
  | _ => none }
def BlobFormsWrongFalsely : Prop := blobFormsRow.holds Try.pinned (OpenSpec.ofChange blobFormsWrong)

/-- 'hocketlaw15.BlobOwn': WHATEVER THE INPUT: true; the input reads as it did. -/
def blobOwnSpec : ChangeSpec := { name := "blobOwn", fn := fun _ => fun
  | [d1, d2, d3] => { results := [.lit (.bool true)], args := [d1, d2, d3] }
  | _ => none }
def blobOwnRow : OpenClaim := { program := "ytploijfgnnkddaa", sum := "1528b6684faa68764e8e2ad0e7c26cfb21fc836a7a6ddee1d934a863674678e6", func := "hocket/hocketlaw15.BlobOwn", spec := "blobOwn", inPlace := ["internal/bytealg.Compare"], unfollowed := true, recurses := true, apart := false }
def BlobOwnSaid : Prop := blobOwnRow.holds Try.pinned (OpenSpec.ofChange blobOwnSpec)

/-- ITS FALSE NEIGHBOUR: 'it returns false'. Refute it at one input. -/
def blobOwnWrong : ChangeSpec := { name := "blobOwn", fn := fun _ => fun
  | [d1, d2, d3] => { results := [.lit (.bool false)], args := [d1, d2, d3] }
  | _ => none }
def BlobOwnWrongFalsely : Prop := blobOwnRow.holds Try.pinned (OpenSpec.ofChange blobOwnWrong)

/-- 'hocketlaw15.BlobTells': WHATEVER THE INPUT: true; the input reads as it did. -/
def blobTellsSpec : ChangeSpec := { name := "blobTells", fn := fun _ => fun
  | [d1, d2, d3, d4, d5, d6] => { results := [.lit (.bool true)], args := [d1, d2, d3, d4, d5, d6] }
  | _ => none }
def blobTellsRow : OpenClaim := { program := "ytploijfgnnkddaa", sum := "1528b6684faa68764e8e2ad0e7c26cfb21fc836a7a6ddee1d934a863674678e6", func := "hocket/hocketlaw15.BlobTells", spec := "blobTells", inPlace := ["internal/bytealg.Compare"], unfollowed := true, recurses := true, apart := false }
def BlobTellsSaid : Prop := blobTellsRow.holds Try.pinned (OpenSpec.ofChange blobTellsSpec)

/-- ITS FALSE NEIGHBOUR: 'it returns false'. Refute it at one input. -/
def blobTellsWrong : ChangeSpec := { name := "blobTells", fn := fun _ => fun
  | [d1, d2, d3, d4, d5, d6] => { results := [.lit (.bool false)], args := [d1, d2, d3, d4, d5, d6] }
  | _ => none }
def BlobTellsWrongFalsely : Prop := blobTellsRow.holds Try.pinned (OpenSpec.ofChange blobTellsWrong)

/-- 'hocketlaw15.BlobParts': WHATEVER THE INPUT: true; the input reads as it did. -/
def blobPartsSpec : ChangeSpec := { name := "blobParts", fn := fun _ => fun
  | [d1, d2, d3, d4] => { results := [.lit (.bool true)], args := [d1, d2, d3, d4] }
  | _ => none }
def blobPartsRow : OpenClaim := { program := "ytploijfgnnkddaa", sum := "1528b6684faa68764e8e2ad0e7c26cfb21fc836a7a6ddee1d934a863674678e6", func := "hocket/hocketlaw15.BlobParts", spec := "blobParts", inPlace := ["internal/bytealg.Compare"], unfollowed := true, recurses := true, apart := false }
def BlobPartsSaid : Prop := blobPartsRow.holds Try.pinned (OpenSpec.ofChange blobPartsSpec)

/-- ITS FALSE NEIGHBOUR: 'it returns false'. Refute it at one input. -/
def blobPartsWrong : ChangeSpec := { name := "blobParts", fn := fun _ => fun
  | [d1, d2, d3, d4] => { results := [.lit (.bool false)], args := [d1, d2, d3, d4] }
  | _ => none }
def BlobPartsWrongFalsely : Prop := blobPartsRow.holds Try.pinned (OpenSpec.ofChange blobPartsWrong)

/-- 'hocketlaw19.XferServes': WHATEVER THE INPUT: true; the input reads as it did. -/
def xferServesSpec : ChangeSpec := { name := "xferServes", fn := fun _ => fun
  | [d1, d2, d3, d4, d5] => { results := [.lit (.bool true)], args := [d1, d2, d3, d4, d5] }
  | _ => none }
def xferServesRow : OpenClaim := { program := "ytploijfgnnkddaa", sum := "1528b6684faa68764e8e2ad0e7c26cfb21fc836a7a6ddee1d934a863674678e6", func := "hocket/hocketlaw19.XferServes", spec := "xferServes", inPlace := ["internal/bytealg.Compare"], unfollowed := true, recurses := true, apart := false }
def XferServesSaid : Prop := xferServesRow.holds Try.pinned (OpenSpec.ofChange xferServesSpec)

/-- ITS FALSE NEIGHBOUR: 'it returns false'. Refute it at one input. -/
def xferServesWrong : ChangeSpec := { name := "xferServes", fn := fun _ => fun
  | [d1, d2, d3, d4, d5] => { results := [.lit (.bool false)], args := [d1, d2, d3, d4, d5] }
  | _ => none }
def XferServesWrongFalsely : Prop := xferServesRow.holds Try.pinned (OpenSpec.ofChange xferServesWrong)

/- THE SECOND FORM. 'bulk': how many values and letters a reading holds, each counted each time it is reached (what is shared counts as often as it is met; a slice's spare places count too). A statement '..UptoSaid' is the law's where the arguments, and the package variables that the reading takes, are together of bulk at most 1048576: NARROWER than '..Said'. Prove '..Said' where nothing that the law and all that it calls make is longer than what came in: it says more and counts as full. Else prove '..UptoSaid'. A law counts once. -/
mutual
def uptoBulk {H : Type} : DataW H → Nat
  | .lit (.string bytes) => bytes.length + 1
  | .lit _ => 1
  | .nil => 1
  | .ptr d => uptoBulk d + 1
  | .slice elems spare => uptoBulkAll elems + uptoBulkAll spare + 1
  | .agg parts => uptoBulkAll parts + 1
  | .iface _ d => uptoBulk d + 1
  | .map entries => uptoBulkEntries entries + 1
  | .held _ => 1
def uptoBulkAll {H : Type} : List (DataW H) → Nat
  | [] => 0
  | d :: r => uptoBulk d + uptoBulkAll r
def uptoBulkEntries {H : Type} : List (Lit × DataW H) → Nat
  | [] => 0
  | x :: r => uptoBulkEntry x + uptoBulkEntries r
def uptoBulkEntry {H : Type} : Lit × DataW H → Nat
  | (.string bytes, d) => bytes.length + uptoBulk d + 1
  | (_, d) => uptoBulk d + 1
 end
def uptoSmall : (H : Type) → List (DataW H) → Bool := fun _ ds => decide (uptoBulkAll ds ≤ 1048576)
def OpenSpec.upto (s : _root_.Go.ChangeSpec) : _root_.Go.OpenSpec := { _root_.Go.OpenSpec.ofChange s with cond := some uptoSmall }

/-- 'hocketlaw15.BlobForms', WHERE WHAT IT READS IS OF BULK AT MOST 1048576: true; the input reads as it did. -/
def blobFormsUptoRow : OpenClaim := { program := "ytploijfgnnkddaa", sum := "1528b6684faa68764e8e2ad0e7c26cfb21fc836a7a6ddee1d934a863674678e6", func := "hocket/hocketlaw15.BlobForms", spec := "blobForms", inPlace := ["internal/bytealg.Compare"], unfollowed := true, recurses := true, apart := false, narrowed := true }
def BlobFormsUptoSaid : Prop := blobFormsUptoRow.holds Try.pinned (OpenSpec.upto blobFormsSpec)

/-- 'hocketlaw15.BlobOwn', WHERE WHAT IT READS IS OF BULK AT MOST 1048576: true; the input reads as it did. -/
def blobOwnUptoRow : OpenClaim := { program := "ytploijfgnnkddaa", sum := "1528b6684faa68764e8e2ad0e7c26cfb21fc836a7a6ddee1d934a863674678e6", func := "hocket/hocketlaw15.BlobOwn", spec := "blobOwn", inPlace := ["internal/bytealg.Compare"], unfollowed := true, recurses := true, apart := false, narrowed := true }
def BlobOwnUptoSaid : Prop := blobOwnUptoRow.holds Try.pinned (OpenSpec.upto blobOwnSpec)

/-- 'hocketlaw15.BlobTells', WHERE WHAT IT READS IS OF BULK AT MOST 1048576: true; the input reads as it did. -/
def blobTellsUptoRow : OpenClaim := { program := "ytploijfgnnkddaa", sum := "1528b6684faa68764e8e2ad0e7c26cfb21fc836a7a6ddee1d934a863674678e6", func := "hocket/hocketlaw15.BlobTells", spec := "blobTells", inPlace := ["internal/bytealg.Compare"], unfollowed := true, recurses := true, apart := false, narrowed := true }
def BlobTellsUptoSaid : Prop := blobTellsUptoRow.holds Try.pinned (OpenSpec.upto blobTellsSpec)

/-- 'hocketlaw15.BlobParts', WHERE WHAT IT READS IS OF BULK AT MOST 1048576: true; the input reads as it did. -/
def blobPartsUptoRow : OpenClaim := { program := "ytploijfgnnkddaa", sum := "1528b6684faa68764e8e2ad0e7c26cfb21fc836a7a6ddee1d934a863674678e6", func := "hocket/hocketlaw15.BlobParts", spec := "blobParts", inPlace := ["internal/bytealg.Compare"], unfollowed := true, recurses := true, apart := false, narrowed := true }
def BlobPartsUptoSaid : Prop := blobPartsUptoRow.holds Try.pinned (OpenSpec.upto blobPartsSpec)

/-- 'hocketlaw19.XferServes', WHERE WHAT IT READS IS OF BULK AT MOST 1048576: true; the input reads as it did. -/
def xferServesUptoRow : OpenClaim := { program := "ytploijfgnnkddaa", sum := "1528b6684faa68764e8e2ad0e7c26cfb21fc836a7a6ddee1d934a863674678e6", func := "hocket/hocketlaw19.XferServes", spec := "xferServes", inPlace := ["internal/bytealg.Compare"], unfollowed := true, recurses := true, apart := false, narrowed := true }
def XferServesUptoSaid : Prop := xferServesUptoRow.holds Try.pinned (OpenSpec.upto xferServesSpec)

end Rows
end Go.Proofs.Ytploijfgnnkddaa
