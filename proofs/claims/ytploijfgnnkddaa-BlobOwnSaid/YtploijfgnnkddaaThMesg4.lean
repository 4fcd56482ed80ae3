/- What the statements say, of the plain functions. -/
import Derived.Test.YtploijfgnnkddaaDefs
import Derived.Test.YtploijfgnnkddaaLe
import Derived.Test.YtploijfgnnkddaaThInts
import Derived.Test.YtploijfgnnkddaaThPack
import Derived.Test.YtploijfgnnkddaaThMesg
import Derived.Test.YtploijfgnnkddaaThMesg2
import Derived.Test.YtploijfgnnkddaaThMesg3
/- Messages: there and back. -/
namespace Go.Gp
open Go
/-- Whether a message is one, as the document has it. -/
def OkM (m : api_Msg) : Prop :=
  (0 ≤ m.From ∧ m.From ≤ 6) ∧ (0 ≤ m.To ∧ m.To ≤ 6) ∧ (0 ≤ m.View ∧ m.View ≤ far) ∧
  (m.Kind = 1 ∨ m.Kind = 6 ∨
  (m.Kind = 2 ∧ (0 ≤ m.Inst ∧ m.Inst ≤ far) ∧ (0 ≤ m.Len ∧ m.Len ≤ far)) ∨
  (m.Kind = 3 ∧ (0 ≤ m.Members ∧ m.Members ≤ 127) ∧ (0 ≤ m.Source ∧ m.Source ≤ 6) ∧ (0 ≤ m.Len ∧ m.Len ≤ far)) ∨
  (m.Kind = 4 ∧ (0 ≤ m.At ∧ m.At ≤ far)) ∨
  (m.Kind = 5 ∧ (0 ≤ m.At ∧ m.At ≤ far) ∧ (0 ≤ m.Total ∧ m.Total ≤ far) ∧ m.Data.length ≤ 64) ∨
  (m.Kind = 7 ∧ (0 ≤ m.Hop ∧ m.Hop ≤ far) ∧ (0 ≤ m.Seq ∧ m.Seq ≤ far) ∧ (m.Have.length ≤ 7 ∧ ∀ x ∈ m.Have, 0 ≤ x ∧ x ≤ far) ∧ (m.Need.length ≤ 8 ∧ ∀ x ∈ m.Need, 0 ≤ x ∧ x ≤ far)) ∨
  (m.Kind = 8 ∧ (0 ≤ m.Index ∧ m.Index ≤ far) ∧ EntOk m.Entry))
/-- What a message's kind names. -/
def headOf (m : api_Msg) : api_Msg := ⟨m.Kind, m.From, m.To, m.View, 0, 0, false, 0, 0, 0, 0, ([] : List UInt8), 0, 0, ([] : List Int), ([] : List Int), 0, (⟨0, 0, (⟨0, 0, ([] : List UInt8), ([] : List UInt8), ([] : List UInt8)⟩ : api_Cmd)⟩ : api_Entry)⟩
def canM (m : api_Msg) : api_Msg :=
  if m.Kind = 2 then { headOf m with Inst := m.Inst, Len := m.Len, Has := m.Has }
  else if m.Kind = 3 then { headOf m with Members := m.Members, Source := m.Source, Len := m.Len }
  else if m.Kind = 4 then { headOf m with At := m.At }
  else if m.Kind = 5 then { headOf m with At := m.At, Total := m.Total, Data := m.Data }
  else if m.Kind = 7 then { headOf m with Hop := m.Hop, Seq := m.Seq, Have := m.Have, Need := m.Need }
  else if m.Kind = 8 then { headOf m with Index := m.Index, Entry := m.Entry }
  else headOf m
end Go.Gp
