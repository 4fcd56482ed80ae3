/- What the statements say, of the plain functions. -/
import Derived.Test.YtploijfgnnkddaaDefs
import Derived.Test.YtploijfgnnkddaaLe
import Derived.Test.YtploijfgnnkddaaThInts
import Derived.Test.YtploijfgnnkddaaThPack
import Derived.Test.YtploijfgnnkddaaThMesg
import Derived.Test.YtploijfgnnkddaaThMesg2
import Derived.Test.YtploijfgnnkddaaThMesg3
import Derived.Test.YtploijfgnnkddaaThMesg4
import Derived.Test.YtploijfgnnkddaaThMesg5
import Derived.Test.YtploijfgnnkddaaThMesg6
import Derived.Test.YtploijfgnnkddaaThMsg
import Derived.Test.YtploijfgnnkddaaThMesg7
/- Messages: Encode and Decode, whole. -/
namespace Go.Gp
open Go
/-! ### two messages held against each other -/
/-! ### Encode -/
structure Mild (m : api_Msg) : Prop where
  h : m.Have.length ≤ 1100000
  n : m.Need.length ≤ 1100000
  k : m.Entry.Cmd.Key.length ≤ 2000000
  v : m.Entry.Cmd.Val.length ≤ 2000000
  o : m.Entry.Cmd.Old.length ≤ 2000000
def beyondB (m : api_Msg) : Bool := decide ((m.Kind = 7 ∧ (7 < m.Have.length ∨ 8 < m.Need.length)) ∨ (m.Kind = 5 ∧ 64 < m.Data.length))
open Classical in
/-- A message's bytes; none: it may not be. -/
noncomputable def encM (m : api_Msg) : List UInt8 := if OkM m then wire m else []
/-! ### Decode -/
def decM (b : List UInt8) : api_Msg × Bool := if (readM b).2 = true then ((readM b).1, true) else (zmsg, false)
end Go.Gp
