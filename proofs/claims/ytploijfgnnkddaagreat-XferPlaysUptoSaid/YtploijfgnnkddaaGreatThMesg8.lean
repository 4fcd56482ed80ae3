/- What the statements say, of the plain functions. -/
import Derived.Test.YtploijfgnnkddaaGreatDefs
import Derived.Test.YtploijfgnnkddaaGreatLe
import Derived.Test.YtploijfgnnkddaaGreatThInts
import Derived.Test.YtploijfgnnkddaaGreatThPack
import Derived.Test.YtploijfgnnkddaaGreatThMesg
import Derived.Test.YtploijfgnnkddaaGreatThMesg2
import Derived.Test.YtploijfgnnkddaaGreatThMesg3
import Derived.Test.YtploijfgnnkddaaGreatThMesg4
import Derived.Test.YtploijfgnnkddaaGreatThMesg5
import Derived.Test.YtploijfgnnkddaaGreatThMesg6
import Derived.Test.YtploijfgnnkddaaGreatThMsg
import Derived.Test.YtploijfgnnkddaaGreatThMesg7
/- Messages: Encode and Decode, whole. -/
namespace Go.Gp
open Go
structure B2V (m : C3) : Prop where
  h : m.Have.length ≤ 1100000
  n : m.Need.length ≤ 1100000
  k : m.Entry.Cmd.Key.length ≤ 2000000
  v : m.Entry.Cmd.Val.length ≤ 2000000
  o : m.Entry.Cmd.Old.length ≤ 2000000
def B2L (m : C3) : Bool := decide ((m.Kind = 7 ∧ (7 < m.Have.length ∨ 8 < m.Need.length)) ∨ (m.Kind = 5 ∧ 64 < m.Data.length))
open Classical in
noncomputable def B2T (m : C3) : List UInt8 := if OkM m then B2B m else []
def B2J (b : List UInt8) : C3 × Bool := if (B0E b).2 = true then ((B0E b).1, true) else (A4E, false)
end Go.Gp
