/- What the statements say, of the plain functions. -/
import Derived.Test.YtploijfgnnkddaaDefs
import Derived.Test.YtploijfgnnkddaaLe
import Derived.Test.YtploijfgnnkddaaThInts
import Derived.Test.YtploijfgnnkddaaThPack
import Derived.Test.YtploijfgnnkddaaThMesg
import Derived.Test.YtploijfgnnkddaaThMesg2
import Derived.Test.YtploijfgnnkddaaThMesg3
import Derived.Test.YtploijfgnnkddaaThMesg4
import Derived.Test.YtploijfgnnkddaaThMesg5
import Derived.Test.YtploijfgnnkddaaThMesg6
import Derived.Test.YtploijfgnnkddaaThMsg
/- Messages of numbers are such as may be, and name nothing else. -/
namespace Go.Gp
open Go
structure CmdNum (c : api_Cmd) : Prop where
  k : 0 ≤ c.Kind ∧ c.Kind ≤ 31
  w : -20 ≤ c.Who ∧ c.Who ≤ 2047
  l : CmdOk c
end Go.Gp
