/- What the statements say, of the plain functions. -/
import Derived.Test.YtpbjpakmnfkbjaaDefs
import Derived.Test.YtpbjpakmnfkbjaaLe
import Derived.Test.YtpbjpakmnfkbjaaThInts
import Derived.Test.YtpbjpakmnfkbjaaThPack
import Derived.Test.YtpbjpakmnfkbjaaThMesg
import Derived.Test.YtpbjpakmnfkbjaaThMesg2
import Derived.Test.YtpbjpakmnfkbjaaThMesg3
import Derived.Test.YtpbjpakmnfkbjaaThMesg4
import Derived.Test.YtpbjpakmnfkbjaaThMesg5
import Derived.Test.YtpbjpakmnfkbjaaThMesg6
import Derived.Test.YtpbjpakmnfkbjaaThMsg
/- Messages of numbers are such as may be, and name nothing else. -/
namespace Go.Gp
open Go
structure CmdNum (c : api_Cmd) : Prop where
  k : 0 ≤ c.Kind ∧ c.Kind ≤ 31
  w : -20 ≤ c.Who ∧ c.Who ≤ 2047
  l : CmdOk c
end Go.Gp
