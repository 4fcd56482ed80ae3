/- What the statements say, of the plain functions. -/
import Derived.Test.YtpbjpakmnfkbjaaDefs
import Derived.Test.YtpbjpakmnfkbjaaLe
import Derived.Test.YtpbjpakmnfkbjaaThInts
import Derived.Test.YtpbjpakmnfkbjaaThPack
import Derived.Test.YtpbjpakmnfkbjaaThMesg
import Derived.Test.YtpbjpakmnfkbjaaThMesg2
import Derived.Test.YtpbjpakmnfkbjaaThMesg3
import Derived.Test.YtpbjpakmnfkbjaaThMesg4
import Derived.Test.YtpbjpakmnfkbjaaThMesg5
import Derived.Test.YtpbjpakmnfkbjaaThMesg6
import Derived.Test.YtpbjpakmnfkbjaaThMsg
import Derived.Test.YtpbjpakmnfkbjaaThMesg7
import Derived.Test.YtpbjpakmnfkbjaaThMesg8
import Derived.Test.YtpbjpakmnfkbjaaThPack1
/- Messages, as the document has them. -/
namespace Go.Gp
open Go
end Go.Gp
