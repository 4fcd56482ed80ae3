/- What the statements say, of the plain functions. -/
import Derived.Test.YtploijfgnnkddaaDefs
import Derived.Test.YtploijfgnnkddaaLe
import Derived.Test.YtploijfgnnkddaaThInts
import Derived.Test.YtploijfgnnkddaaThPack
import Derived.Test.YtploijfgnnkddaaThMesg
import Derived.Test.YtploijfgnnkddaaThMesg2
import Derived.Test.YtploijfgnnkddaaThMesg3
import Derived.Test.YtploijfgnnkddaaThMesg4
/- Messages: what is read is what was written. -/
namespace Go.Gp
open Go
end Go.Gp
