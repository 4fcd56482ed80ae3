/- What the statements say, of the plain functions. -/
import Derived.Test.YtploijfgnnkddaaDefs
import Derived.Test.YtploijfgnnkddaaLe
import Derived.Test.YtploijfgnnkddaaThInts
import Derived.Test.YtploijfgnnkddaaThPack
import Derived.Test.YtploijfgnnkddaaThMesg
import Derived.Test.YtploijfgnnkddaaThMesg2
import Derived.Test.YtploijfgnnkddaaThMesg3
import Derived.Test.YtploijfgnnkddaaThMesg4
import Derived.Test.YtploijfgnnkddaaThMesg5
import Derived.Test.YtploijfgnnkddaaThMesg6
import Derived.Test.YtploijfgnnkddaaThMsg
import Derived.Test.YtploijfgnnkddaaThMesg7
import Derived.Test.YtploijfgnnkddaaThMesg8
import Derived.Test.YtploijfgnnkddaaThMesgS
import Derived.Test.YtploijfgnnkddaaGpCrc
import Derived.Test.YtploijfgnnkddaaThCrc
import Derived.Test.YtploijfgnnkddaaThFram
import Derived.Test.YtploijfgnnkddaaThPack1
import Derived.Test.YtploijfgnnkddaaThMesg9
import Derived.Test.YtploijfgnnkddaaThMesg10
import Derived.Test.YtploijfgnnkddaaThRows
import Derived.Test.YtploijfgnnkddaaThMach
import Derived.Test.YtploijfgnnkddaaThMach2
import Derived.Test.YtploijfgnnkddaaThMach3
/- Machines in bytes: the document's Decode. -/
namespace Go.Gp
open Go
def cLock (out : List Int) (x : Int) : Bool := decide (x ∉ out)
def cMap (out : List api_Pair) (p : api_Pair) : Bool := match out.getLast? with | none => true | some q => slt q.Key p.Key
def cTab (out : List api_Last) (l : api_Last) : Bool := decide (1 ≤ l.Sess ∧ 1 ≤ l.Seq) && match out.getLast? with | none => true | some q => decide (q.Sess < l.Sess)
end Go.Gp
