/- What the statements say, of the plain functions. -/
import Derived.Test.YtploijfgnnkddaaGreatDefs
import Derived.Test.YtploijfgnnkddaaGreatLe
import Derived.Test.YtploijfgnnkddaaGreatThInts
import Derived.Test.YtploijfgnnkddaaGreatThPack
import Derived.Test.YtploijfgnnkddaaGreatThMesg
import Derived.Test.YtploijfgnnkddaaGreatThMesg2
import Derived.Test.YtploijfgnnkddaaGreatThMesg3
import Derived.Test.YtploijfgnnkddaaGreatThMesg4
import Derived.Test.YtploijfgnnkddaaGreatThMesg5
import Derived.Test.YtploijfgnnkddaaGreatThMesg6
import Derived.Test.YtploijfgnnkddaaGreatThMsg
import Derived.Test.YtploijfgnnkddaaGreatThMesg7
import Derived.Test.YtploijfgnnkddaaGreatThMesg8
import Derived.Test.YtploijfgnnkddaaGreatThMesgS
import Derived.Test.YtploijfgnnkddaaGreatGpCrc
import Derived.Test.YtploijfgnnkddaaGreatThCrc
import Derived.Test.YtploijfgnnkddaaGreatThFram
import Derived.Test.YtploijfgnnkddaaGreatThPack1
import Derived.Test.YtploijfgnnkddaaGreatThMesg9
import Derived.Test.YtploijfgnnkddaaGreatThMesg10
import Derived.Test.YtploijfgnnkddaaGreatThRows
import Derived.Test.YtploijfgnnkddaaGreatThMach
import Derived.Test.YtploijfgnnkddaaGreatThMach2
import Derived.Test.YtploijfgnnkddaaGreatThMach3
/- Machines in bytes: the document's Decode. -/
namespace Go.Gp
open Go
def cLock (out : List Int) (x : Int) : Bool := decide (x ∉ out)
def cMap (out : List api_Pair) (p : api_Pair) : Bool := match out.getLast? with | none => true | some q => slt q.Key p.Key
def cTab (out : List api_Last) (l : api_Last) : Bool := decide (1 ≤ l.Sess ∧ 1 ≤ l.Seq) && match out.getLast? with | none => true | some q => decide (q.Sess < l.Sess)
end Go.Gp
