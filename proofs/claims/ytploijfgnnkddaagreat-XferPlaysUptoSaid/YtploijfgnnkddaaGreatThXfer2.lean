/- What the statements say, of the plain functions. -/
import Derived.Test.YtploijfgnnkddaaGreatDefs
import Derived.Test.YtploijfgnnkddaaGreatLe
import Derived.Test.YtploijfgnnkddaaGreatThInts
import Derived.Test.YtploijfgnnkddaaGreatThPack
import Derived.Test.YtploijfgnnkddaaGreatThMesg
import Derived.Test.YtploijfgnnkddaaGreatThMesg2
import Derived.Test.YtploijfgnnkddaaGreatThMesg3
import Derived.Test.YtploijfgnnkddaaGreatThMesg4
import Derived.Test.YtploijfgnnkddaaGreatThMesg5
import Derived.Test.YtploijfgnnkddaaGreatThMesg6
import Derived.Test.YtploijfgnnkddaaGreatThMsg
import Derived.Test.YtploijfgnnkddaaGreatThMesg7
import Derived.Test.YtploijfgnnkddaaGreatThMesg8
import Derived.Test.YtploijfgnnkddaaGreatThMesgS
import Derived.Test.YtploijfgnnkddaaGreatGpCrc
import Derived.Test.YtploijfgnnkddaaGreatThCrc
import Derived.Test.YtploijfgnnkddaaGreatThFram
import Derived.Test.YtploijfgnnkddaaGreatThPack1
import Derived.Test.YtploijfgnnkddaaGreatThMesg9
import Derived.Test.YtploijfgnnkddaaGreatThMesg10
import Derived.Test.YtploijfgnnkddaaGreatThRows
import Derived.Test.YtploijfgnnkddaaGreatThMach
import Derived.Test.YtploijfgnnkddaaGreatThMach2
import Derived.Test.YtploijfgnnkddaaGreatThMach3
import Derived.Test.YtploijfgnnkddaaGreatThMach4
import Derived.Test.YtploijfgnnkddaaGreatThBlob
import Derived.Test.YtploijfgnnkddaaGreatThBlob2
import Derived.Test.YtploijfgnnkddaaGreatThStep
import Derived.Test.YtploijfgnnkddaaGreatThState
import Derived.Test.YtploijfgnnkddaaGreatThXfer
/- A state that comes over in chunks, one behind the other. -/
namespace Go.Gp
open Go
def mkF (f : A1z) : R2 := ⟨f.1, f.2.1, f.2.2.1, f.2.2.2.1, f.2.2.2.2.1, f.2.2.2.2.2.1, f.2.2.2.2.2.2⟩
def fT (t : List UInt8) (j : Nat) : A1z := if j = 0 then A0d else (8, 1, 2, t.take (64 * j), (t.length : Int), true, decide (t.length ≤ 64 * j))
def chk (t : List UInt8) (j : Nat) : C3 := A1k t (Y1 (fT t j)) ((t.drop (64 * j)).take 64)
theorem B0P {f : A1z} {m : C3} (h : ¬A3X f.1 f.2.2.1 f.2.2.2.1 f.2.2.2.2.1 f.2.2.2.2.2.1 f.2.2.2.2.2.2 m) : A0u f m = (false, f) := if_neg h
end Go.Gp
