/- What the statements say, of the plain functions. -/
import Derived.Test.YtploijfgnnkddaaDefs
import Derived.Test.YtploijfgnnkddaaLe
import Derived.Test.YtploijfgnnkddaaThInts
import Derived.Test.YtploijfgnnkddaaThPack
import Derived.Test.YtploijfgnnkddaaThMesg
import Derived.Test.YtploijfgnnkddaaThMesg2
import Derived.Test.YtploijfgnnkddaaThMesg3
import Derived.Test.YtploijfgnnkddaaThMesg4
import Derived.Test.YtploijfgnnkddaaThMesg5
import Derived.Test.YtploijfgnnkddaaThMesg6
import Derived.Test.YtploijfgnnkddaaThMsg
import Derived.Test.YtploijfgnnkddaaThMesg7
import Derived.Test.YtploijfgnnkddaaThMesg8
import Derived.Test.YtploijfgnnkddaaThMesgS
import Derived.Test.YtploijfgnnkddaaGpCrc
import Derived.Test.YtploijfgnnkddaaThCrc
import Derived.Test.YtploijfgnnkddaaThFram
import Derived.Test.YtploijfgnnkddaaThPack1
/- Messages, as the document has them. -/
namespace Go.Gp
open Go
theorem put1_eq {e : api_Entry} (h1 : e.Cmd.Key.length ≤ 10000000) (h2 : e.Cmd.Val.length ≤ 10000000) (h3 : e.Cmd.Old.length ≤ 10000000) {b : List UInt8} (hb : b.length ≤ 10000000) : hocketref4_PutEntry.f 2000000 b e = some (b ++ entW e) := by
  unfold hocketref4_PutEntry.f
  have g1 := enc_held e.Sess
  have g2 := enc_held e.Seq
  have g3 := enc_held e.Cmd.Kind
  have g4 := enc_held e.Cmd.Who
  have g5 := enc_len9 (n := e.Cmd.Key.length) (by omega)
  have g6 := enc_len9 (n := e.Cmd.Val.length) (by omega)
  rw [num1_eq (by decide) (by omega)]
  simp only [Option.bind_some]
  rw [num1_eq (by decide) (by simp only [List.length_append]; omega)]
  simp only [Option.bind_some]
  rw [num1_eq (by decide) (by simp only [List.length_append]; omega)]
  simp only [Option.bind_some]
  rw [num1_eq (by decide) (by simp only [List.length_append]; omega)]
  simp only [Option.bind_some]
  rw [bytes1_eq (by decide) (by simp only [List.length_append]; omega) (by omega)]
  simp only [Option.bind_some]
  rw [bytes1_eq (by decide) (by simp only [List.length_append]; omega) (by omega)]
  simp only [Option.bind_some]
  rw [bytes1_eq (by decide) (by simp only [List.length_append]; omega) (by omega)]
  simp only [Option.bind_some]
  unfold entW cmdW
  rw [numsL_cons, numsL_cons, numsL_cons, numsL_cons, numsL_nil]
  simp only [List.append_assoc, List.append_nil]
end Go.Gp
