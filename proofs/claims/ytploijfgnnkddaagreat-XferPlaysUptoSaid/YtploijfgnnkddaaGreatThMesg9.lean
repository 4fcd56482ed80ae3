/- What the statements say, of the plain functions. -/
import Derived.Test.YtploijfgnnkddaaGreatDefs
import Derived.Test.YtploijfgnnkddaaGreatLe
import Derived.Test.YtploijfgnnkddaaGreatThInts
import Derived.Test.YtploijfgnnkddaaGreatThPack
import Derived.Test.YtploijfgnnkddaaGreatThMesg
import Derived.Test.YtploijfgnnkddaaGreatThMesg2
import Derived.Test.YtploijfgnnkddaaGreatThMesg3
import Derived.Test.YtploijfgnnkddaaGreatThMesg4
import Derived.Test.YtploijfgnnkddaaGreatThMesg5
import Derived.Test.YtploijfgnnkddaaGreatThMesg6
import Derived.Test.YtploijfgnnkddaaGreatThMsg
import Derived.Test.YtploijfgnnkddaaGreatThMesg7
import Derived.Test.YtploijfgnnkddaaGreatThMesg8
import Derived.Test.YtploijfgnnkddaaGreatThMesgS
import Derived.Test.YtploijfgnnkddaaGreatGpCrc
import Derived.Test.YtploijfgnnkddaaGreatThCrc
import Derived.Test.YtploijfgnnkddaaGreatThFram
import Derived.Test.YtploijfgnnkddaaGreatThPack1
/- Messages, as the document has them. -/
namespace Go.Gp
open Go
theorem B1b {e : B8} (h1 : e.Cmd.Key.length ≤ 10000000) (h2 : e.Cmd.Val.length ≤ 10000000) (h3 : e.Cmd.Old.length ≤ 10000000) {b : List UInt8} (hb : b.length ≤ 10000000) : Y2.f 2000000000 b e = some (b ++ A1y e) := by
  unfold Y2.f; have g1 := A2l e.Sess; have g2 := A2l e.Seq; have g3 := A2l e.Cmd.Kind; have g4 := A2l e.Cmd.Who; have g5 := Z8 (n := e.Cmd.Key.length) (by omega); have g6 := Z8 (n := e.Cmd.Val.length) (by omega); rw [A3y (by decide) (by omega)]; simp only [Option.bind_some]; rw [A3y (by decide) (by simp only [List.length_append]; omega)]; simp only [Option.bind_some]; rw [A3y (by decide) (by simp only [List.length_append]; omega)]; simp only [Option.bind_some]; rw [A3y (by decide) (by simp only [List.length_append]; omega)]; simp only [Option.bind_some]; rw [A3W (by decide) (by simp only [List.length_append]; omega) (by omega)]; simp only [Option.bind_some]; rw [A3W (by decide) (by simp only [List.length_append]; omega) (by omega)]; simp only [Option.bind_some]; rw [A3W (by decide) (by simp only [List.length_append]; omega) (by omega)]; simp only [Option.bind_some]; unfold A1y A6n; rw [V2, V2, V2, V2, A2h]; simp only [List.append_assoc, List.append_nil]
end Go.Gp
