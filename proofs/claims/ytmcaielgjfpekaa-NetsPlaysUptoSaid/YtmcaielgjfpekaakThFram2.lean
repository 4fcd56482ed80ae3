/- What the statements say, of the plain functions. -/
import Derived.Test.YtmcaielgjfpekaaDefs
import Derived.Test.YtmcaielgjfpekaaLe
import Derived.Test.YtmcaielgjfpekaakThInts
import Derived.Test.YtmcaielgjfpekaakThPack
import Derived.Test.YtmcaielgjfpekaakThMesg
import Derived.Test.YtmcaielgjfpekaakThMesg2
import Derived.Test.YtmcaielgjfpekaakThMesg3
import Derived.Test.YtmcaielgjfpekaakThMesg4
import Derived.Test.YtmcaielgjfpekaakThMesg5
import Derived.Test.YtmcaielgjfpekaakThMesg6
import Derived.Test.YtmcaielgjfpekaakThMsg
import Derived.Test.YtmcaielgjfpekaakThMesg7
import Derived.Test.YtmcaielgjfpekaakThMesg8
import Derived.Test.YtmcaielgjfpekaakThMesgS
import Derived.Test.YtmcaielgjfpekaaGpCrc
import Derived.Test.YtmcaielgjfpekaakThCrc
import Derived.Test.YtmcaielgjfpekaakThFram
import Derived.Test.YtmcaielgjfpekaakThPack1
import Derived.Test.YtmcaielgjfpekaakThMesg9
import Derived.Test.YtmcaielgjfpekaakThMesg10
/- Frames, as the document has them. -/
namespace Go.Gp
open Go
theorem wrap1_eq {m : api_Msg} (h1 : m.Have.length < 1999900) (h2 : m.Need.length < 1999900) : hocketref11_Wrap.f 2000000 m = some (wrapM m) := by
  obtain ⟨b, hb1, hb2⟩ := okM_eq h1 h2
  unfold hocketref11_Wrap.f wrapM
  rw [hb1]
  simp only [Option.bind_some]
  cases b with
  | false => rw [if_neg (by simp), if_neg (fun h => by have := hb2.2 h; cases this)]
  | true =>
    have ok := hb2.1 rfl
    have hl := wire_ok_len ok
    rw [if_pos rfl, if_pos ok, encode1_eq h1 h2]
    unfold encM
    rw [if_pos ok]
    simp only [Option.bind_some]
    rw [four_eq (by decide) (by omega) (by omega)]
    rfl
theorem open1_eq {b : List UInt8} (hb : b.length < 2000000) : hocketref11_Open.f 2000000 b = some (openM b) := by
  unfold hocketref11_Open.f openM
  rw [unfour_eq (by decide) hb (by omega)]
  simp only [Option.bind_some]
  cases hu : unsealB b with
  | none => rfl
  | some x =>
    dsimp only
    have hx : x.length ≤ b.length := by
      have := unsealB_some hu
      rw [this, sealB_len]; omega
    rw [if_pos rfl, decode1_eq (by omega)]
    rfl
theorem wrapM_len (m : api_Msg) : (wrapM m).length ≤ 224 := by
  unfold wrapM
  split
  · rename_i ok
    have := wire_ok_len ok
    rw [sealB_len]; omega
  · simp
theorem openM_rows (b : List UInt8) : (openM b).1.Have.length < 2000000 ∧ (openM b).1.Need.length < 2000000 := by
  unfold openM
  cases unsealB b with
  | none => unfold zmsg; simp
  | some x => exact decM_rows x
end Go.Gp
