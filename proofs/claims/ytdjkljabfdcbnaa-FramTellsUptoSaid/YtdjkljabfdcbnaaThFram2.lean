/- What the statements say, of the plain functions. -/
import Derived.Test.YtdjkljabfdcbnaaDefs
import Derived.Test.YtdjkljabfdcbnaaLe
import Derived.Test.YtdjkljabfdcbnaaThInts
import Derived.Test.YtdjkljabfdcbnaaThPack
import Derived.Test.YtdjkljabfdcbnaaThMesg
import Derived.Test.YtdjkljabfdcbnaaThMesg2
import Derived.Test.YtdjkljabfdcbnaaThMesg3
import Derived.Test.YtdjkljabfdcbnaaThMesg4
import Derived.Test.YtdjkljabfdcbnaaThMesg5
import Derived.Test.YtdjkljabfdcbnaaThMesg6
import Derived.Test.YtdjkljabfdcbnaaThMsg
import Derived.Test.YtdjkljabfdcbnaaThMesg7
import Derived.Test.YtdjkljabfdcbnaaThMesg8
import Derived.Test.YtdjkljabfdcbnaaGpCrc
import Derived.Test.YtdjkljabfdcbnaaThCrc
import Derived.Test.YtdjkljabfdcbnaaThFram
import Derived.Test.YtdjkljabfdcbnaaThPack1
import Derived.Test.YtdjkljabfdcbnaaThMesg9
import Derived.Test.YtdjkljabfdcbnaaThMesg10
/- Frames, as the document has them. -/
namespace Go.Gp
open Go
theorem wrap1_eq {m : api_Msg} (h1 : m.Have.length < 2900) (h2 : m.Need.length < 2900) : hocketref11_Wrap.f 3000 m = some (wrapM m) := by
  obtain ⟨b, hb1, hb2⟩ := okM_eq h1 h2
  unfold hocketref11_Wrap.f wrapM
  rw [hb1]
  simp only [Option.bind_some]
  cases b with
  | false => rw [if_neg (by simp), if_neg (fun h => by have := hb2.2 h; cases this)]
  | true =>
    have ok := hb2.1 rfl
    have hl := wire_ok_len ok
    rw [if_pos rfl, if_pos ok, encode1_eq h1 h2]
    unfold encM
    rw [if_pos ok]
    simp only [Option.bind_some]
    rw [four_eq (by decide) (by omega) (by omega)]
    rfl
theorem open1_eq {b : List UInt8} (hb : b.length < 3000) : hocketref11_Open.f 3000 b = some (openM b) := by
  unfold hocketref11_Open.f openM
  rw [unfour_eq (by decide) hb (by omega)]
  simp only [Option.bind_some]
  cases hu : unsealB b with
  | none => rfl
  | some x =>
    dsimp only
    have hx : x.length ≤ b.length := by
      have := unsealB_some hu
      rw [this, sealB_len]; omega
    rw [if_pos rfl, decode1_eq (by omega)]
    rfl
theorem wrapM_len (m : api_Msg) : (wrapM m).length ≤ 224 := by
  unfold wrapM
  split
  · rename_i ok
    have := wire_ok_len ok
    rw [sealB_len]; omega
  · simp
theorem decM_rows (b : List UInt8) : (decM b).1.Have.length < 3000 ∧ (decM b).1.Need.length < 3000 := by
  cases h : (decM b).2 with
  | false => rw [decM_no h]; unfold zmsg; simp
  | true =>
    obtain ⟨h1, h2, _⟩ := decM_ok h
    obtain ⟨h3, h4, _, _⟩ := ok_rows h1 h2
    omega
theorem openM_rows (b : List UInt8) : (openM b).1.Have.length < 3000 ∧ (openM b).1.Need.length < 3000 := by
  unfold openM
  cases unsealB b with
  | none => unfold zmsg; simp
  | some x => exact decM_rows x
end Go.Gp
