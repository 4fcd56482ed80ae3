/- What the statements say, of the plain functions. -/
import Derived.Test.YtploijfgnnkddaaDefs
import Derived.Test.YtploijfgnnkddaaLe
import Derived.Test.YtploijfgnnkddaaThInts
import Derived.Test.YtploijfgnnkddaaThPack
import Derived.Test.YtploijfgnnkddaaThMesg
import Derived.Test.YtploijfgnnkddaaThMesg2
import Derived.Test.YtploijfgnnkddaaThMesg3
import Derived.Test.YtploijfgnnkddaaThMesg4
import Derived.Test.YtploijfgnnkddaaThMesg5
import Derived.Test.YtploijfgnnkddaaThMesg6
import Derived.Test.YtploijfgnnkddaaThMsg
import Derived.Test.YtploijfgnnkddaaThMesg7
import Derived.Test.YtploijfgnnkddaaThMesg8
import Derived.Test.YtploijfgnnkddaaThMesgS
import Derived.Test.YtploijfgnnkddaaGpCrc
import Derived.Test.YtploijfgnnkddaaThCrc
import Derived.Test.YtploijfgnnkddaaThFram
import Derived.Test.YtploijfgnnkddaaThPack1
import Derived.Test.YtploijfgnnkddaaThMesg9
import Derived.Test.YtploijfgnnkddaaThMesg10
import Derived.Test.YtploijfgnnkddaaThRows
import Derived.Test.YtploijfgnnkddaaThMach
import Derived.Test.YtploijfgnnkddaaThMach2
import Derived.Test.YtploijfgnnkddaaThMach3
import Derived.Test.YtploijfgnnkddaaThMach4
import Derived.Test.YtploijfgnnkddaaThBlob
/- States in bytes: the document's Decode, states held against each other, parts. -/
namespace Go.Gp
open Go
/-! ### held against each other -/
/-! ### parts -/
def partB (b : List UInt8) (at_ : Int) : List UInt8 × Bool := if 0 ≤ at_ ∧ at_ < (b.length : Int) then ((b.drop at_.toNat).take 64, true) else ([], false)
theorem part_eq {b : List UInt8} (hb : b.length ≤ 140737488355328) {at_ : Int} (_ha : i64ok at_) : blob_Part.f b at_ = some (partB b at_) := by
  unfold blob_Part.f partB blob_Part.J1
  by_cases h0 : at_ < 0
  · rw [if_pos h0, if_pos rfl, if_neg (by omega)]
  · rw [if_neg h0]
    by_cases h1 : at_ ≥ (b.length : Int)
    · rw [decide_eq_true h1, if_pos rfl, if_neg (by omega)]
    · have hm : mn (w64 (at_ + 64)) (b.length : Int) = min (at_ + 64) (b.length : Int) := by rw [mn_eq, w64_id (by omega)]
      rw [decide_eq_false h1, if_neg (by simp), if_pos (by omega), hm, cut_eq ⟨by omega, by omega, by omega⟩]
      simp only [Option.bind_some]
      have e : List.drop at_.toNat (List.take (min (at_ + 64) (b.length : Int)).toNat b) = (b.drop at_.toNat).take 64 := by
        rw [List.drop_take]
        by_cases hc : at_ + 64 ≤ (b.length : Int)
        · rw [show (min (at_ + 64) (b.length : Int)).toNat - at_.toNat = 64 by omega]
        · rw [List.take_of_length_le (by rw [List.length_drop]; omega), List.take_of_length_le (by rw [List.length_drop]; omega)]
      rw [e, clone_u8 (by rw [List.length_take]; omega)]
      rfl
end Go.Gp
