/- What the statements say, of the plain functions. -/
import Derived.Test.YtploijfgnnkddaaDefs
import Derived.Test.YtploijfgnnkddaaLe
import Derived.Test.YtploijfgnnkddaaThInts
import Derived.Test.YtploijfgnnkddaaThPack
import Derived.Test.YtploijfgnnkddaaThMesg
import Derived.Test.YtploijfgnnkddaaThMesg2
import Derived.Test.YtploijfgnnkddaaThMesg3
import Derived.Test.YtploijfgnnkddaaThMesg4
import Derived.Test.YtploijfgnnkddaaThMesg5
import Derived.Test.YtploijfgnnkddaaThMesg6
import Derived.Test.YtploijfgnnkddaaThMsg
import Derived.Test.YtploijfgnnkddaaThMesg7
import Derived.Test.YtploijfgnnkddaaThMesg8
import Derived.Test.YtploijfgnnkddaaThMesgS
import Derived.Test.YtploijfgnnkddaaGpCrc
import Derived.Test.YtploijfgnnkddaaThCrc
import Derived.Test.YtploijfgnnkddaaThFram
import Derived.Test.YtploijfgnnkddaaThPack1
import Derived.Test.YtploijfgnnkddaaThMesg9
import Derived.Test.YtploijfgnnkddaaThMesg10
import Derived.Test.YtploijfgnnkddaaThRows
import Derived.Test.YtploijfgnnkddaaThMach
import Derived.Test.YtploijfgnnkddaaThMach2
import Derived.Test.YtploijfgnnkddaaThMach3
import Derived.Test.YtploijfgnnkddaaThMach4
import Derived.Test.YtploijfgnnkddaaThBlob
import Derived.Test.YtploijfgnnkddaaThBlob2
import Derived.Test.YtploijfgnnkddaaThStep
/- States of numbers; what is cut, or turned. -/
namespace Go.Gp
open Go
/-! ### what is cut -/
def rdSt : Rdr (Int × List UInt8 × List api_Entry) := rd2 Prod.mk (rnum big) (rd2 Prod.mk (rbytes 1048576) rdRest)
/-! ### what the document fixes -/
def s3 : api_State := ⟨3, (⟨(⟨([] : List UInt8), ([] : List (List UInt8)), ([] : List Int), ([] : List api_Pair)⟩ : api_Objects), ([] : List api_Last)⟩ : api_Machine), ([(⟨1, 1, (⟨1, 0, ([] : List UInt8), ([] : List UInt8), ([] : List UInt8)⟩ : api_Cmd)⟩ : api_Entry)] : List api_Entry)⟩
theorem okS_of (n : Int) (hn : 0 ≤ n ∧ n ≤ 1000) (l : List api_Entry) (hl : l.length ≤ 64) (he : ∀ e ∈ l, EntOk e) : OkS ⟨n, zmach, l⟩ := by
  obtain ⟨h1, h2⟩ := okM_rd zmach_ok
  exact ⟨hn.1, by unfold big; simp only; omega, h1, h2, hl, he⟩
theorem enc1 {n : Nat} (h : n < 128) : enc n = [UInt8.ofNat n] := enc_lt h
theorem machW0 : machW zmach = [0, 0, 0, 0, 0] := by
  unfold machW bytesW rowW zmach
  simp only [List.length_nil, List.map_nil, List.flatten_nil, List.append_nil]
  rw [enc1 (by decide)]
  rfl
end Go.Gp
