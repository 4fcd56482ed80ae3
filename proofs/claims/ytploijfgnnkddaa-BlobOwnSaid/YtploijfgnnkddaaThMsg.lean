/- What the statements say, of the plain functions. -/
import Derived.Test.YtploijfgnnkddaaDefs
import Derived.Test.YtploijfgnnkddaaLe
import Derived.Test.YtploijfgnnkddaaThInts
import Derived.Test.YtploijfgnnkddaaThPack
import Derived.Test.YtploijfgnnkddaaThMesg
import Derived.Test.YtploijfgnnkddaaThMesg2
import Derived.Test.YtploijfgnnkddaaThMesg3
import Derived.Test.YtploijfgnnkddaaThMesg4
import Derived.Test.YtploijfgnnkddaaThMesg5
import Derived.Test.YtploijfgnnkddaaThMesg6
/- Messages and entries of numbers: there is one of each number. -/
namespace Go.Gp
open Go
theorem ix_all {α : Type} {xs : List α} {i : Int} {R : α → Prop} (h0 : 0 ≤ i) (h : i < (xs.length : Int)) (hR : ∀ x ∈ xs, R x) : ∃ x, ix xs i = some x ∧ R x :=
  ⟨xs[i.toNat], ix_get h0 (by omega), hR _ (List.getElem_mem _)⟩
theorem band_lt (x m : Int) (k : Nat) (hm : m = 2 ^ k - 1) (hk : k < 63) : 0 ≤ band .i64 x m ∧ band .i64 x m < 2 ^ k := by subst hm; exact band_le x k hk
theorem keys_ok (x : Int) : ∃ r, hocketlaw7_Keys.f x = some r ∧ r.length ≤ 17 := by
  unfold hocketlaw7_Keys.f
  have hb := band_lt x 15 4 rfl (by decide)
  obtain ⟨r, h1, h2⟩ := ix_all (R := fun r : List UInt8 => r.length ≤ 17) hb.1 (xs := ([([] : List UInt8), ([97] : List UInt8), ([98] : List UInt8), ([99] : List UInt8), ([97, 98] : List UInt8), ([97, 98, 99] : List UInt8), ([122] : List UInt8), ([0] : List UInt8), ([255] : List UInt8), ([97, 98, 99, 100, 101, 102, 103, 104] : List UInt8), ([97, 98, 99, 100, 101, 102, 103, 104, 105] : List UInt8), ([107, 49] : List UInt8), ([107, 50] : List UInt8), ([107, 51] : List UInt8), ([107, 52] : List UInt8), ([107, 53] : List UInt8)] : List (List UInt8))) (by simp; omega) (by decide)
  refine ⟨r, ?_, h2⟩
  rw [h1]
  simp only [Option.bind_some]
  rw [must_eq (by omega)]
  rfl
def CmdOk (c : api_Cmd) : Prop := c.Key.length ≤ 17 ∧ c.Val.length ≤ 17 ∧ c.Old.length ≤ 17
def MsgOk (m : api_Msg) : Prop := m.Data.length ≤ 63 ∧ m.Have.length ≤ 7 ∧ m.Need.length ≤ 7 ∧ CmdOk m.Entry.Cmd
end Go.Gp
