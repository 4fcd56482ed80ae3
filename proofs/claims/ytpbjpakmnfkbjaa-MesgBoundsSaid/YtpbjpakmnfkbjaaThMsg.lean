/- What the statements say, of the plain functions. -/
import Derived.Test.YtpbjpakmnfkbjaaDefs
import Derived.Test.YtpbjpakmnfkbjaaLe
import Derived.Test.YtpbjpakmnfkbjaaThInts
import Derived.Test.YtpbjpakmnfkbjaaThPack
import Derived.Test.YtpbjpakmnfkbjaaThMesg
import Derived.Test.YtpbjpakmnfkbjaaThMesg2
import Derived.Test.YtpbjpakmnfkbjaaThMesg3
import Derived.Test.YtpbjpakmnfkbjaaThMesg4
import Derived.Test.YtpbjpakmnfkbjaaThMesg5
import Derived.Test.YtpbjpakmnfkbjaaThMesg6
/- Messages and entries of numbers: there is one of each number. -/
namespace Go.Gp
open Go
theorem ix_all {α : Type} {xs : List α} {i : Int} {R : α → Prop} (h0 : 0 ≤ i) (h : i < (xs.length : Int)) (hR : ∀ x ∈ xs, R x) : ∃ x, ix xs i = some x ∧ R x :=
  ⟨xs[i.toNat], ix_get h0 (by omega), hR _ (List.getElem_mem _)⟩
theorem band_lt (x m : Int) (k : Nat) (hm : m = 2 ^ k - 1) (hk : k < 63) : 0 ≤ band .i64 x m ∧ band .i64 x m < 2 ^ k := by subst hm; exact band_le x k hk
def CmdOk (c : api_Cmd) : Prop := c.Key.length ≤ 17 ∧ c.Val.length ≤ 17 ∧ c.Old.length ≤ 17
def MsgOk (m : api_Msg) : Prop := m.Data.length ≤ 63 ∧ m.Have.length ≤ 7 ∧ m.Need.length ≤ 7 ∧ CmdOk m.Entry.Cmd
end Go.Gp
