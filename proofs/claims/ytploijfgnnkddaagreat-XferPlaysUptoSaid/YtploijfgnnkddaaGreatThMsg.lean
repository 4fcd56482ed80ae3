/- What the statements say, of the plain functions. -/
import Derived.Test.YtploijfgnnkddaaGreatDefs
import Derived.Test.YtploijfgnnkddaaGreatLe
import Derived.Test.YtploijfgnnkddaaGreatThInts
import Derived.Test.YtploijfgnnkddaaGreatThPack
import Derived.Test.YtploijfgnnkddaaGreatThMesg
import Derived.Test.YtploijfgnnkddaaGreatThMesg2
import Derived.Test.YtploijfgnnkddaaGreatThMesg3
import Derived.Test.YtploijfgnnkddaaGreatThMesg4
import Derived.Test.YtploijfgnnkddaaGreatThMesg5
import Derived.Test.YtploijfgnnkddaaGreatThMesg6
/- Messages and entries of numbers: there is one of each number. -/
namespace Go.Gp
open Go
theorem A5L {α : Type} {xs : List α} {i : Int} {R : α → Prop} (h0 : 0 ≤ i) (h : i < (xs.length : Int)) (hR : ∀ x ∈ xs, R x) : ∃ x, ix xs i = some x ∧ R x :=
  ⟨xs[i.toNat], O7 h0 (by omega), hR _ (List.getElem_mem _)⟩
theorem A1o (x m : Int) (k : Nat) (hm : m = 2 ^ k - 1) (hk : k < 63) : 0 ≤ F0 .i64 x m ∧ F0 .i64 x m < 2 ^ k := by subst hm; exact B1w x k hk
theorem B1j (x : Int) : ∃ r, A0D.f x = some r ∧ r.length ≤ 17 := by
  unfold A0D.f; have hb := A1o x 15 4 rfl (by decide); obtain ⟨r, h1, h2⟩ := A5L (R := fun r : List UInt8 => r.length ≤ 17) hb.1 (xs := ([([] : List UInt8), ([97] : List UInt8), ([98] : List UInt8), ([99] : List UInt8), ([97, 98] : List UInt8), ([97, 98, 99] : List UInt8), ([122] : List UInt8), ([0] : List UInt8), ([255] : List UInt8), ([97, 98, 99, 100, 101, 102, 103, 104] : List UInt8), ([97, 98, 99, 100, 101, 102, 103, 104, 105] : List UInt8), ([107, 49] : List UInt8), ([107, 50] : List UInt8), ([107, 51] : List UInt8), ([107, 52] : List UInt8), ([107, 53] : List UInt8)] : List (List UInt8))) (by simp; omega) (by decide); refine ⟨r, ?_, h2⟩; rw [h1]; simp only [Option.bind_some]; rw [A2U (by omega)]
  rfl
def B0I (c : L6) : Prop := c.Key.length ≤ 17 ∧ c.Val.length ≤ 17 ∧ c.Old.length ≤ 17
def B2Q (m : C3) : Prop := m.Data.length ≤ 63 ∧ m.Have.length ≤ 7 ∧ m.Need.length ≤ 7 ∧ B0I m.Entry.Cmd
end Go.Gp
