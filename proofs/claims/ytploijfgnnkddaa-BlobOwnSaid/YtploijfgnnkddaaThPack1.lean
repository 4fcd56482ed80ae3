/- What the statements say, of the plain functions. -/
import Derived.Test.YtploijfgnnkddaaDefs
import Derived.Test.YtploijfgnnkddaaLe
import Derived.Test.YtploijfgnnkddaaThInts
import Derived.Test.YtploijfgnnkddaaThPack
import Derived.Test.YtploijfgnnkddaaThMesg
import Derived.Test.YtploijfgnnkddaaThMesg2
import Derived.Test.YtploijfgnnkddaaThMesg3
import Derived.Test.YtploijfgnnkddaaThMesg4
import Derived.Test.YtploijfgnnkddaaThMesg5
import Derived.Test.YtploijfgnnkddaaThMesg6
import Derived.Test.YtploijfgnnkddaaThMsg
import Derived.Test.YtploijfgnnkddaaThMesg7
import Derived.Test.YtploijfgnnkddaaThMesg8
import Derived.Test.YtploijfgnnkddaaThMesgS
import Derived.Test.YtploijfgnnkddaaGpCrc
import Derived.Test.YtploijfgnnkddaaThCrc
import Derived.Test.YtploijfgnnkddaaThFram
/- Numbers as bytes, in plain words: what the document's reader tells. -/
namespace Go.Gp
open Go
def rnum1 (top : Int) (b : List UInt8) (bad : Bool) : Int × List UInt8 × Bool :=
  if bad = true then (0, b, true) else match rd top b with
  | some p => ((p.1 : Int), p.2, false)
  | none => (0, b, true)
def rbytes1 (top : Int) (b : List UInt8) (bad : Bool) : List UInt8 × List UInt8 × Bool :=
  if bad = true then ([], b, true) else match rdB top b with
  | some p => (p.1, p.2, false)
  | none => ([], b, true)
/-- What both readers hold, side by side. -/
def RR (b : List UInt8) (bad : Bool) (B : List UInt8) (Bad : Bool) : Prop := bad = Bad ∧ (if bad = true then b = [] else b = B)
theorem rdB_nil (top : Int) : rdB top [] = none := rfl
theorem RR.bytes {b B : List UInt8} {bad Bad : Bool} (h : RR b bad B Bad) (top : Int) : (rbytes top b bad).1 = (rbytes1 top B Bad).1 ∧ RR (rbytes top b bad).2.1 (rbytes top b bad).2.2 (rbytes1 top B Bad).2.1 (rbytes1 top B Bad).2.2 := by
  obtain ⟨rfl, h⟩ := h
  unfold rbytes rbytes1 RR
  cases bad with
  | true =>
    have h : b = [] := by simpa using h
    subst h
    rw [rdB_nil]; simp
  | false =>
    have h : b = B := by simpa using h
    subst h
    rw [if_neg (by simp)]
    cases rdB top b <;> simp
theorem rnum_le (top : Int) (b : List UInt8) (bad : Bool) : (rnum top b bad).2.1.length ≤ b.length := by
  unfold rnum
  cases h : rd top b with
  | none => simp
  | some p => exact Nat.le_of_lt (rd_len (n := p.1) (r := p.2) h)
theorem rbytes_le (top : Int) (b : List UInt8) (bad : Bool) : (rbytes top b bad).2.1.length ≤ b.length ∧ (rbytes top b bad).1.length ≤ b.length := by
  unfold rbytes
  cases h : rdB top b with
  | none => simp
  | some p =>
    have := rdB_some (x := p.1) (r := p.2) h
    have e := congrArg List.length this.2
    simp only [List.length_append] at e
    simp only; omega
end Go.Gp
