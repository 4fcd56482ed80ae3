/- What the statements say, of the plain functions. -/
import Derived.Test.YtpbjpakmnfkbjaaDefs
import Derived.Test.YtpbjpakmnfkbjaaLe
/- Rows of numbers: sought in, compared. -/
namespace Go.Gp
open Go
/-- Where a number stands first; -1: nowhere. -/
def posn (xs : List Int) (y : Int) : Int := match xs.findIdx? (fun x => decide (x = y)) with | some k => (k : Int) | none => -1
theorem posn_cases (xs : List Int) (y : Int) : (posn xs y = -1 ∧ y ∉ xs) ∨ ∃ i : Nat, posn xs y = i ∧ i < xs.length ∧ xs[i]? = some y ∧ y ∈ xs ∧ xs.take i ++ xs.drop (i + 1) = xs.erase y := by
  unfold posn
  cases h : xs.findIdx? (fun x => decide (x = y)) with
  | none => exact .inl ⟨rfl, find_none y xs h⟩
  | some k => obtain ⟨h1, h2, h3⟩ := find_erase y xs k h; exact .inr ⟨k, rfl, h1, h2, find_mem h, h3⟩
end Go.Gp
