/- What the statements say, of the plain functions. -/
import Derived.Test.YtploijfgnnkddaaDefs
import Derived.Test.YtploijfgnnkddaaLe
import Derived.Test.YtploijfgnnkddaaThInts
import Derived.Test.YtploijfgnnkddaaThPack
import Derived.Test.YtploijfgnnkddaaThMesg
import Derived.Test.YtploijfgnnkddaaThMesg2
import Derived.Test.YtploijfgnnkddaaThMesg3
import Derived.Test.YtploijfgnnkddaaThMesg4
import Derived.Test.YtploijfgnnkddaaThMesg5
import Derived.Test.YtploijfgnnkddaaThMesg6
import Derived.Test.YtploijfgnnkddaaThMsg
import Derived.Test.YtploijfgnnkddaaThMesg7
import Derived.Test.YtploijfgnnkddaaThMesg8
/- Messages held against each other, as the document has it. -/
namespace Go.Gp
open Go
/-! ### Same, as the document has it -/
theorem and_step {p q : Prop} [Decidable p] [Decidable q] {x : Option Bool} (h : p → x = some (decide q)) : (if p then x else some false) = some (decide (p ∧ q)) := by
  by_cases hp : p
  · rw [if_pos hp, h hp]; simp [hp]
  · rw [if_neg hp]; simp [hp]
theorem entry1_same (a b : api_Entry) : hocketref4_SameEntry.f a b = some (decide (a = b)) := by
  obtain ⟨s, q, ⟨k, w, x, y, z⟩⟩ := a
  obtain ⟨s', q', ⟨k', w', x', y', z'⟩⟩ := b
  unfold hocketref4_SameEntry.f
  rw [show some (decide ((⟨s, q, ⟨k, w, x, y, z⟩⟩ : api_Entry) = ⟨s', q', ⟨k', w', x', y', z'⟩⟩)) = some (decide (s = s' ∧ q = q' ∧ k = k' ∧ w = w' ∧ x = x' ∧ y = y' ∧ z = z')) from congrArg some (decide_eq_decide.2 (by rw [api_Entry.mk.injEq, api_Cmd.mk.injEq]))]
  dsimp only
  refine and_step fun _ => and_step fun _ => and_step fun _ => and_step fun _ => and_step fun _ => and_step fun _ => ?_
  rw [Bool.beq_eq_decide_eq]
end Go.Gp
