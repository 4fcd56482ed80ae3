/- What the statements say, of the plain functions. -/
import Derived.Test.YtploijfgnnkddaaGreatDefs
import Derived.Test.YtploijfgnnkddaaGreatLe
import Derived.Test.YtploijfgnnkddaaGreatThInts
import Derived.Test.YtploijfgnnkddaaGreatThPack
import Derived.Test.YtploijfgnnkddaaGreatThMesg
import Derived.Test.YtploijfgnnkddaaGreatThMesg2
import Derived.Test.YtploijfgnnkddaaGreatThMesg3
import Derived.Test.YtploijfgnnkddaaGreatThMesg4
import Derived.Test.YtploijfgnnkddaaGreatThMesg5
import Derived.Test.YtploijfgnnkddaaGreatThMesg6
import Derived.Test.YtploijfgnnkddaaGreatThMsg
import Derived.Test.YtploijfgnnkddaaGreatThMesg7
import Derived.Test.YtploijfgnnkddaaGreatThMesg8
/- Messages held against each other, as the document has it. -/
namespace Go.Gp
open Go
theorem and_step {p q : Prop} [Decidable p] [Decidable q] {x : Option Bool} (h : p → x = some (decide q)) : (if p then x else some false) = some (decide (p ∧ q)) := by
  by_cases hp : p
  · rw [if_pos hp, h hp]; simp [hp]
  · rw [if_neg hp]; simp [hp]
theorem and_step2 {p q : Prop} [Decidable p] [Decidable q] {x : Option Bool} (h : p → x = some (decide q)) : (if decide p = true then x else some false) = some (decide (p ∧ q)) := by
  by_cases hp : p
  · rw [if_pos (by simpa using hp), h hp]; simp [hp]
  · rw [if_neg (by simpa using hp)]; simp [hp]
theorem entry1_same (a b : api_Entry) : hocketref4_SameEntry.f a b = some (decide (a = b)) := by
  obtain ⟨s, q, ⟨k, w, x, y, z⟩⟩ := a
  obtain ⟨s', q', ⟨k', w', x', y', z'⟩⟩ := b
  unfold hocketref4_SameEntry.f
  rw [show some (decide ((⟨s, q, ⟨k, w, x, y, z⟩⟩ : api_Entry) = ⟨s', q', ⟨k', w', x', y', z'⟩⟩)) = some (decide (s = s' ∧ q = q' ∧ k = k' ∧ w = w' ∧ x = x' ∧ y = y' ∧ z = z')) from congrArg some (decide_eq_decide.2 (by rw [api_Entry.mk.injEq, api_Cmd.mk.injEq]))]
  dsimp only
  refine and_step fun _ => and_step fun _ => and_step fun _ => and_step fun _ => and_step fun _ => and_step fun _ => ?_
  rw [Bool.beq_eq_decide_eq]
theorem same_eq {a b : api_Msg} (h1 : a.Have.length < 2000000) (h2 : a.Need.length < 2000000) : hocketref11_Same.f 2000000 a b = some (decide (a = b)) := by
  obtain ⟨f1, f2, f3, f4, f5, f6, f7, f8, f9, f10, f11, f12, f13, f14, f15, f16, f17, f18⟩ := a
  obtain ⟨g1, g2, g3, g4, g5, g6, g7, g8, g9, g10, g11, g12, g13, g14, g15, g16, g17, g18⟩ := b
  dsimp only at h1 h2
  unfold hocketref11_Same.f
  rw [show some (decide ((⟨f1, f2, f3, f4, f5, f6, f7, f8, f9, f10, f11, f12, f13, f14, f15, f16, f17, f18⟩ : api_Msg) = ⟨g1, g2, g3, g4, g5, g6, g7, g8, g9, g10, g11, g12, g13, g14, g15, g16, g17, g18⟩)) = some (decide (f1 = g1 ∧ f2 = g2 ∧ f3 = g3 ∧ f4 = g4 ∧ f5 = g5 ∧ f6 = g6 ∧ f7 = g7 ∧ f8 = g8 ∧ f9 = g9 ∧ f10 = g10 ∧ f11 = g11 ∧ f12 = g12 ∧ f13 = g13 ∧ f14 = g14 ∧ f15 = g15 ∧ f16 = g16 ∧ f17 = g17 ∧ f18 = g18)) from congrArg some (decide_eq_decide.2 (by rw [api_Msg.mk.injEq]))]
  dsimp only
  refine and_step fun _ => and_step fun _ => and_step fun _ => and_step fun _ => and_step fun _ => and_step fun _ => and_step fun _ => and_step fun _ => and_step fun _ => and_step fun _ => and_step fun _ => and_step fun _ => and_step fun _ => and_step fun _ => ?_
  rw [same_ints h1 (by omega)]
  simp only [Option.bind_some]
  refine and_step2 fun _ => ?_
  rw [same_ints h2 (by omega)]
  simp only [Option.bind_some]
  refine and_step2 fun _ => and_step fun _ => ?_
  rw [entry1_same]
  rfl
end Go.Gp
