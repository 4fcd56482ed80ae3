/- What the statements say, of the plain functions. -/
import Derived.Test.YtpbjpakmnfkbjaaDefs
import Derived.Test.YtpbjpakmnfkbjaaLe
import Derived.Test.YtpbjpakmnfkbjaaThInts
import Derived.Test.YtpbjpakmnfkbjaaThPack
import Derived.Test.YtpbjpakmnfkbjaaThMesg
import Derived.Test.YtpbjpakmnfkbjaaThMesg2
import Derived.Test.YtpbjpakmnfkbjaaThMesg3
import Derived.Test.YtpbjpakmnfkbjaaThMesg4
import Derived.Test.YtpbjpakmnfkbjaaThMesg5
import Derived.Test.YtpbjpakmnfkbjaaThMesg6
import Derived.Test.YtpbjpakmnfkbjaaThMsg
import Derived.Test.YtpbjpakmnfkbjaaThMesg7
import Derived.Test.YtpbjpakmnfkbjaaThMesg8
import Derived.Test.YtpbjpakmnfkbjaaThPack1
import Derived.Test.YtpbjpakmnfkbjaaThMesg9
import Derived.Test.YtpbjpakmnfkbjaaThMesg10
/- Messages held against each other, as the document has it. -/
namespace Go.Gp
open Go
theorem decM_more {m : api_Msg} (h : OkM m) {t : List UInt8} (ht : t ≠ []) : (decM (wire m ++ t)).2 = false := by
  unfold decM
  rw [read_wire_rest h]
  unfold finM
  simp [ht]
/-! ### Same, as the document has it -/
theorem and_step {p q : Prop} [Decidable p] [Decidable q] {x : Option Bool} (h : p → x = some (decide q)) : (if p then x else some false) = some (decide (p ∧ q)) := by
  by_cases hp : p
  · rw [if_pos hp, h hp]; simp [hp]
  · rw [if_neg hp]; simp [hp]
theorem and_step2 {p q : Prop} [Decidable p] [Decidable q] {x : Option Bool} (h : p → x = some (decide q)) : (if decide p = true then x else some false) = some (decide (p ∧ q)) := by
  by_cases hp : p
  · rw [if_pos (by simpa using hp), h hp]; simp [hp]
  · rw [if_neg (by simpa using hp)]; simp [hp]
theorem ok_rows {m : api_Msg} (h : OkM m) (hc : canM m = m) : m.Have.length ≤ 7 ∧ m.Need.length ≤ 8 ∧ m.Data.length ≤ 64 ∧ EntOk m.Entry := by
  have z : EntOk ⟨0, 0, ⟨0, 0, [], [], []⟩⟩ := ⟨by simp, by simp, by simp, by simp, by simp, by simp, by simp⟩
  obtain ⟨_, _, _, gk⟩ := h
  rcases gk with h1 | h6 | ⟨h2, g⟩ | ⟨h3, g⟩ | ⟨h4, g⟩ | ⟨h5, g⟩ | ⟨h7, g⟩ | ⟨h8, g⟩
  · rw [← hc]; unfold canM; simp [h1, headOf, z]
  · rw [← hc]; unfold canM; simp [h6, headOf, z]
  · rw [← hc]; unfold canM; simp [h2, headOf, z]
  · rw [← hc]; unfold canM; simp [h3, headOf, z]
  · rw [← hc]; unfold canM; simp [h4, headOf, z]
  · rw [← hc]; unfold canM; simp [h5, headOf, z, g.2.2]
  · rw [← hc]; unfold canM; simp [h7, headOf, z, g.2.2.1.1, g.2.2.2.1]
  · rw [← hc]; unfold canM; simp [h8, headOf, g.2]
theorem ok_mild {m : api_Msg} (h : OkM m) (hc : canM m = m) : Mild m := by
  obtain ⟨h1, h2, _, h4⟩ := ok_rows h hc
  exact ⟨by omega, by omega, by have := h4.l1; omega, by have := h4.l2; omega, by have := h4.l3; omega⟩
theorem decM_rows (b : List UInt8) : (decM b).1.Have.length < 3000 ∧ (decM b).1.Need.length < 3000 := by
  cases h : (decM b).2 with
  | false => rw [decM_no h]; unfold zmsg; simp
  | true =>
    obtain ⟨h1, h2, _⟩ := decM_ok h
    obtain ⟨h3, h4, _, _⟩ := ok_rows h1 h2
    omega
end Go.Gp
