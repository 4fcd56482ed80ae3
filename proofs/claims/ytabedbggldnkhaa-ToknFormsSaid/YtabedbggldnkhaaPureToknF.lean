/- What the statements say, of the plain functions. -/
import Derived.Test.YtabedbggldnkhaaDefs
import Derived.Test.YtabedbggldnkhaaLe
/- Layer 17: tokens by hand. -/
namespace Go.Gp
open Go
theorem hocketlaw17_ToknForms.pure (which : Int) {o0 : Prop} (_ : o0) : ∃ K r, hocketlaw17_ToknForms.f K which = some r := by
  refine ⟨100, (), ?_⟩
  have hb : band .i64 which 255 = which % 256 := band_m which 255 8 rfl (by decide)
  unfold hocketlaw17_ToknForms.f
  rw [hb]
  have ht := tmod_nn (x := which % 256) (y := 12) (by omega) (by omega)
  simp only [hocketlaw17_ToknForms_1.f, Option.bind_some, List.length_cons, List.length_nil]
  rw [rem_eq (by decide), show ((0 + 1 + 1 + 1 + 1 + 1 + 1 + 1 + 1 + 1 + 1 + 1 + 1 : Nat) : Int) = 12 by decide]
  generalize (which % 256).tmod 12 = i at ht ⊢
  have : i = 0 ∨ i = 1 ∨ i = 2 ∨ i = 3 ∨ i = 4 ∨ i = 5 ∨ i = 6 ∨ i = 7 ∨ i = 8 ∨ i = 9 ∨ i = 10 ∨ i = 11 := by omega
  rcases this with rfl | rfl | rfl | rfl | rfl | rfl | rfl | rfl | rfl | rfl | rfl | rfl <;> decide +kernel
end Go.Gp
