/- What the statements say, of the plain functions. -/
import Derived.Test.YtbjefkmbpbdhbaaDefs
import Derived.Test.YtbjefkmbpbdhbaaLe
import Derived.Test.YtbjefkmbpbdhbaaPure4
/- Layer 2: what the statements say, of the plain functions. -/
namespace Go.Gp
open Go
theorem awake2_100 : hocketlaw2_awake.f 100 = some () := by decide +kernel
theorem hocketlaw2_PackForms.pure (n : Int) {o0 : Prop} (_ : o0) : ∃ K r, hocketlaw2_PackForms.f K n = some r := by
  refine ⟨100, (), ?_⟩
  unfold hocketlaw2_PackForms.f
  have hb : band .i64 n 255 = n % 256 := band_mask n 8 (by decide)
  rw [hb, rem_eq (by decide)]
  obtain ⟨h1, h2⟩ := tmod_nn (x := n % 256) (y := 16) (by omega) (by decide)
  simp only [Option.bind_some, List.length_cons, List.length_nil]
  generalize hk : Int.tmod (n % 256) _ = k
  have hk1 : 0 ≤ k ∧ k < 16 := by subst hk; exact ⟨h1, h2⟩
  clear hk h1 h2 hb
  obtain ⟨m, rfl⟩ : ∃ m : Nat, k = m := ⟨k.toNat, by omega⟩
  have hm : m < 16 := by omega
  clear hk1
  rcases m with _ | _ | _ | _ | _ | _ | _ | _ | _ | _ | _ | _ | _ | _ | _ | _ | m
  all_goals first | (exfalso; omega) | decide +kernel
end Go.Gp
