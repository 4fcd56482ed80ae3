/- What the statements say, of the plain functions. -/
import Derived.Test.YtploijfgnnkddaaGreatDefs
import Derived.Test.YtploijfgnnkddaaGreatLe
/- Rows of numbers: sought in, compared. -/
namespace Go.Gp
open Go
def A4M (xs : List Int) (y : Int) : Int := match xs.findIdx? (fun x => decide (x = y)) with | some k => (k : Int) | none => -1
theorem A3s (xs : List Int) (y : Int) : (A4M xs y = -1 ∧ y ∉ xs) ∨ ∃ i : Nat, A4M xs y = i ∧ i < xs.length ∧ xs[i]? = some y ∧ y ∈ xs ∧ xs.take i ++ xs.drop (i + 1) = xs.erase y := by
  unfold A4M
  cases h : xs.findIdx? (fun x => decide (x = y)) with
  | none => exact .inl ⟨rfl, A9L y xs h⟩
  | some k => obtain ⟨h1, h2, h3⟩ := A4x y xs k h; exact .inr ⟨k, rfl, h1, h2, B0u h, h3⟩
theorem A9H {K : Nat} {xs : List Int} (hK : xs.length < K) (hx : xs.length ≤ 100000000000000000) (y : Int) : G4.f K xs y = some (A4M xs y) := by
  unfold G4.f; have := A6L (xs := xs) (p := fun x => decide (x = y)) (f := fun again v => G4.B1 K xs y (fun v => G4.J1 K) again v) (fun ag i h => by
    unfold G4.B1; rw [if_pos (by omega), O7 (by omega) (by simpa using h)]; simp only [Option.bind_some, Int.toNat_natCast, decide_eq_true_eq]
    by_cases he : xs[i] = y
    · rw [if_pos he.symm, if_pos he]
    · rw [if_neg (fun h => he h.symm), if_neg he, A2w (by omega) (by omega)]
      rfl) (fun ag => by
    unfold G4.B1; rw [if_neg (by omega)]
    rfl) xs.length 0 K (by omega) hK
  refine Eq.trans this ?_; unfold A4M; rw [List.drop_zero]
  cases xs.findIdx? (fun x => decide (x = y)) with
  | none => rfl
  | some k => simp
theorem A5m {K : Nat} {xs : List Int} (hK : xs.length < K) (hx : xs.length ≤ 100000000000000000) (y : Int) : H5.f K xs y = some (A4M xs y) := by
  unfold H5.f; have := A6L (xs := xs) (p := fun x => decide (x = y)) (f := fun again v => H5.B1 K xs y (fun v => H5.J1 K) again v) (fun ag i h => by
    unfold H5.B1; rw [if_pos (by omega), O7 (by omega) (by simpa using h)]; simp only [Option.bind_some, Int.toNat_natCast, decide_eq_true_eq]
    by_cases he : xs[i] = y
    · rw [if_pos he, if_pos he]
    · rw [if_neg he, if_neg he, A2w (by omega) (by omega)]
      rfl) (fun ag => by
    unfold H5.B1; rw [if_neg (by omega)]
    rfl) xs.length 0 K (by omega) hK
  refine Eq.trans this ?_; unfold A4M; rw [List.drop_zero]
  cases xs.findIdx? (fun x => decide (x = y)) with
  | none => rfl
  | some k => simp
theorem A7J {K : Nat} {xs : List Int} (hK : xs.length < K) (hx : xs.length ≤ 100000000000000000) (y : Int) : V6.f K xs y = some (decide (y ∈ xs)) := by
  unfold V6.f; rw [A9H hK hx]; simp only [Option.bind_some]
  congr 1
  rcases A3s xs y with ⟨h1, h2⟩ | ⟨i, h1, h2, _, h3, _⟩
  · rw [h1, decide_eq_false h2]; rfl
  · rw [h1, decide_eq_true h3]; exact decide_eq_true (by omega)
end Go.Gp
