/- What the statements say, of the plain functions. -/
import Derived.Test.YtploijfgnnkddaaDefs
import Derived.Test.YtploijfgnnkddaaLe
/- Rows of numbers: sought in, compared. -/
namespace Go.Gp
open Go
/-- Where a number stands first; -1: nowhere. -/
def posn (xs : List Int) (y : Int) : Int := match xs.findIdx? (fun x => decide (x = y)) with | some k => (k : Int) | none => -1
theorem posn_cases (xs : List Int) (y : Int) : (posn xs y = -1 ∧ y ∉ xs) ∨ ∃ i : Nat, posn xs y = i ∧ i < xs.length ∧ xs[i]? = some y ∧ y ∈ xs ∧ xs.take i ++ xs.drop (i + 1) = xs.erase y := by
  unfold posn
  cases h : xs.findIdx? (fun x => decide (x = y)) with
  | none => exact .inl ⟨rfl, find_none y xs h⟩
  | some k => obtain ⟨h1, h2, h3⟩ := find_erase y xs k h; exact .inr ⟨k, rfl, h1, h2, find_mem h, h3⟩
theorem index_int {K : Nat} {xs : List Int} (hK : xs.length < K) (hx : xs.length ≤ 100000000000000000) (y : Int) : slices_Index_sint_int.f K xs y = some (posn xs y) := by
  unfold slices_Index_sint_int.f
  have := find_iter (xs := xs) (p := fun x => decide (x = y)) (f := fun again v => slices_Index_sint_int.B1 K xs y (fun v => slices_Index_sint_int.J1 K) again v) (fun ag i h => by
    unfold slices_Index_sint_int.B1
    rw [if_pos (by omega), ix_get (by omega) (by simpa using h)]
    simp only [Option.bind_some, Int.toNat_natCast, decide_eq_true_eq]
    by_cases he : xs[i] = y
    · rw [if_pos he.symm, if_pos he]
    · rw [if_neg (fun h => he h.symm), if_neg he, w64_succ (by omega) (by omega)]
      rfl) (fun ag => by
    unfold slices_Index_sint_int.B1
    rw [if_neg (by omega)]
    rfl) xs.length 0 K (by omega) hK
  refine Eq.trans this ?_
  unfold posn
  rw [List.drop_zero]
  cases xs.findIdx? (fun x => decide (x = y)) with
  | none => rfl
  | some k => simp
theorem place_eq {K : Nat} {xs : List Int} (hK : xs.length < K) (hx : xs.length ≤ 100000000000000000) (y : Int) : hocketref4_place.f K xs y = some (posn xs y) := by
  unfold hocketref4_place.f
  have := find_iter (xs := xs) (p := fun x => decide (x = y)) (f := fun again v => hocketref4_place.B1 K xs y (fun v => hocketref4_place.J1 K) again v) (fun ag i h => by
    unfold hocketref4_place.B1
    rw [if_pos (by omega), ix_get (by omega) (by simpa using h)]
    simp only [Option.bind_some, Int.toNat_natCast, decide_eq_true_eq]
    by_cases he : xs[i] = y
    · rw [if_pos he, if_pos he]
    · rw [if_neg he, if_neg he, w64_succ (by omega) (by omega)]
      rfl) (fun ag => by
    unfold hocketref4_place.B1
    rw [if_neg (by omega)]
    rfl) xs.length 0 K (by omega) hK
  refine Eq.trans this ?_
  unfold posn
  rw [List.drop_zero]
  cases xs.findIdx? (fun x => decide (x = y)) with
  | none => rfl
  | some k => simp
theorem contains_int {K : Nat} {xs : List Int} (hK : xs.length < K) (hx : xs.length ≤ 100000000000000000) (y : Int) : slices_Contains_sint_int.f K xs y = some (decide (y ∈ xs)) := by
  unfold slices_Contains_sint_int.f
  rw [index_int hK hx]
  simp only [Option.bind_some]
  congr 1
  rcases posn_cases xs y with ⟨h1, h2⟩ | ⟨i, h1, h2, _, h3, _⟩
  · rw [h1, decide_eq_false h2]; rfl
  · rw [h1, decide_eq_true h3]; exact decide_eq_true (by omega)
theorem same_ints {K : Nat} {xs ys : List Int} (hK : xs.length < K) (hx : xs.length ≤ 100000000000000000) : hocketref1_SameInts.f K xs ys = some (decide (xs = ys)) := by
  unfold hocketref1_SameInts.f
  by_cases hl : xs.length = ys.length
  · rw [if_pos (by omega)]
    have := eq_iter (R := fun a b : Int => decide (a = b)) hl (f := fun again v => hocketref1_SameInts.B1 K xs ys (fun v => hocketref1_SameInts.J1 K) again v) (fun ag i h h' => by
      unfold hocketref1_SameInts.B1
      rw [if_pos (by omega), ix_get (by omega) (by simpa using h)]
      simp only [Option.bind_some, Int.toNat_natCast, decide_eq_true_eq]
      rw [ix_get (by omega) (by simpa using h')]
      simp only [Option.bind_some, Int.toNat_natCast]
      rw [w64_succ (by omega) (by omega)]
      rfl) (fun ag => by
      unfold hocketref1_SameInts.B1
      rw [if_neg (by omega)]
      rfl) xs.length 0 K (by omega) hK
    rw [List.drop_zero, List.drop_zero, zip_all_eq hl] at this
    exact this
  · rw [if_neg (by omega)]
    congr 1
    symm
    exact decide_eq_false (fun h => hl (by rw [h]))
end Go.Gp
