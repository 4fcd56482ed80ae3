/- What the statements say, of the plain functions. -/
import Derived.Test.YteojmbigbifklaaDefs
import Derived.Test.YteojmbigbifklaaLe
import Derived.Test.YteojmbigbifklaaThInts
/- A lock, in plain words. -/
namespace Go.Gp
open Go
def takeS (s : List Int) (who : Int) : List Int × api_Result := if who ∈ s then (s, ⟨6, [], 0⟩) else if 5 ≤ s.length then (s, ⟨3, [], 0⟩) else (s ++ [who], ⟨0, [], s.length⟩)
def freeS (s : List Int) (who : Int) : List Int × api_Result := if who ∈ s then (s.erase who, ⟨0, [], (s.erase who).headD (-1)⟩) else (s, ⟨5, [], 0⟩)
def ownerS (s : List Int) : api_Result := match s with | [] => ⟨5, [], 0⟩ | a :: _ => ⟨0, [], a⟩
theorem take_lock {K : Nat} {s : List Int} (hK : s.length < K) (hs : s.length ≤ 100000) (who : Int) : lock_Take.f K s who = some (takeS s who) := by
  unfold lock_Take.f takeS
  rw [clone_int (by omega)]
  simp only [Option.bind_some]
  rw [contains_int hK (by omega)]
  simp only [Option.bind_some, decide_eq_true_eq]
  by_cases h : who ∈ s
  · rw [if_pos h, if_pos h]
  · rw [if_neg h, if_neg h]
    by_cases h5 : 5 ≤ s.length
    · rw [if_pos (by omega), if_pos h5]
    · rw [if_neg (by omega), if_neg h5, app_eq (by simp; omega)]
      rfl
theorem free_lock {K : Nat} {s : List Int} (hK : s.length < K) (hs : s.length ≤ 100000) (who : Int) : lock_Free.f K s who = some (freeS s who) := by
  unfold lock_Free.f freeS
  rw [clone_int (by omega)]
  simp only [Option.bind_some]
  rw [index_int hK (by omega)]
  simp only [Option.bind_some]
  rcases posn_cases s who with ⟨h1, h2⟩ | ⟨i, h1, h2, _, h3, h4⟩
  · rw [h1, if_pos (by omega), if_neg h2]
  · rw [h1, if_neg (by omega), if_pos h3]
    unfold slices_Delete_sint_int.f
    rw [w64_id (by omega), must_eq ⟨by omega, by omega, by omega⟩]
    simp only [Option.bind_some]
    rw [if_neg (by omega), Int.toNat_natCast, show ((i : Int) + 1).toNat = i + 1 by omega, h4]
    simp only [Option.bind_some]
    cases he : s.erase who with
    | nil => rfl
    | cons a t =>
      rw [if_neg (by simp; omega), ix_eq (x := a) (by omega) rfl]
      rfl
theorem owner_lock (s : List Int) : lock_Owner.f s = some (ownerS s) := by
  unfold lock_Owner.f ownerS
  cases s with
  | nil => rfl
  | cons a t =>
    rw [if_neg (by simp; omega), ix_eq (x := a) (by omega) rfl]
    rfl
theorem rtake {K : Nat} {s : List Int} (hK : s.length < K) (hs : s.length ≤ 100000) (who : Int) : hocketref4_Take.f K s who = some (takeS s who) := by
  unfold hocketref4_Take.f takeS hocketref4_bad.f
  rw [app_eq (by simp; omega)]
  simp only [Option.bind_some, List.nil_append]
  rw [place_eq hK (by omega)]
  simp only [Option.bind_some]
  rcases posn_cases s who with ⟨h1, h2⟩ | ⟨i, h1, h2, _, h3, h4⟩
  · rw [h1, if_neg (by omega), if_neg h2]
    by_cases h5 : 5 ≤ s.length
    · rw [if_pos (by omega), if_pos h5]
    · rw [if_neg (by omega), if_neg h5, app_eq (by simp; omega)]
      rfl
  · rw [h1, if_pos (by omega), if_pos h3]
theorem rfree {K : Nat} {s : List Int} (hK : s.length < K) (hs : s.length ≤ 100000) (who : Int) : hocketref4_Free.f K s who = some (freeS s who) := by
  unfold hocketref4_Free.f freeS hocketref4_bad.f
  rw [place_eq hK (by omega)]
  simp only [Option.bind_some]
  rcases posn_cases s who with ⟨h1, h2⟩ | ⟨i, h1, h2, _, h3, h4⟩
  · rw [h1, if_pos (by omega), if_neg h2, app_eq (by simp; omega)]
    rfl
  · rw [h1, if_neg (by omega), if_pos h3, cut_eq ⟨by omega, by omega, by omega⟩]
    simp only [Option.bind_some]
    rw [w64_id (by omega), cut_eq ⟨by omega, by omega, by omega⟩]
    simp only [Option.bind_some, Int.toNat_natCast, Int.toNat_zero, List.drop_zero, List.take_length]
    rw [show ((i : Int) + 1).toNat = i + 1 by omega, app_eq (by simp; omega)]
    simp only [Option.bind_some, List.nil_append]
    rw [app_eq (by simp; omega), h4]
    simp only [Option.bind_some]
    cases he : s.erase who with
    | nil => rfl
    | cons a t =>
      rw [if_neg (by simp; omega), ix_eq (x := a) (by omega) rfl]
      rfl
theorem rowner (s : List Int) : hocketref4_Owner.f s = some (ownerS s) := by
  unfold hocketref4_Owner.f ownerS hocketref4_bad.f
  cases s with
  | nil => rfl
  | cons a t =>
    rw [if_neg (by simp; omega), ix_eq (x := a) (by omega) rfl]
    rfl
theorem same_result (a b : api_Result) : hocketref4_SameResult.f a b = some (decide (a = b)) := by
  unfold hocketref4_SameResult.f
  obtain ⟨e, v, n⟩ := a
  obtain ⟨e', v', n'⟩ := b
  by_cases h1 : e = e' <;> by_cases h2 : v = v' <;> by_cases h3 : n = n' <;> simp [h1, h2, h3]
theorem takeS_len (s : List Int) (who : Int) (m : Nat) (hm : 5 ≤ m) (h : s.length ≤ m) : (takeS s who).1.length ≤ m := by
  unfold takeS
  split
  · exact h
  · split
    · exact h
    · simp; omega
theorem freeS_len (s : List Int) (who : Int) (m : Nat) (h : s.length ≤ m) : (freeS s who).1.length ≤ m := by
  unfold freeS
  split
  · have := List.length_erase_le (a := who) (l := s)
    simp only; omega
  · exact h
end Go.Gp
