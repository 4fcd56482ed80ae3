/- What the statements say, of the plain functions. -/
import Derived.Test.YtploijfgnnkddaaGreatDefs
import Derived.Test.YtploijfgnnkddaaGreatLe
import Derived.Test.YtploijfgnnkddaaGreatThInts
import Derived.Test.YtploijfgnnkddaaGreatThPack
import Derived.Test.YtploijfgnnkddaaGreatThMesg
import Derived.Test.YtploijfgnnkddaaGreatThMesg2
import Derived.Test.YtploijfgnnkddaaGreatThMesg3
import Derived.Test.YtploijfgnnkddaaGreatThMesg4
import Derived.Test.YtploijfgnnkddaaGreatThMesg5
import Derived.Test.YtploijfgnnkddaaGreatThMesg6
import Derived.Test.YtploijfgnnkddaaGreatThMsg
/- Messages of numbers are such as may be, and name nothing else. -/
namespace Go.Gp
open Go
structure A5Q (c : L6) : Prop where
  k : 0 ≤ c.Kind ∧ c.Kind ≤ 31
  w : -20 ≤ c.Who ∧ c.Who ≤ 2047
  l : B0I c
theorem B1t (x : Int) : ∃ r, O1.f x = some r ∧ A5Q r := by
  unfold O1.f; have b1 := A1o (shr .i64 x 5) 7 3 rfl (by decide); have b2 := A1o (shr .i64 x 15) 3 2 rfl (by decide); have b3 := A1o (shr .i64 x 17) 3 2 rfl (by decide); have b4 := A1o (shr .i64 x 8) 7 3 rfl (by decide); have b5 := A1o (shr .i64 x 17) 2047 11 rfl (by decide); have b6 := A1o (shr .i64 x 24) 31 5 rfl (by decide); have b7 := A1o x 31 5 rfl (by decide); have b8 := A8e (x := F0 .i64 x 31) (y := 13) b7.1 (by decide); obtain ⟨v, v1, v2⟩ := A5L (R := fun r : List UInt8 => r.length ≤ 17) b1.1 (xs := ([([] : List UInt8), ([97] : List UInt8), ([98] : List UInt8), ([97, 98] : List UInt8), ([118, 97, 108, 117, 101] : List UInt8), ([48, 49, 50, 51, 52, 53, 54, 55, 56, 57, 97, 98, 99, 100, 101, 102] : List UInt8), ([48, 49, 50, 51, 52, 53, 54, 55, 56, 57, 97, 98, 99, 100, 101, 102, 103] : List UInt8), ([0, 255] : List UInt8)] : List (List UInt8))) (by simp; omega) (by decide); obtain ⟨o, o1, o2⟩ := A5L (R := fun r : List UInt8 => r.length ≤ 17) b2.1 (xs := ([([] : List UInt8), ([97] : List UInt8), ([98] : List UInt8), ([97, 98] : List UInt8)] : List (List UInt8))) (by simp; omega) (by decide); obtain ⟨q, q1, q2⟩ := A5L (R := fun n : Int => 0 ≤ n ∧ n ≤ 31) b3.1 (xs := ([1, 2, 4, 9] : List Int)) (by simp; omega) (by decide); obtain ⟨k, k1, k2⟩ := B1j (shr .i64 x 11); rw [v1]; simp only [Option.bind_some]; rw [A2U (by omega), k1]; simp only [Option.bind_some]; rw [o1]; simp only [Option.bind_some]; rw [A2U (by omega)]; simp only [Option.bind_some]; have j2 : ∀ (n : Int), 0 ≤ n ∧ n ≤ 31 → ∃ r, O1.J2 x k v o n = some r ∧ A5Q r := fun n hn => by
    unfold O1.J2; split
    · exact ⟨_, rfl, ⟨by simp only; omega, by simp only; rw [T9 (by omega)]; omega, k2, v2, o2⟩⟩
    · exact ⟨_, rfl, ⟨hn, by simp only; omega, k2, v2, o2⟩⟩
  have h0 : 0 ≤ w64 ((Int.tmod (F0 .i64 x 31) 13) + 0) ∧ w64 ((Int.tmod (F0 .i64 x 31) 13) + 0) ≤ 31 := by rw [T9 (by omega)]; omega
  have j1 : ∀ (b : Bool), ∃ r, O1.J1 x k v o b = some r ∧ A5Q r := fun b => by
    unfold O1.J1; split
    · rw [q1]; exact j2 _ q2
    · exact j2 _ h0
  split
  · exact j1 _
  · exact j1 _
theorem A6M (x : Int) {y : Int} (hy : 0 ≤ y ∧ y ≤ 63) : ∃ r, V8.f x y = some r ∧ A5Q r.Cmd ∧ (1 ≤ r.Sess ∧ r.Sess ≤ 6) ∧ (1 ≤ r.Seq ∧ r.Seq ≤ 100) := by
  unfold V8.f; obtain ⟨c, h1, h2⟩ := B1t x; rw [h1]; have b1 := A1o (shr .i64 x 25) 7 3 rfl (by decide); have b2 := A8e (x := F0 .i64 (shr .i64 x 25) 7) (y := 6) b1.1 (by decide); have b3 := A1o (shr .i64 x 28) 1 1 rfl (by decide); have b4 : 0 ≤ Int.tdiv y 3 ∧ Int.tdiv y 3 ≤ 21 := by rw [Int.tdiv_eq_ediv_of_nonneg hy.1]; omega
  refine ⟨_, rfl, h2, ?_, ?_⟩
  · simp only; rw [T9 (by omega)]; omega
  · simp only; rw [T9 (n := Int.tdiv y 3) (by omega), T9 (n := Int.tdiv y 3 + _) (by omega), T9 (by omega)]; omega
end Go.Gp
