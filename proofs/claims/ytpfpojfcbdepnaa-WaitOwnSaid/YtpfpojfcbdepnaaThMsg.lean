/- What the statements say, of the plain functions. -/
import Derived.Test.YtpfpojfcbdepnaaDefs
import Derived.Test.YtpfpojfcbdepnaaLe
/- Messages and entries of numbers: there is one of each number. -/
namespace Go.Gp
open Go
theorem ix_all {α : Type} {xs : List α} {i : Int} {R : α → Prop} (h0 : 0 ≤ i) (h : i < (xs.length : Int)) (hR : ∀ x ∈ xs, R x) : ∃ x, ix xs i = some x ∧ R x :=
  ⟨xs[i.toNat], ix_get h0 (by omega), hR _ (List.getElem_mem _)⟩
theorem band_lt (x m : Int) (k : Nat) (hm : m = 2 ^ k - 1) (hk : k < 63) : 0 ≤ band .i64 x m ∧ band .i64 x m < 2 ^ k := by subst hm; exact band_le x k hk
theorem keys_ok (x : Int) : ∃ r, hocketlaw7_Keys.f x = some r ∧ r.length ≤ 17 := by
  unfold hocketlaw7_Keys.f
  have hb := band_lt x 15 4 rfl (by decide)
  obtain ⟨r, h1, h2⟩ := ix_all (R := fun r : List UInt8 => r.length ≤ 17) hb.1 (xs := ([([] : List UInt8), ([97] : List UInt8), ([98] : List UInt8), ([99] : List UInt8), ([97, 98] : List UInt8), ([97, 98, 99] : List UInt8), ([122] : List UInt8), ([0] : List UInt8), ([255] : List UInt8), ([97, 98, 99, 100, 101, 102, 103, 104] : List UInt8), ([97, 98, 99, 100, 101, 102, 103, 104, 105] : List UInt8), ([107, 49] : List UInt8), ([107, 50] : List UInt8), ([107, 51] : List UInt8), ([107, 52] : List UInt8), ([107, 53] : List UInt8)] : List (List UInt8))) (by simp; omega) (by decide)
  refine ⟨r, ?_, h2⟩
  rw [h1]
  simp only [Option.bind_some]
  rw [must_eq (by omega)]
  rfl
def CmdOk (c : api_Cmd) : Prop := c.Key.length ≤ 17 ∧ c.Val.length ≤ 17 ∧ c.Old.length ≤ 17
theorem cmd_ok (x : Int) : ∃ r, hocketlaw8_Cmd.f x = some r ∧ CmdOk r := by
  unfold hocketlaw8_Cmd.f
  have b1 := band_lt (shr .i64 x 5) 7 3 rfl (by decide)
  have b2 := band_lt (shr .i64 x 15) 3 2 rfl (by decide)
  have b3 := band_lt (shr .i64 x 17) 3 2 rfl (by decide)
  obtain ⟨v, v1, v2⟩ := ix_all (R := fun r : List UInt8 => r.length ≤ 17) b1.1 (xs := ([([] : List UInt8), ([97] : List UInt8), ([98] : List UInt8), ([97, 98] : List UInt8), ([118, 97, 108, 117, 101] : List UInt8), ([48, 49, 50, 51, 52, 53, 54, 55, 56, 57, 97, 98, 99, 100, 101, 102] : List UInt8), ([48, 49, 50, 51, 52, 53, 54, 55, 56, 57, 97, 98, 99, 100, 101, 102, 103] : List UInt8), ([0, 255] : List UInt8)] : List (List UInt8))) (by simp; omega) (by decide)
  obtain ⟨o, o1, o2⟩ := ix_all (R := fun r : List UInt8 => r.length ≤ 17) b2.1 (xs := ([([] : List UInt8), ([97] : List UInt8), ([98] : List UInt8), ([97, 98] : List UInt8)] : List (List UInt8))) (by simp; omega) (by decide)
  obtain ⟨q, q1, _⟩ := ix_all (R := fun _ : Int => True) b3.1 (xs := ([1, 2, 4, 9] : List Int)) (by simp; omega) (by simp)
  obtain ⟨k, k1, k2⟩ := keys_ok (shr .i64 x 11)
  rw [v1]
  simp only [Option.bind_some]
  rw [must_eq (by omega), k1]
  simp only [Option.bind_some]
  rw [o1]
  simp only [Option.bind_some]
  rw [must_eq (by omega)]
  simp only [Option.bind_some]
  have j2 : ∀ (n : Int), ∃ r, hocketlaw8_Cmd.J2 x k v o n = some r ∧ CmdOk r := fun n => by
    unfold hocketlaw8_Cmd.J2
    split
    · exact ⟨_, rfl, k2, v2, o2⟩
    · exact ⟨_, rfl, k2, v2, o2⟩
  have j1 : ∀ (b : Bool), ∃ r, hocketlaw8_Cmd.J1 x k v o b = some r ∧ CmdOk r := fun b => by
    unfold hocketlaw8_Cmd.J1
    split
    · rw [q1]; exact j2 _
    · exact j2 _
  split
  · exact j1 _
  · exact j1 _
theorem entry_ok (x y : Int) : ∃ r, hocketlaw10_Entry.f x y = some r ∧ CmdOk r.Cmd := by
  unfold hocketlaw10_Entry.f
  obtain ⟨c, h1, h2⟩ := cmd_ok x
  rw [h1]
  exact ⟨_, rfl, h2⟩
end Go.Gp
