/- What the statements say, of the plain functions. -/
import Derived.Test.YtmcaielgjfpekaaDefs
import Derived.Test.YtmcaielgjfpekaaLe
import Derived.Test.YtmcaielgjfpekaakThInts
import Derived.Test.YtmcaielgjfpekaakThPack
import Derived.Test.YtmcaielgjfpekaakThMesg
import Derived.Test.YtmcaielgjfpekaakThMesg2
import Derived.Test.YtmcaielgjfpekaakThMesg3
import Derived.Test.YtmcaielgjfpekaakThMesg4
import Derived.Test.YtmcaielgjfpekaakThMesg5
import Derived.Test.YtmcaielgjfpekaakThMesg6
/- Messages and entries of numbers: there is one of each number. -/
namespace Go.Gp
open Go
theorem ix_all {α : Type} {xs : List α} {i : Int} {R : α → Prop} (h0 : 0 ≤ i) (h : i < (xs.length : Int)) (hR : ∀ x ∈ xs, R x) : ∃ x, ix xs i = some x ∧ R x :=
  ⟨xs[i.toNat], ix_get h0 (by omega), hR _ (List.getElem_mem _)⟩
theorem band_lt (x m : Int) (k : Nat) (hm : m = 2 ^ k - 1) (hk : k < 63) : 0 ≤ band .i64 x m ∧ band .i64 x m < 2 ^ k := by subst hm; exact band_le x k hk
theorem keys_ok (x : Int) : ∃ r, hocketlaw7_Keys.f x = some r ∧ r.length ≤ 17 := by
  unfold hocketlaw7_Keys.f
  have hb := band_lt x 15 4 rfl (by decide)
  obtain ⟨r, h1, h2⟩ := ix_all (R := fun r : List UInt8 => r.length ≤ 17) hb.1 (xs := ([([] : List UInt8), ([97] : List UInt8), ([98] : List UInt8), ([99] : List UInt8), ([97, 98] : List UInt8), ([97, 98, 99] : List UInt8), ([122] : List UInt8), ([0] : List UInt8), ([255] : List UInt8), ([97, 98, 99, 100, 101, 102, 103, 104] : List UInt8), ([97, 98, 99, 100, 101, 102, 103, 104, 105] : List UInt8), ([107, 49] : List UInt8), ([107, 50] : List UInt8), ([107, 51] : List UInt8), ([107, 52] : List UInt8), ([107, 53] : List UInt8)] : List (List UInt8))) (by simp; omega) (by decide)
  refine ⟨r, ?_, h2⟩
  rw [h1]
  simp only [Option.bind_some]
  rw [must_eq (by omega)]
  rfl
def CmdOk (c : api_Cmd) : Prop := c.Key.length ≤ 17 ∧ c.Val.length ≤ 17 ∧ c.Old.length ≤ 17
theorem cmd_ok (x : Int) : ∃ r, hocketlaw8_Cmd.f x = some r ∧ CmdOk r := by
  unfold hocketlaw8_Cmd.f
  have b1 := band_lt (shr .i64 x 5) 7 3 rfl (by decide)
  have b2 := band_lt (shr .i64 x 15) 3 2 rfl (by decide)
  have b3 := band_lt (shr .i64 x 17) 3 2 rfl (by decide)
  obtain ⟨v, v1, v2⟩ := ix_all (R := fun r : List UInt8 => r.length ≤ 17) b1.1 (xs := ([([] : List UInt8), ([97] : List UInt8), ([98] : List UInt8), ([97, 98] : List UInt8), ([118, 97, 108, 117, 101] : List UInt8), ([48, 49, 50, 51, 52, 53, 54, 55, 56, 57, 97, 98, 99, 100, 101, 102] : List UInt8), ([48, 49, 50, 51, 52, 53, 54, 55, 56, 57, 97, 98, 99, 100, 101, 102, 103] : List UInt8), ([0, 255] : List UInt8)] : List (List UInt8))) (by simp; omega) (by decide)
  obtain ⟨o, o1, o2⟩ := ix_all (R := fun r : List UInt8 => r.length ≤ 17) b2.1 (xs := ([([] : List UInt8), ([97] : List UInt8), ([98] : List UInt8), ([97, 98] : List UInt8)] : List (List UInt8))) (by simp; omega) (by decide)
  obtain ⟨q, q1, _⟩ := ix_all (R := fun _ : Int => True) b3.1 (xs := ([1, 2, 4, 9] : List Int)) (by simp; omega) (by simp)
  obtain ⟨k, k1, k2⟩ := keys_ok (shr .i64 x 11)
  rw [v1]
  simp only [Option.bind_some]
  rw [must_eq (by omega), k1]
  simp only [Option.bind_some]
  rw [o1]
  simp only [Option.bind_some]
  rw [must_eq (by omega)]
  simp only [Option.bind_some]
  have j3 : ∀ (c : api_Cmd) (n : Int), CmdOk c → ∃ r, hocketlaw8_Cmd.J3 x c n = some r ∧ CmdOk r := fun c n hc => by
    unfold hocketlaw8_Cmd.J3
    split
    · exact ⟨_, rfl, hc⟩
    · exact ⟨_, rfl, hc⟩
  have j2 : ∀ (c : api_Cmd) (b : Bool), CmdOk c → ∃ r, hocketlaw8_Cmd.J2 x c b = some r ∧ CmdOk r := fun c b hc => by
    unfold hocketlaw8_Cmd.J2
    split
    · rw [q1]; exact j3 _ _ hc
    · exact j3 _ _ hc
  unfold hocketlaw8_Cmd.J1
  split
  · exact j2 _ _ ⟨k2, v2, o2⟩
  · exact j2 _ _ ⟨k2, v2, o2⟩
theorem entry_ok (x y : Int) : ∃ r, hocketlaw10_Entry.f x y = some r ∧ CmdOk r.Cmd := by
  unfold hocketlaw10_Entry.f
  obtain ⟨c, h1, h2⟩ := cmd_ok x
  rw [h1]
  exact ⟨_, rfl, h2⟩
def MsgOk (m : api_Msg) : Prop := m.Data.length ≤ 63 ∧ m.Have.length ≤ 7 ∧ m.Need.length ≤ 7 ∧ CmdOk m.Entry.Cmd
theorem msg_ok (x y : Int) : Sat (hocketlaw11_Msg.f 100 x y) MsgOk := by
  have z : CmdOk ⟨0, 0, ([] : List UInt8), ([] : List UInt8), ([] : List UInt8)⟩ := by unfold CmdOk; simp
  have plain : ∀ m : api_Msg, m.Data = [] → m.Have = [] → m.Need = [] → CmdOk m.Entry.Cmd → MsgOk m := fun m h1 h2 h3 h4 => ⟨by simp [h1], by simp [h2], by simp [h3], h4⟩
  unfold hocketlaw11_Msg.f
  refine sat_if (fun _ => sat_r (plain _ rfl rfl rfl z)) (fun _ => ?_)
  refine sat_if (fun _ => sat_r (plain _ rfl rfl rfl z)) (fun _ => ?_)
  refine sat_if (fun _ => sat_r (plain _ rfl rfl rfl z)) (fun _ => ?_)
  refine sat_if (fun _ => ?_) (fun _ => ?_)
  · have hb := band_lt (shr .i64 y 24) 63 6 rfl (by decide)
    refine sat_loop (fun v : Int × List UInt8 => (63 - v.1).toNat) (fun v => 0 ≤ v.1 ∧ v.1 ≤ 63 ∧ (v.2.length : Int) = v.1) ?_ 100 _ ⟨by simp, by simp, by simp⟩ (by simp only; omega)
    rintro ⟨i, d⟩ ⟨h0, h1, h2⟩ ag hag
    simp only at h0 h1 h2
    show Sat (hocketlaw11_Msg.B1 100 y _ ag i d) _
    unfold hocketlaw11_Msg.B1
    refine sat_if (fun hlt => ?_) (fun _ => ?_)
    · refine sat_b (app_eq (by simp only [List.length_singleton]; omega)) ?_
      have hw : w64 (i + 1) = i + 1 := w64_id (by omega)
      rw [hw]
      exact hag _ ⟨by simp only; omega, by simp only; omega, by simp; omega⟩ (by simp only; omega)
    · unfold hocketlaw11_Msg.J1
      exact sat_r ⟨by simp only; omega, by simp, by simp, z⟩
  refine sat_if (fun _ => ?_) (fun _ => ?_)
  · have hb := band_lt (shr .i64 y 18) 7 3 rfl (by decide)
    refine sat_loop (fun v : Int × List Int => (7 - v.1).toNat) (fun v => 0 ≤ v.1 ∧ v.1 ≤ 7 ∧ (v.2.length : Int) = v.1) ?_ 100 _ ⟨by simp, by simp, by simp⟩ (by simp only; omega)
    rintro ⟨i, d⟩ ⟨h0, h1, h2⟩ ag hag
    simp only at h0 h1 h2
    show Sat (hocketlaw11_Msg.B3 100 y _ ag i d) _
    unfold hocketlaw11_Msg.B3
    refine sat_if (fun hlt => ?_) (fun _ => ?_)
    · refine sat_b (app_eq (by simp only [List.length_singleton]; omega)) ?_
      have hw : w64 (i + 1) = i + 1 := w64_id (by omega)
      rw [hw]
      exact hag _ ⟨by simp only; omega, by simp only; omega, by simp; omega⟩ (by simp only; omega)
    · show Sat (hocketlaw11_Msg.J2 100 y x d) _
      unfold hocketlaw11_Msg.J2
      have hd : d.length ≤ 7 := by omega
      have hb := band_lt (shr .i64 y 21) 7 3 rfl (by decide)
      refine sat_loop (fun v : Int × List Int => (7 - v.1).toNat) (fun v => 0 ≤ v.1 ∧ v.1 ≤ 7 ∧ (v.2.length : Int) = v.1) ?_ 100 _ ⟨by simp, by simp, by simp⟩ (by simp only; omega)
      rintro ⟨i, e⟩ ⟨h0, h1, h2⟩ ag hag
      simp only at h0 h1 h2
      show Sat (hocketlaw11_Msg.B2 100 y _ ag i e) _
      unfold hocketlaw11_Msg.B2
      refine sat_if (fun hlt => ?_) (fun _ => ?_)
      · refine sat_b (app_eq (by simp only [List.length_singleton]; omega)) ?_
        have hw : w64 (i + 1) = i + 1 := w64_id (by omega)
        rw [hw]
        exact hag _ ⟨by simp only; omega, by simp only; omega, by simp; omega⟩ (by simp only; omega)
      · show Sat (hocketlaw11_Msg.J3 100 x y d e) _
        unfold hocketlaw11_Msg.J3
        exact sat_r ⟨by simp, by simp only; omega, by simp only; omega, z⟩
  refine sat_if (fun _ => ?_) (fun _ => sat_r (plain _ rfl rfl rfl z))
  obtain ⟨e, e1, e2⟩ := entry_ok x (band .i64 (shr .i64 y 10) 63)
  exact sat_b e1 (sat_r (plain _ rfl rfl rfl e2))
end Go.Gp
