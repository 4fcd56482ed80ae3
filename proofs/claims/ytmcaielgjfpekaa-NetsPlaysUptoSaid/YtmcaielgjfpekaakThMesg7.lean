/- What the statements say, of the plain functions. -/
import Derived.Test.YtmcaielgjfpekaaDefs
import Derived.Test.YtmcaielgjfpekaaLe
import Derived.Test.YtmcaielgjfpekaakThInts
import Derived.Test.YtmcaielgjfpekaakThPack
import Derived.Test.YtmcaielgjfpekaakThMesg
import Derived.Test.YtmcaielgjfpekaakThMesg2
import Derived.Test.YtmcaielgjfpekaakThMesg3
import Derived.Test.YtmcaielgjfpekaakThMesg4
import Derived.Test.YtmcaielgjfpekaakThMesg5
import Derived.Test.YtmcaielgjfpekaakThMesg6
import Derived.Test.YtmcaielgjfpekaakThMsg
/- Messages of numbers are such as may be, and name nothing else. -/
namespace Go.Gp
open Go
structure CmdNum (c : api_Cmd) : Prop where
  k : 0 ≤ c.Kind ∧ c.Kind ≤ 31
  w : -20 ≤ c.Who ∧ c.Who ≤ 2047
  l : CmdOk c
theorem cmd_num (x : Int) : ∃ r, hocketlaw8_Cmd.f x = some r ∧ CmdNum r := by
  unfold hocketlaw8_Cmd.f
  have b1 := band_lt (shr .i64 x 5) 7 3 rfl (by decide)
  have b2 := band_lt (shr .i64 x 15) 3 2 rfl (by decide)
  have b3 := band_lt (shr .i64 x 17) 3 2 rfl (by decide)
  have b4 := band_lt (shr .i64 x 8) 7 3 rfl (by decide)
  have b5 := band_lt (shr .i64 x 17) 2047 11 rfl (by decide)
  have b6 := band_lt (shr .i64 x 24) 31 5 rfl (by decide)
  have b7 := band_lt x 31 5 rfl (by decide)
  have b8 := tmod_nn (x := band .i64 x 31) (y := 13) b7.1 (by decide)
  obtain ⟨v, v1, v2⟩ := ix_all (R := fun r : List UInt8 => r.length ≤ 17) b1.1 (xs := ([([] : List UInt8), ([97] : List UInt8), ([98] : List UInt8), ([97, 98] : List UInt8), ([118, 97, 108, 117, 101] : List UInt8), ([48, 49, 50, 51, 52, 53, 54, 55, 56, 57, 97, 98, 99, 100, 101, 102] : List UInt8), ([48, 49, 50, 51, 52, 53, 54, 55, 56, 57, 97, 98, 99, 100, 101, 102, 103] : List UInt8), ([0, 255] : List UInt8)] : List (List UInt8))) (by simp; omega) (by decide)
  obtain ⟨o, o1, o2⟩ := ix_all (R := fun r : List UInt8 => r.length ≤ 17) b2.1 (xs := ([([] : List UInt8), ([97] : List UInt8), ([98] : List UInt8), ([97, 98] : List UInt8)] : List (List UInt8))) (by simp; omega) (by decide)
  obtain ⟨q, q1, q2⟩ := ix_all (R := fun n : Int => 0 ≤ n ∧ n ≤ 31) b3.1 (xs := ([1, 2, 4, 9] : List Int)) (by simp; omega) (by decide)
  obtain ⟨k, k1, k2⟩ := keys_ok (shr .i64 x 11)
  rw [v1]
  simp only [Option.bind_some]
  rw [must_eq (by omega), k1]
  simp only [Option.bind_some]
  rw [o1]
  simp only [Option.bind_some]
  rw [must_eq (by omega)]
  simp only [Option.bind_some]
  have j3 : ∀ (c : api_Cmd) (n : Int), CmdNum c → 0 ≤ n ∧ n ≤ 31 → ∃ r, hocketlaw8_Cmd.J3 x c n = some r ∧ CmdNum r := fun c n hc hn => by
    unfold hocketlaw8_Cmd.J3
    split
    · exact ⟨_, rfl, ⟨by simp only; omega, by simp only; rw [w64_id (by omega)]; omega, hc.l⟩⟩
    · exact ⟨_, rfl, ⟨hn, hc.w, hc.l⟩⟩
  have j2 : ∀ (c : api_Cmd) (b : Bool), CmdNum c → ∃ r, hocketlaw8_Cmd.J2 x c b = some r ∧ CmdNum r := fun c b hc => by
    unfold hocketlaw8_Cmd.J2
    split
    · rw [q1]; exact j3 _ _ hc q2
    · exact j3 _ _ hc hc.k
  have h0 : CmdNum ⟨w64 ((Int.tmod (band .i64 x 31) 13) + 0), band .i64 (shr .i64 x 8) 7, k, v, o⟩ := ⟨by simp only; rw [w64_id (by omega)]; omega, by simp only; omega, k2, v2, o2⟩
  unfold hocketlaw8_Cmd.J1
  split
  · exact j2 _ _ h0
  · exact j2 _ _ h0
theorem entry_num (x : Int) {y : Int} (hy : 0 ≤ y ∧ y ≤ 63) : ∃ r, hocketlaw10_Entry.f x y = some r ∧ CmdNum r.Cmd ∧ (1 ≤ r.Sess ∧ r.Sess ≤ 6) ∧ (1 ≤ r.Seq ∧ r.Seq ≤ 100) := by
  unfold hocketlaw10_Entry.f
  obtain ⟨c, h1, h2⟩ := cmd_num x
  rw [h1]
  have b1 := band_lt (shr .i64 x 25) 7 3 rfl (by decide)
  have b2 := tmod_nn (x := band .i64 (shr .i64 x 25) 7) (y := 6) b1.1 (by decide)
  have b3 := band_lt (shr .i64 x 28) 1 1 rfl (by decide)
  have b4 : 0 ≤ Int.tdiv y 3 ∧ Int.tdiv y 3 ≤ 21 := by rw [Int.tdiv_eq_ediv_of_nonneg hy.1]; omega
  refine ⟨_, rfl, h2, ?_, ?_⟩
  · simp only; rw [w64_id (by omega)]; omega
  · simp only; rw [w64_id (n := Int.tdiv y 3) (by omega), w64_id (n := Int.tdiv y 3 + _) (by omega), w64_id (by omega)]; omega
theorem msg_num (x y : Int) : Sat (hocketlaw11_Msg.f 2000000 x y) (fun m => OkM m ∧ canM m = m) := by
  have f0 : far = 1099511627776 := rfl
  have hk := band_lt x 7 3 rfl (by decide)
  have hw : w64 (band .i64 x 7 + 1) = band .i64 x 7 + 1 := w64_id (by omega)
  have hf1 := band_lt (shr .i64 x 3) 7 3 rfl (by decide)
  have hf2 := tmod_nn (x := band .i64 (shr .i64 x 3) 7) (y := 7) hf1.1 (by decide)
  have ht1 := band_lt (shr .i64 x 6) 7 3 rfl (by decide)
  have ht2 := tmod_nn (x := band .i64 (shr .i64 x 6) 7) (y := 7) ht1.1 (by decide)
  have hv := band_lt (shr .i64 x 9) 1023 10 rfl (by decide)
  have gF : 0 ≤ Int.tmod (band .i64 (shr .i64 x 3) 7) 7 ∧ Int.tmod (band .i64 (shr .i64 x 3) 7) 7 ≤ 6 := by omega
  have gT : 0 ≤ Int.tmod (band .i64 (shr .i64 x 6) 7) 7 ∧ Int.tmod (band .i64 (shr .i64 x 6) 7) 7 ≤ 6 := by omega
  have gV : 0 ≤ band .i64 (shr .i64 x 9) 1023 ∧ band .i64 (shr .i64 x 9) 1023 ≤ far := by omega
  have m8 := band_lt y 255 8 rfl (by decide)
  have m9 := band_lt (shr .i64 y 8) 63 6 rfl (by decide)
  have m10 := band_lt y 127 7 rfl (by decide)
  have m11 := band_lt (shr .i64 y 7) 7 3 rfl (by decide)
  have m12 := tmod_nn (x := band .i64 (shr .i64 y 7) 7) (y := 7) m11.1 (by decide)
  have m13 := band_lt (shr .i64 y 10) 63 6 rfl (by decide)
  have m14 := band_lt y 4095 12 rfl (by decide)
  have m15 := band_lt (shr .i64 y 12) 4095 12 rfl (by decide)
  have m16 := band_lt y 1023 10 rfl (by decide)
  have m17 := band_lt (shr .i64 y 10) 255 8 rfl (by decide)
  unfold hocketlaw11_Msg.f
  refine sat_if (fun k => sat_r ⟨⟨gF, gT, gV, .inr (.inr (.inl ⟨k, by dsimp only; omega, by dsimp only; omega⟩))⟩, ?_⟩) (fun k2 => ?_)
  · unfold canM headOf; dsimp only; rw [if_pos k]
  refine sat_if (fun k => sat_r ⟨⟨gF, gT, gV, .inr (.inr (.inr (.inl ⟨k, by dsimp only; omega, by dsimp only; omega, by dsimp only; omega⟩)))⟩, ?_⟩) (fun k3 => ?_)
  · unfold canM headOf; dsimp only; rw [if_neg k2, if_pos k]
  refine sat_if (fun k => sat_r ⟨⟨gF, gT, gV, .inr (.inr (.inr (.inr (.inl ⟨k, by dsimp only; omega⟩))))⟩, ?_⟩) (fun k4 => ?_)
  · unfold canM headOf; dsimp only; rw [if_neg k2, if_neg k3, if_pos k]
  refine sat_if (fun k => ?_) (fun k5 => ?_)
  · have hb := band_lt (shr .i64 y 24) 63 6 rfl (by decide)
    refine sat_loop (fun v : Int × List UInt8 => (63 - v.1).toNat) (fun v => 0 ≤ v.1 ∧ v.1 ≤ 63 ∧ (v.2.length : Int) = v.1) ?_ 2000000 _ ⟨by simp, by simp, by simp⟩ (by simp only; omega)
    rintro ⟨i, d⟩ ⟨h0, h1, h2⟩ ag hag
    simp only at h0 h1 h2
    show Sat (hocketlaw11_Msg.B1 2000000 y _ ag i d) _
    unfold hocketlaw11_Msg.B1
    refine sat_if (fun hlt => ?_) (fun _ => ?_)
    · refine sat_b (app_eq (by simp only [List.length_singleton]; omega)) ?_
      have hw : w64 (i + 1) = i + 1 := w64_id (by omega)
      rw [hw]
      exact hag _ ⟨by simp only; omega, by simp only; omega, by simp; omega⟩ (by simp only; omega)
    · unfold hocketlaw11_Msg.J1
      refine sat_r ⟨⟨gF, gT, gV, .inr (.inr (.inr (.inr (.inr (.inl ⟨k, by dsimp only; omega, by dsimp only; omega, by dsimp only; omega⟩)))))⟩, ?_⟩
      unfold canM headOf; dsimp only; rw [if_neg k2, if_neg k3, if_neg k4, if_pos k]
  refine sat_if (fun k => ?_) (fun k7 => ?_)
  · have hb := band_lt (shr .i64 y 18) 7 3 rfl (by decide)
    have grow : ∀ (d : List Int) (z : Int), (∀ u ∈ d, 0 ≤ u ∧ u ≤ far) → ∀ u ∈ d ++ [band .i64 z 63], 0 ≤ u ∧ u ≤ far := fun d z hd u hu => by
      rcases List.mem_append.1 hu with h | h
      · exact hd u h
      · have := band_lt z 63 6 rfl (by decide)
        obtain rfl := List.mem_singleton.1 h
        omega
    refine sat_loop (fun v : Int × List Int => (7 - v.1).toNat) (fun v => 0 ≤ v.1 ∧ v.1 ≤ 7 ∧ (v.2.length : Int) = v.1 ∧ ∀ u ∈ v.2, 0 ≤ u ∧ u ≤ far) ?_ 2000000 _ ⟨by simp, by simp, by simp, by simp⟩ (by simp only; omega)
    rintro ⟨i, d⟩ ⟨h0, h1, h2, h3⟩ ag hag
    simp only at h0 h1 h2 h3
    show Sat (hocketlaw11_Msg.B3 2000000 y _ ag i d) _
    unfold hocketlaw11_Msg.B3
    refine sat_if (fun hlt => ?_) (fun _ => ?_)
    · refine sat_b (app_eq (by simp only [List.length_singleton]; omega)) ?_
      have hw : w64 (i + 1) = i + 1 := w64_id (by omega)
      rw [hw]
      exact hag _ ⟨by simp only; omega, by simp only; omega, by simp; omega, grow _ _ h3⟩ (by simp only; omega)
    · show Sat (hocketlaw11_Msg.J2 2000000 y x d) _
      unfold hocketlaw11_Msg.J2
      have hd : d.length ≤ 7 := by omega
      have hb := band_lt (shr .i64 y 21) 7 3 rfl (by decide)
      refine sat_loop (fun v : Int × List Int => (7 - v.1).toNat) (fun v => 0 ≤ v.1 ∧ v.1 ≤ 7 ∧ (v.2.length : Int) = v.1 ∧ ∀ u ∈ v.2, 0 ≤ u ∧ u ≤ far) ?_ 2000000 _ ⟨by simp, by simp, by simp, by simp⟩ (by simp only; omega)
      rintro ⟨i, e⟩ ⟨g0, g1, g2, g3⟩ ag hag
      simp only at g0 g1 g2 g3
      show Sat (hocketlaw11_Msg.B2 2000000 y _ ag i e) _
      unfold hocketlaw11_Msg.B2
      refine sat_if (fun hlt => ?_) (fun _ => ?_)
      · refine sat_b (app_eq (by simp only [List.length_singleton]; omega)) ?_
        have hw : w64 (i + 1) = i + 1 := w64_id (by omega)
        rw [hw]
        exact hag _ ⟨by simp only; omega, by simp only; omega, by simp; omega, grow _ _ g3⟩ (by simp only; omega)
      · show Sat (hocketlaw11_Msg.J3 2000000 x y d e) _
        unfold hocketlaw11_Msg.J3
        refine sat_r ⟨⟨gF, gT, gV, .inr (.inr (.inr (.inr (.inr (.inr (.inl ⟨k, by dsimp only; omega, by dsimp only; omega, ⟨hd, h3⟩, ⟨by dsimp only; omega, g3⟩⟩))))))⟩, ?_⟩
        unfold canM headOf; dsimp only; rw [if_neg k2, if_neg k3, if_neg k4, if_neg k5, if_pos k]
  refine sat_if (fun k => ?_) (fun k8 => ?_)
  · obtain ⟨e, e1, e2, e3, e4⟩ := entry_num x (y := band .i64 (shr .i64 y 10) 63) (by omega)
    have hm : 0 ≤ mx e.Cmd.Who 0 ∧ mx e.Cmd.Who 0 ≤ 2047 := by rw [mx_eq]; have := e2.w; omega
    have hl := e2.l
    have hkk := e2.k
    unfold CmdOk at hl
    refine sat_b e1 (sat_r ⟨⟨gF, gT, gV, .inr (.inr (.inr (.inr (.inr (.inr (.inr ⟨k, by dsimp only; omega, ⟨by dsimp only; omega, by dsimp only; omega, by dsimp only; omega, by dsimp only; omega, by dsimp only; omega, by dsimp only; omega, by dsimp only; omega⟩⟩))))))⟩, ?_⟩)
    unfold canM headOf; dsimp only; rw [if_neg k2, if_neg k3, if_neg k4, if_neg k5, if_neg k7, if_pos k]
  · have h16 : w64 (band .i64 x 7 + 1) = 1 ∨ w64 (band .i64 x 7 + 1) = 6 := by rw [hw] at *; omega
    refine sat_r ⟨⟨gF, gT, gV, by rcases h16 with h | h; exact .inl h; exact .inr (.inl h)⟩, ?_⟩
    unfold canM headOf; dsimp only; rw [if_neg k2, if_neg k3, if_neg k4, if_neg k5, if_neg k7, if_neg k8]
end Go.Gp
