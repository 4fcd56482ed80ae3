/- What the statements say, of the plain functions. -/
import Derived.Test.YtploijfgnnkddaaDefs
import Derived.Test.YtploijfgnnkddaaLe
import Derived.Test.YtploijfgnnkddaaThInts
import Derived.Test.YtploijfgnnkddaaThPack
import Derived.Test.YtploijfgnnkddaaThMesg
import Derived.Test.YtploijfgnnkddaaThMesg2
import Derived.Test.YtploijfgnnkddaaThMesg3
import Derived.Test.YtploijfgnnkddaaThMesg4
import Derived.Test.YtploijfgnnkddaaThMesg5
import Derived.Test.YtploijfgnnkddaaThMesg6
import Derived.Test.YtploijfgnnkddaaThMsg
import Derived.Test.YtploijfgnnkddaaThMesg7
import Derived.Test.YtploijfgnnkddaaThMesg8
import Derived.Test.YtploijfgnnkddaaThMesgS
import Derived.Test.YtploijfgnnkddaaGpCrc
import Derived.Test.YtploijfgnnkddaaThCrc
import Derived.Test.YtploijfgnnkddaaThFram
import Derived.Test.YtploijfgnnkddaaThPack1
import Derived.Test.YtploijfgnnkddaaThMesg9
import Derived.Test.YtploijfgnnkddaaThMesg10
import Derived.Test.YtploijfgnnkddaaThRows
import Derived.Test.YtploijfgnnkddaaThMach
import Derived.Test.YtploijfgnnkddaaThMach2
import Derived.Test.YtploijfgnnkddaaThMach3
import Derived.Test.YtploijfgnnkddaaThMach4
import Derived.Test.YtploijfgnnkddaaThBlob
import Derived.Test.YtploijfgnnkddaaThBlob2
import Derived.Test.YtploijfgnnkddaaThStep
import Derived.Test.YtploijfgnnkddaaThState
/- The plain laws of states in bytes. -/
namespace Go.Gp
open Go
theorem xor_ne {x t : UInt8} (h : t ≠ 0) : x ≠ x ^^^ t := fun e => h (by
  have : x ^^^ (x ^^^ t) = x ^^^ x := by rw [← e]
  rw [← UInt8.xor_assoc] at this
  simpa using this)
theorem bit_ne (i : Nat) : toU8 (((1 : UInt8).toNat : Int) * 2 ^ (min (wu64 (band .i64 (i : Int) 7) : Int).toNat 8)) ≠ 0 := by
  rw [show (7 : Int) = 2 ^ 3 - 1 from rfl, band_mask _ 3 (by decide), show (2 : Int) ^ 3 = 8 from rfl]
  have h : ((i : Int) % 8) = 0 ∨ ((i : Int) % 8) = 1 ∨ ((i : Int) % 8) = 2 ∨ ((i : Int) % 8) = 3 ∨ ((i : Int) % 8) = 4 ∨ ((i : Int) % 8) = 5 ∨ ((i : Int) % 8) = 6 ∨ ((i : Int) % 8) = 7 := by omega
  rcases h with h | h | h | h | h | h | h | h <;> rw [h] <;> decide
theorem seal_lenS {s : api_State} (h : OkS s) : 4 ≤ (sealB (stW s)).length ∧ (sealB (stW s)).length ≤ 900004 := by
  have := stW_len (ok_smallS h)
  rw [sealB_len]
  omega
theorem hocketlaw15_BlobTells.pure (x0 : List Int) (x1 x2 : Int) (x3 : List UInt8) (x4 : Int) (x5 : UInt8) {o0 o1 o2 o3 : Prop} (_ : o0) (_ : o1) (_ : o2) (_ : o3) (h4 : i64ok x4) : ∃ K r, hocketlaw15_BlobTells.f K x0 x1 x2 x3 x4 x5 = some r := by
  obtain ⟨K, hK⟩ : ∃ K, K = 2000000 := ⟨_, rfl⟩
  have hK2 : 1000000 ≤ K := by rw [hK]; decide
  refine ⟨K, sat_pure ?_⟩
  unfold hocketlaw15_BlobTells.f
  refine sat_if (fun _ => fin_blob hK) (fun h3 => ?_)
  refine sat_bs (state_ok hK x0 x1 x2) (fun s hs => ?_)
  have hl := seal_lenS hs
  refine sat_b (blobEncode1_eq hK (ok_smallS hs)) (sat_b (blobEncode_eq hK (ok_smallS hs)) (sat_t rfl (sat_b (app_eq (by simp only [List.length_nil]; omega)) ?_)))
  rw [List.nil_append]
  obtain ⟨t, ht⟩ : ∃ t, sealB (stW s) = t := ⟨_, rfl⟩
  rw [ht] at hl ⊢
  have hb := band_lt x4 65535 16 rfl (by decide)
  have hr := tmod_nn (x := band .i64 x4 65535) (y := (t.length : Int)) hb.1 (by omega)
  refine sat_b (rem_eq (by omega)) ?_
  obtain ⟨k, hk⟩ : ∃ k : Nat, (band .i64 x4 65535).tmod (t.length : Int) = k := ⟨((band .i64 x4 65535).tmod (t.length : Int)).toNat, by omega⟩
  rw [hk] at hr ⊢
  refine sat_b (ix_get (by omega) (by rw [Int.toNat_natCast]; omega)) (sat_b (cut_eq ⟨by omega, by omega, by omega⟩) ?_)
  simp only [Int.toNat_natCast, Int.toNat_zero, List.drop_zero]
  refine sat_b (app_eq (by simp only [List.length_nil]; omega)) (sat_b (app_eq (by simp only [List.length_append, List.length_nil, List.length_singleton]; omega)) ?_)
  rw [List.nil_append]
  obtain ⟨L, hL⟩ : ∃ L : List (List UInt8), L = [x3, t, t.set k x5, t.take k, t ++ [x5]] := ⟨_, rfl⟩
  have hL5 : L.length = 5 := by rw [hL]; rfl
  have hLl : ∀ x ∈ L, x.length ≤ 950000 := fun x hx => by
    rw [hL] at hx
    simp only [List.mem_cons, List.not_mem_nil, or_false] at hx
    rcases hx with rfl | rfl | rfl | rfl | rfl
    · omega
    · omega
    · rw [List.length_set]; omega
    · rw [List.length_take]; omega
    · rw [List.length_append, List.length_singleton]; omega
  refine sat_loop (fun v : Int => (5 - v).toNat) (fun v => ∃ i : Nat, v = i ∧ i ≤ 5) ?_ K _ ⟨0, rfl, by omega⟩ (by omega)
  rintro _ ⟨i, rfl, hi⟩ ag hag
  show Sat (hocketlaw15_BlobTells.B1 K x3 t t (k : Int) x5 (t.take k) (t ++ [x5]) x4 _ ag (i : Int)) _
  unfold hocketlaw15_BlobTells.B1
  rw [show ([x3, t, t.set (k : Int).toNat x5, t.take k, t ++ [x5]] : List (List UInt8)) = L by rw [hL, Int.toNat_natCast], hL5]
  refine sat_if (fun hlt => ?_) (fun _ => ?_)
  · obtain ⟨x, q1, q2⟩ : ∃ x, ix L (i : Int) = some x ∧ x.length ≤ 950000 := ⟨L[i], ix_get (by omega) (by rw [Int.toNat_natCast]; omega), hLl _ (List.getElem_mem _)⟩
    refine sat_b q1 (sat_b (blobDecode_eq hK (by omega) (by omega)) (sat_b (blobDecode1_eq hK (by omega) (by omega)) (sat_t rfl (sat_b (state_same (by omega) (decS_small x) _) ?_))))
    rw [decide_eq_true rfl]
    unfold hocketlaw15_BlobTells.J2
    refine sat_f (by simp) ?_
    obtain ⟨J, hJ⟩ : ∃ J : List Int, J = [x4, (k : Int), w64 ((x.length : Int) - 1), (x.length : Int), 0, -1] := ⟨_, rfl⟩
    have hJ6 : J.length = 6 := by rw [hJ]; rfl
    have hJl : ∀ y ∈ J, i64ok y := fun y hy => by
      rw [hJ] at hy
      simp only [List.mem_cons, List.not_mem_nil, or_false] at hy
      rcases hy with rfl | rfl | rfl | rfl | rfl | rfl
      · exact h4
      · unfold i64ok; omega
      · unfold i64ok; rw [w64_id (by omega)]; omega
      · unfold i64ok; omega
      · unfold i64ok; omega
      · unfold i64ok; omega
    refine sat_loop (fun v : Int => (6 - v).toNat) (fun v => ∃ i : Nat, v = i ∧ i ≤ 6) ?_ K _ ⟨0, rfl, by omega⟩ (by omega)
    rintro _ ⟨j, rfl, hj⟩ ag2 hag2
    show Sat (hocketlaw15_BlobTells.B2 K x4 (k : Int) x _ ag2 (j : Int)) _
    unfold hocketlaw15_BlobTells.B2
    rw [← hJ, hJ6]
    refine sat_if (fun hlt2 => ?_) (fun _ => ?_)
    · obtain ⟨y, y1, y2⟩ : ∃ y, ix J (j : Int) = some y ∧ i64ok y := ⟨J[j], ix_get (by omega) (by rw [Int.toNat_natCast]; omega), hJl _ (List.getElem_mem _)⟩
      refine sat_b y1 (sat_b (part_eq (by omega) y2) (sat_b (part1_eq (by omega) y2) (sat_t rfl (sat_t rfl ?_))))
      rw [w64_succN (by omega)]
      exact hag2 _ ⟨j + 1, rfl, by omega⟩ (by omega)
    · show Sat (hocketlaw15_BlobTells.J3 K ag (i : Int)) _
      unfold hocketlaw15_BlobTells.J3
      rw [w64_succN (by omega)]
      exact hag _ ⟨i + 1, rfl, by omega⟩ (by omega)
  · show Sat (hocketlaw15_BlobTells.J1 K) _
    unfold hocketlaw15_BlobTells.J1
    exact fin_blob hK
theorem hocketlaw15_BlobParts.pure (x0 : List Int) (x1 x2 x3 : Int) {o0 o1 o2 o3 : Prop} (_ : o0) (_ : o1) (_ : o2) (_ : o3) : ∃ K r, hocketlaw15_BlobParts.f K x0 x1 x2 x3 = some r := by
  obtain ⟨K, hK⟩ : ∃ K, K = 2000000 := ⟨_, rfl⟩
  have hK2 : 1000000 ≤ K := by rw [hK]; decide
  refine ⟨K, sat_pure ?_⟩
  unfold hocketlaw15_BlobParts.f
  refine sat_bs (state_ok hK x0 x1 x2) (fun s hs => ?_)
  have hl := seal_lenS hs
  have hlS := stW_short hs
  refine sat_b (blobEncode_eq hK (ok_smallS hs)) ?_
  obtain ⟨t, ht⟩ : ∃ t, sealB (stW s) = t := ⟨_, rfl⟩
  have hls : t.length ≤ 20000 := by rw [← ht, sealB_len]; omega
  rw [ht] at hl ⊢
  have fin : Sat (hocketlaw15_BlobParts.J1 K t s x3 t) (fun _ => True) := by
    unfold hocketlaw15_BlobParts.J1
    have hd := decS_seal hs
    rw [ht] at hd
    refine sat_b (blobDecode_eq hK (by omega) (by omega)) ?_
    rw [hd]
    refine sat_t rfl (sat_t rfl (sat_b (state_same (by omega) (ok_smallS hs) _) (sat_t (by simp) (sat_f (by omega) (sat_b (mach_same (by omega) (ok_smallS hs).m _) ?_)))))
    rw [decide_eq_true rfl]
    unfold hocketlaw15_BlobParts.J2
    refine sat_f (by simp) ?_
    have hw : w64 (8 * (t.length : Int)) = ((8 * t.length : Nat) : Int) := by rw [w64_id (by omega)]; omega
    have hb := band_lt x3 1048575 20 rfl (by decide)
    have hr := tmod_nn (x := band .i64 x3 1048575) (y := ((8 * t.length : Nat) : Int)) hb.1 (by omega)
    rw [hw]
    refine sat_b (rem_eq (by omega)) ?_
    obtain ⟨i, hi⟩ : ∃ i : Nat, (band .i64 x3 1048575).tmod ((8 * t.length : Nat) : Int) = i := ⟨((band .i64 x3 1048575).tmod ((8 * t.length : Nat) : Int)).toNat, by omega⟩
    rw [hi] at hr ⊢
    have hd8 : w64 (Int.tdiv (i : Int) 8) = ((i / 8 : Nat) : Int) := by
      rw [Int.tdiv_eq_ediv_of_nonneg (by omega), w64_id (by omega)]; omega
    rw [hd8]
    have hk : i / 8 < t.length := by omega
    have hg := ix_get (xs := t) (i := ((i / 8 : Nat) : Int)) (by omega) (by rw [Int.toNat_natCast]; exact hk)
    refine sat_b hg (sat_b hg ?_)
    simp only [Int.toNat_natCast]
    refine sat_b (blobDecode_eq hK (by rw [List.length_set]; omega) (by rw [List.length_set]; omega)) ?_
    have hturn : decS (t.set (i / 8) (t[i / 8] ^^^ toU8 (((1 : UInt8).toNat : Int) * 2 ^ (min (wu64 (band .i64 (i : Int) 7) : Int).toNat 8)))) = (zstate, false) := by
      subst ht
      exact decS_turn hk (xor_ne (bit_ne i))
    rw [hturn]
    exact sat_f (by simp) (fin_blob hK)
  refine sat_loop (fun v : List UInt8 × Int => (400 - v.2).toNat) (fun v => ∃ i : Nat, v.2 = i ∧ i ≤ 400 ∧ v.1 = t.take (64 * i)) ?_ K _ ⟨0, rfl, by omega, by simp⟩ (by simp only; omega)
  rintro ⟨c, j⟩ ⟨i, g1, g2, g3⟩ ag hag
  simp only at g1 g3
  subst g1 g3
  show Sat (hocketlaw15_BlobParts.B1 K t _ ag (t.take (64 * i)) (i : Int)) _
  unfold hocketlaw15_BlobParts.B1
  refine sat_if (fun hlt => ?_) (fun hge => ?_)
  · refine sat_b (part_eq (by omega) (by unfold i64ok; rw [List.length_take]; omega)) ?_
    by_cases hc : 64 * i < t.length
    · have hp : partB t ((t.take (64 * i)).length : Int) = ((t.drop (64 * i)).take 64, true) := by
        unfold partB
        rw [List.length_take, Nat.min_eq_left (by omega), if_pos (by omega), Int.toNat_natCast]
      rw [hp]
      dsimp only
      have hlen : ((t.drop (64 * i)).take 64).length = min 64 (t.length - 64 * i) := by rw [List.length_take, List.length_drop]
      refine sat_t rfl (sat_f (by omega) (sat_f (by omega) ?_))
      have more : Sat (hocketlaw15_BlobParts.J3 K (t.take (64 * i)) ((t.drop (64 * i)).take 64, true) ag (i : Int) false) (fun _ => True) := by
        unfold hocketlaw15_BlobParts.J3
        refine sat_f (by simp) (sat_b (app_eq (by simp only [List.length_take, List.length_drop]; omega)) ?_)
        rw [w64_succN (by omega)]
        refine hag _ ⟨i + 1, rfl, by omega, ?_⟩ (by simp only; omega)
        simp only
        rw [show 64 * (i + 1) = 64 * i + 64 by omega, List.take_add]
      refine sat_if (fun h64 => ?_) (fun _ => more)
      have e : ((w64 (((t.take (64 * i)).length : Int) + (((t.drop (64 * i)).take 64).length : Int))) != (t.length : Int)) = false := by
        rw [w64_id (by simp only [List.length_take, List.length_drop]; omega), bne_eq_false_iff_eq]
        simp only [List.length_take, List.length_drop] at hlen h64 ⊢
        omega
      rw [e]
      exact more
    · have hp : partB t ((t.take (64 * i)).length : Int) = ([], false) := by
        unfold partB
        rw [if_neg (by rw [List.length_take]; omega)]
      rw [hp]
      refine sat_f (by simp) ?_
      rw [List.take_of_length_le (by omega)]
      exact fin
  · rw [List.take_of_length_le (by omega)]
    exact fin
end Go.Gp
