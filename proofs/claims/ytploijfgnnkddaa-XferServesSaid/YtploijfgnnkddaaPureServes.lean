/- What the statements say, of the plain functions. -/
import Derived.Test.YtploijfgnnkddaaDefs
import Derived.Test.YtploijfgnnkddaaLe
import Derived.Test.YtploijfgnnkddaaThInts
import Derived.Test.YtploijfgnnkddaaThPack
import Derived.Test.YtploijfgnnkddaaThMesg
import Derived.Test.YtploijfgnnkddaaThMesg2
import Derived.Test.YtploijfgnnkddaaThMesg3
import Derived.Test.YtploijfgnnkddaaThMesg4
import Derived.Test.YtploijfgnnkddaaThMesg5
import Derived.Test.YtploijfgnnkddaaThMesg6
import Derived.Test.YtploijfgnnkddaaThMsg
import Derived.Test.YtploijfgnnkddaaThMesg7
import Derived.Test.YtploijfgnnkddaaThMesg8
import Derived.Test.YtploijfgnnkddaaThMesgS
import Derived.Test.YtploijfgnnkddaaGpCrc
import Derived.Test.YtploijfgnnkddaaThCrc
import Derived.Test.YtploijfgnnkddaaThFram
import Derived.Test.YtploijfgnnkddaaThPack1
import Derived.Test.YtploijfgnnkddaaThMesg9
import Derived.Test.YtploijfgnnkddaaThMesg10
import Derived.Test.YtploijfgnnkddaaThRows
import Derived.Test.YtploijfgnnkddaaThMach
import Derived.Test.YtploijfgnnkddaaThMach2
import Derived.Test.YtploijfgnnkddaaThMach3
import Derived.Test.YtploijfgnnkddaaThMach4
import Derived.Test.YtploijfgnnkddaaThBlob
import Derived.Test.YtploijfgnnkddaaThBlob2
import Derived.Test.YtploijfgnnkddaaThStep
import Derived.Test.YtploijfgnnkddaaThState
import Derived.Test.YtploijfgnnkddaaThXfer
/- The plain law of what is served. -/
namespace Go.Gp
open Go
def askW (k f t v a : Int) : api_Msg := ⟨k, f, t, v, 0, 0, false, 0, 0, a, 0, ([] : List UInt8), 0, 0, ([] : List Int), ([] : List Int), 0, (⟨0, 0, (⟨0, 0, ([] : List UInt8), ([] : List UInt8), ([] : List UInt8)⟩ : api_Cmd)⟩ : api_Entry)⟩
theorem hocketlaw19_XferServes.pure (x0 : List UInt8) (x1 x2 x3 x4 : Int) {o0 o2 o3 o4 : Prop} (_ : o0) (h1 : i64ok x1) (_ : o2) (_ : o3) (_ : o4) : ∃ K r, hocketlaw19_XferServes.f K x0 x1 x2 x3 x4 = some r := by
  obtain ⟨K, hK⟩ : ∃ K, K = 2000000 := ⟨_, rfl⟩
  have hK2 : 1000 ≤ K := by rw [hK]; decide
  have hfar : far = 1099511627776 := rfl
  refine ⟨K, sat_pure ?_⟩
  unfold hocketlaw19_XferServes.f
  refine sat_if (fun _ => fin_xfer hK) (fun h3 => ?_)
  have b2 := band_lt x2 255 8 rfl (by decide)
  have b3 := band_lt x3 255 8 rfl (by decide)
  have b4 := band_lt x4 65535 16 rfl (by decide)
  have t2 := tmod_nn (x := band .i64 x2 255) (y := 7) b2.1 (by decide)
  have t3 := tmod_nn (x := band .i64 x3 255) (y := 7) b3.1 (by decide)
  obtain ⟨f, hf⟩ : ∃ f, Int.tmod (band .i64 x2 255) 7 = f := ⟨_, rfl⟩
  obtain ⟨t, ht⟩ : ∃ t, Int.tmod (band .i64 x3 255) 7 = t := ⟨_, rfl⟩
  obtain ⟨v, hv⟩ : ∃ v, band .i64 x4 65535 = v := ⟨_, rfl⟩
  rw [hf] at t2
  rw [ht] at t3
  rw [hv] at b4
  refine sat_loop (fun w : Int × Int => (2 - w.2).toNat) (fun w => i64ok w.1 ∧ ∃ i : Nat, w.2 = i ∧ i ≤ 2) ?_ K _ ⟨h1, 0, rfl, by omega⟩ (by simp only; omega)
  rintro ⟨a, j⟩ ⟨ha, i, hi, hi2⟩ ag hag
  simp only at ha hi
  subst hi
  show Sat (hocketlaw19_XferServes.B1 K x0 x2 x3 x4 _ ag a (i : Int)) _
  unfold hocketlaw19_XferServes.B1
  rw [hf, ht, hv]
  refine sat_if (fun hlt => ?_) (fun _ => ?_)
  · have ok : 0 ≤ a ∧ a < (x0.length : Int) → OkM (askW 4 f t v a) := fun g => ok4 rfl (by simp only [askW]; omega) (by simp only [askW]; omega) (by simp only [askW]; omega) (by simp only [askW]; omega)
    have next : Sat (hocketlaw19_XferServes.J3 K ag a (i : Int) false) (fun _ => True) := by
      unfold hocketlaw19_XferServes.J3
      refine sat_f (by simp) ?_
      rw [w64_succN (by omega)]
      have b := band_lt a 511 9 rfl (by decide)
      exact hag _ ⟨by unfold i64ok; simp only; omega, i + 1, rfl, by omega⟩ (by simp only; omega)
    refine sat_b (serve_eq hK (m := askW 4 f t v a) (by omega) (mild0 rfl rfl rfl) ha) ?_
    by_cases hp : 0 ≤ a ∧ a < (x0.length : Int)
    · have es : serveB x0 (askW 4 f t v a) = (chunk x0 (askW 4 f t v a) ((x0.drop (askW 4 f t v a).At.toNat).take 64), true) := if_pos ⟨rfl, hp, ok hp⟩
      rw [es]
      dsimp only
      refine sat_t hp.1 ?_
      rw [decide_eq_true hp.2]
      unfold hocketlaw19_XferServes.J2
      rw [hf, ht, hv]
      refine sat_f (by simp) (sat_t rfl (sat_t rfl (sat_t rfl (sat_t rfl (sat_t rfl (sat_t rfl (sat_t rfl ?_)))))))
      have hm : mn (w64 (a + 64)) (x0.length : Int) = min (a + 64) (x0.length : Int) := by rw [mn_eq, w64_id (by omega)]
      rw [hm]
      refine sat_b (cut_eq ⟨by omega, by omega, by omega⟩) ?_
      have e : List.drop a.toNat (List.take (min (a + 64) (x0.length : Int)).toNat x0) = (x0.drop a.toNat).take 64 := by
        rw [List.drop_take]
        by_cases hc : a + 64 ≤ (x0.length : Int)
        · rw [show (min (a + 64) (x0.length : Int)).toNat - a.toNat = 64 by omega]
        · rw [List.take_of_length_le (by rw [List.length_drop]; omega), List.take_of_length_le (by rw [List.length_drop]; omega)]
      rw [e]
      have e2 : (!((chunk x0 (askW 4 f t v a) ((x0.drop (askW 4 f t v a).At.toNat).take 64)).Data == (x0.drop a.toNat).take 64)) = false := by
        rw [show (chunk x0 (askW 4 f t v a) ((x0.drop (askW 4 f t v a).At.toNat).take 64)).Data = (x0.drop a.toNat).take 64 from rfl]
        simp
      rw [e2]
      exact next
    · have es : serveB x0 (askW 4 f t v a) = (zmsg, false) := if_neg (fun g => hp g.2.1)
      rw [es]
      dsimp only
      refine sat_if (fun h0 => ?_) (fun h0 => ?_)
      · rw [decide_eq_false (fun g => hp ⟨h0, g⟩)]
        unfold hocketlaw19_XferServes.J2
        exact sat_f (by simp) (sat_f (by simp) next)
      · unfold hocketlaw19_XferServes.J2
        exact sat_f (by simp) (sat_f (by simp) next)
  · show Sat (hocketlaw19_XferServes.J1 K x0 x2 x3 x4) _
    unfold hocketlaw19_XferServes.J1
    rw [hf, ht, hv]
    refine sat_b (serve_eq hK (m := askW 1 f t v 0) (by omega) (mild0 rfl rfl rfl) (by unfold i64ok; simp [askW])) ?_
    have e : serveB x0 (askW 1 f t v 0) = (zmsg, false) := if_neg (fun g => by cases g.1)
    rw [e]
    exact sat_f (by simp) (fin_xfer hK)
end Go.Gp
