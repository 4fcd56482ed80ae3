/- What the statements say, of the plain functions. -/
import Derived.Test.YtploijfgnnkddaaGreatDefs
import Derived.Test.YtploijfgnnkddaaGreatLe
import Derived.Test.YtploijfgnnkddaaGreatThInts
import Derived.Test.YtploijfgnnkddaaGreatThPack
import Derived.Test.YtploijfgnnkddaaGreatThMesg
import Derived.Test.YtploijfgnnkddaaGreatThMesg2
import Derived.Test.YtploijfgnnkddaaGreatThMesg3
import Derived.Test.YtploijfgnnkddaaGreatThMesg4
import Derived.Test.YtploijfgnnkddaaGreatThMesg5
import Derived.Test.YtploijfgnnkddaaGreatThMesg6
import Derived.Test.YtploijfgnnkddaaGreatThMsg
import Derived.Test.YtploijfgnnkddaaGreatThMesg7
import Derived.Test.YtploijfgnnkddaaGreatThMesg8
import Derived.Test.YtploijfgnnkddaaGreatThMesgS
import Derived.Test.YtploijfgnnkddaaGreatGpCrc
import Derived.Test.YtploijfgnnkddaaGreatThCrc
import Derived.Test.YtploijfgnnkddaaGreatThFram
import Derived.Test.YtploijfgnnkddaaGreatThPack1
import Derived.Test.YtploijfgnnkddaaGreatThMesg9
import Derived.Test.YtploijfgnnkddaaGreatThMesg10
import Derived.Test.YtploijfgnnkddaaGreatThRows
import Derived.Test.YtploijfgnnkddaaGreatThMach
import Derived.Test.YtploijfgnnkddaaGreatThMach2
import Derived.Test.YtploijfgnnkddaaGreatThMach3
import Derived.Test.YtploijfgnnkddaaGreatThMach4
import Derived.Test.YtploijfgnnkddaaGreatThBlob
import Derived.Test.YtploijfgnnkddaaGreatThBlob2
import Derived.Test.YtploijfgnnkddaaGreatThStep
import Derived.Test.YtploijfgnnkddaaGreatThState
import Derived.Test.YtploijfgnnkddaaGreatThXfer
import Derived.Test.YtploijfgnnkddaaGreatThXfer2
/- What comes over, though chunks come late and twice: the law XferComes. -/
namespace Go.Gp
open Go
theorem chk_no {t : List UInt8} {j j' : Nat} (h : 64 * j < t.length) (hj : j' ≤ j) : ¬FitsM (fT t (j + 1)).1 (fT t (j + 1)).2.2.1 (fT t (j + 1)).2.2.2.1 (fT t (j + 1)).2.2.2.2.1 (fT t (j + 1)).2.2.2.2.2.1 (fT t (j + 1)).2.2.2.2.2.2 (chk t j') := fun g => by
  have h5 : (askM (fT t j')).At = ((fT t (j + 1)).2.2.2.1.length : Int) := g.2.2.2.2.1
  rw [ask_at (by omega), fT_b, List.length_take] at h5
  omega
theorem hocketlaw19_XferComes.pure (x0 : List Int) (x1 x2 : Int) (x3 : List Int) {o0 o1 o2 o3 : Prop} (_ : o0) (_ : o1) (_ : o2) (_ : o3) : ∃ K r, hocketlaw19_XferComes.f K x0 x1 x2 x3 = some r := by
  obtain ⟨K, hK⟩ : ∃ K, K = 2000000 := ⟨_, rfl⟩
  have hK2 : 20000 ≤ K := by rw [hK]; decide
  refine ⟨K, sat_pure ?_⟩
  unfold hocketlaw19_XferComes.f
  refine sat_bs (state_ok31 hK x0 x1 x2) (fun s hs => ?_)
  obtain ⟨hs, h31⟩ := hs
  refine sat_b (blobEncode1_eq hK (ok_smallS hs)) ?_
  have hlen := stW_lenR hs
  have hsl := sealB_len (stW s)
  have hdec := decS_seal hs
  obtain ⟨t, ht⟩ : ∃ t, sealB (stW s) = t := ⟨_, rfl⟩
  rw [ht] at hsl hdec ⊢
  clear ht
  refine sat_b new_eq ?_
  refine sat_loop (fun v : Int × xfer_Fetch × api_Msg => (400 - v.1).toNat)
    (fun v => ∃ j : Nat, v.2.1 = mkF (fT t j) ∧ (j = 0 ∨ 64 * (j - 1) < t.length) ∧ (0 ≤ v.1 ∧ v.1 ≤ (j : Int) + 100) ∧ (v.2.2 = zmsg ∨ ∃ j', j' ≤ j ∧ v.2.2 = chk t j')) ?_ K _ ⟨0, rfl, .inl rfl, by simp, .inl rfl⟩ (by simp only; omega)
  rintro ⟨i, f, late⟩ ⟨j, g2, g3, g1, g4⟩ ag hag
  simp only at g1 g2 g4
  subst g2
  show Sat (hocketlaw19_XferComes.B1 K s t x3 _ ag i (mkF (fT t j)) late) _
  unfold hocketlaw19_XferComes.B1
  have hj : j ≤ 130 := by omega
  have hbl : ∀ j, (fT t j).2.2.2.1.length ≤ 7300 := fun j => by rw [fT_b, List.length_take]; omega
  have hb := hbl j
  refine sat_t (by omega) (sat_b (done_eq hK (f := fT t j) (by omega) (by omega)) ?_)
  by_cases hd : t.length ≤ 64 * j
  · have hf := fT_end (by omega) hd
    rw [hf]
    have hdn : doneF (8, 1, 2, t, (t.length : Int), true, true) = (s, true) := by unfold doneF; rw [if_pos rfl]; exact hdec
    rw [hdn]
    refine sat_t rfl (sat_b (state_same (by omega) (ok_smallS hs) _) (sat_t (by simp) ?_))
    refine sat_b (awake_xfer hK) ?_
    unfold hocketlaw19_XferComes.J2
    exact sat_t rfl (sat_r trivial)
  · have hdn : doneF (fT t j) = (zstate, false) := by
      unfold doneF
      rw [fT_done (by omega), decide_eq_false hd, if_neg (by simp)]
    rw [hdn]
    refine sat_f (by simp) (sat_b (ask_eq (fT t j)) (sat_b (serve_chk hK (by omega) (by omega)) (sat_t rfl ?_)))
    have hcl := fun j => chk_len (t := t) (j := j)
    have hc := hcl j
    have hb2 := hbl (j + 1)
    have hw : w64 (i + 1) = i + 1 := w64_id (by omega)
    have on : Sat (hocketlaw19_XferComes.J3 K ag i (mkF (fT t j)) (chk t j, true) late false) (fun _ => True) := by
      unfold hocketlaw19_XferComes.J3
      refine sat_f (by simp) ?_
      refine sat_b (take_eq hK (f := fT t j) (m := chk t j) (by rw [List.length_append]; omega) (by rw [List.length_append]; omega)) ?_
      rw [take_chk hdec (by omega)]
      refine sat_b (take_eq hK (f := fT t (j + 1)) (m := chk t j) (by rw [List.length_append]; omega) (by rw [List.length_append]; omega)) ?_
      rw [take_no (chk_no (by omega) (Nat.le_refl j))]
      have hl : late.Data.length ≤ 64 := by
        rcases g4 with rfl | ⟨j', _, rfl⟩
        · simp [zmsg]
        · exact hcl j'
      refine sat_b (take_eq hK (f := fT t (j + 1)) (m := late) (by rw [List.length_append]; omega) (by rw [List.length_append]; omega)) ?_
      have hno : ¬FitsM (fT t (j + 1)).1 (fT t (j + 1)).2.2.1 (fT t (j + 1)).2.2.2.1 (fT t (j + 1)).2.2.2.2.1 (fT t (j + 1)).2.2.2.2.2.1 (fT t (j + 1)).2.2.2.2.2.2 late := by
        rcases g4 with rfl | ⟨j', h', rfl⟩
        · exact fun g => by have : (0 : Int) = 5 := g.2.1; omega
        · exact chk_no (by omega) h'
      rw [take_no hno, hw]
      refine hag _ ⟨j + 1, rfl, .inr (by omega), by simp only; omega, ?_⟩ (by simp only; omega)
      rcases g4 with h | ⟨j', h', h⟩
      · exact .inl h
      · exact .inr ⟨j', by omega, h⟩
    refine sat_if (fun hx => sat_if (fun h100 => ?_) (fun _ => on)) (fun _ => on)
    refine sat_b (ix_get (by omega) (by omega)) ?_
    cases band .i64 x3[i.toNat] 1 == 1 with
    | false => exact on
    | true =>
      unfold hocketlaw19_XferComes.J3
      refine sat_t rfl ?_
      rw [hw]
      exact hag _ ⟨j, rfl, g3, by simp only; omega, .inr ⟨j, Nat.le_refl j, rfl⟩⟩ (by simp only; omega)
end Go.Gp
