/- What the statements say, of the plain functions. -/
import Derived.Test.YtploijfgnnkddaaGreatDefs
import Derived.Test.YtploijfgnnkddaaGreatLe
import Derived.Test.YtploijfgnnkddaaGreatThInts
import Derived.Test.YtploijfgnnkddaaGreatThPack
import Derived.Test.YtploijfgnnkddaaGreatThMesg
import Derived.Test.YtploijfgnnkddaaGreatThMesg2
import Derived.Test.YtploijfgnnkddaaGreatThMesg3
import Derived.Test.YtploijfgnnkddaaGreatThMesg4
import Derived.Test.YtploijfgnnkddaaGreatThMesg5
import Derived.Test.YtploijfgnnkddaaGreatThMesg6
import Derived.Test.YtploijfgnnkddaaGreatThMsg
import Derived.Test.YtploijfgnnkddaaGreatThMesg7
import Derived.Test.YtploijfgnnkddaaGreatThMesg8
import Derived.Test.YtploijfgnnkddaaGreatThMesgS
import Derived.Test.YtploijfgnnkddaaGreatGpCrc
import Derived.Test.YtploijfgnnkddaaGreatThCrc
import Derived.Test.YtploijfgnnkddaaGreatThFram
import Derived.Test.YtploijfgnnkddaaGreatThPack1
import Derived.Test.YtploijfgnnkddaaGreatThMesg9
import Derived.Test.YtploijfgnnkddaaGreatThMesg10
import Derived.Test.YtploijfgnnkddaaGreatThRows
import Derived.Test.YtploijfgnnkddaaGreatThMach
import Derived.Test.YtploijfgnnkddaaGreatThMach2
import Derived.Test.YtploijfgnnkddaaGreatThMach3
import Derived.Test.YtploijfgnnkddaaGreatThMach4
import Derived.Test.YtploijfgnnkddaaGreatThBlob
import Derived.Test.YtploijfgnnkddaaGreatThBlob2
import Derived.Test.YtploijfgnnkddaaGreatThStep
import Derived.Test.YtploijfgnnkddaaGreatThState
import Derived.Test.YtploijfgnnkddaaGreatThXfer
import Derived.Test.YtploijfgnnkddaaGreatThXfer2
/- What comes over, whoever meddles: the law XferOthers. -/
namespace Go.Gp
open Go
theorem hocketlaw19_XferOthers.pure (x0 : List Int) (x1 x2 : Int) (x3 : List Int) {o0 o1 o2 o3 : Prop} (_ : o0) (_ : o1) (_ : o2) (_ : o3) : ∃ K r, hocketlaw19_XferOthers.f K x0 x1 x2 x3 = some r := by
  obtain ⟨K, hK⟩ : ∃ K, K = 2000000 := ⟨_, rfl⟩; have hK2 : 20000 ≤ K := by rw [hK]; decide
  refine ⟨K, sat_pure ?_⟩; unfold hocketlaw19_XferOthers.f; refine sat_bs (state_ok31 hK x0 x1 x2) (fun s hs => ?_); obtain ⟨hs, h31⟩ := hs; refine sat_b (blobEncode1_eq hK (ok_smallS hs)) ?_; have hlen := stW_lenR hs; have hsl := sealB_len (stW s); have hdec := decS_seal hs; obtain ⟨t, ht⟩ : ∃ t, sealB (stW s) = t := ⟨_, rfl⟩; rw [ht] at hsl hdec ⊢; clear ht; refine sat_b new_eq ?_; refine sat_loop (fun v : Int × xfer_Fetch => (200 - v.1).toNat) (fun v => ∃ j : Nat, v.1 = (j : Int) ∧ v.2 = mkF (fT t j) ∧ (j = 0 ∨ 64 * (j - 1) < t.length)) ?_ K _ ⟨0, rfl, rfl, .inl rfl⟩ (by simp only; omega); rintro ⟨i, f⟩ ⟨j, g1, g2, g3⟩ ag hag; simp only at g1 g2; subst g1 g2; show Sat (hocketlaw19_XferOthers.B1 K s t x3 _ ag (j : Int) (mkF (fT t j))) _; unfold hocketlaw19_XferOthers.B1; have hj : j ≤ 130 := by omega
  have hbl : (fT t j).2.2.2.1.length ≤ 7300 := by rw [fT_b, List.length_take]; omega
  refine sat_t (by omega) (sat_b (done_eq hK (f := fT t j) (by omega) (by omega)) ?_)
  by_cases hd : t.length ≤ 64 * j
  · have hf := fT_end (by omega) hd; rw [hf]; have hdn : doneF (8, 1, 2, t, (t.length : Int), true, true) = (s, true) := by unfold doneF; rw [if_pos rfl]; exact hdec
    rw [hdn]; refine sat_t rfl (sat_b (state_same (by omega) (ok_smallS hs) _) (sat_t (by simp) ?_)); refine sat_b (take_eq hK (f := (8, 1, 2, t, (t.length : Int), true, true)) (by simp only [List.length_append, List.length_singleton]; omega) (by simp only [List.length_append, List.length_singleton]; omega)) ?_; rw [take_no (fun h => by cases h.1)]; refine sat_f (by simp) (sat_b (awake_xfer hK) ?_); unfold hocketlaw19_XferOthers.J2; exact sat_t rfl (sat_r trivial)
  · have hdn : doneF (fT t j) = (zstate, false) := by
      unfold doneF; rw [fT_done (by omega), decide_eq_false hd, if_neg (by simp)]
    rw [hdn]; obtain ⟨v1, v2, v3⟩ := fT_v t j; have hA := ask_at (t := t) (j := j) (by omega); refine sat_f (by simp) (sat_b (ask_eq (fT t j)) (sat_b (serve_chk hK (by omega) (by omega)) (sat_t rfl ?_))); have hcl := chk_len (t := t) (j := j)
    have nxt : ∀ m' : api_Msg, ¬FitsM (fT t j).1 (fT t j).2.2.1 (fT t j).2.2.2.1 (fT t j).2.2.2.2.1 (fT t j).2.2.2.2.2.1 (fT t j).2.2.2.2.2.2 m' → m'.Data.length ≤ 64 →
        Sat (hocketlaw19_XferOthers.J4 K (mkF (fT t j)) ag (j : Int) (chk t j, true) (chk t j).Data (chk t j).Have (chk t j).Need (chk t j).Entry.Cmd.Key (chk t j).Entry.Cmd.Val (chk t j).Entry.Cmd.Old m') (fun _ => True) := fun m' hn hm => by
      unfold hocketlaw19_XferOthers.J4; refine sat_b (take_eq hK (f := fT t j) (by rw [List.length_append]; omega) (by rw [List.length_append]; omega)) ?_; rw [take_no hn]; refine sat_f (by simp) (sat_b (ask_eq (fT t j)) (sat_t rfl ?_)); refine sat_b (take_eq hK (f := fT t j) (m := chk t j) (by rw [List.length_append]; omega) (by rw [List.length_append]; omega)) ?_; rw [take_chk hdec (by omega)]; unfold hocketlaw19_XferOthers.J5; refine sat_f (by simp) ?_; rw [w64_succN (by omega)]; exact hag _ ⟨j + 1, rfl, rfl, .inr (by omega)⟩ (by simp only; omega)
    have pick : ∀ n : Int, Sat (hocketlaw19_XferOthers.J3 K (mkF (fT t j)) ag (j : Int) (chk t j, true) n) (fun _ => True) := fun n => by
      unfold hocketlaw19_XferOthers.J3; refine sat_if (fun _ => nxt _ (fun h => ?_) hcl) (fun _ => sat_if (fun _ => nxt _ (fun h => ?_) hcl) (fun _ => sat_if (fun _ => nxt _ (fun h => ?_) hcl) (fun _ => nxt _ (fun h => ?_) (by simp))))
      · have : (0 : Int) = (fT t j).2.2.1 := h.2.2.2.1; omega
      · have : (16 : Int) = (fT t j).1 := h.2.2.1; omega
      · have h5 : w64 ((askM (fT t j)).At + 1) = ((fT t j).2.2.2.1.length : Int) := h.2.2.2.2.1; have h6 : (askM (fT t j)).At = ((fT t j).2.2.2.1.length : Int) := rfl; rw [hA, w64_id (by omega)] at h5; omega
      · exact h.2.2.2.2.2.1 rfl
    refine sat_if (fun hx => ?_) (fun _ => pick 0); have hr := tmod_nn (x := (j : Int)) (y := (x3.length : Int)) (by omega) hx; refine sat_b (rem_eq (by omega)) (sat_b (ix_get hr.1 (by omega)) ?_); exact pick _
end Go.Gp
