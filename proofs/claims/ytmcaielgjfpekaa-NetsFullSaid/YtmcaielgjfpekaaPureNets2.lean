/- What the statements say, of the plain functions. -/
import Derived.Test.YtmcaielgjfpekaaDefs
import Derived.Test.YtmcaielgjfpekaaLe
import Derived.Test.YtmcaielgjfpekaaThInts
import Derived.Test.YtmcaielgjfpekaaThPack
import Derived.Test.YtmcaielgjfpekaaThMesg
import Derived.Test.YtmcaielgjfpekaaThMesg2
import Derived.Test.YtmcaielgjfpekaaThMesg3
import Derived.Test.YtmcaielgjfpekaaThMesg4
import Derived.Test.YtmcaielgjfpekaaThMesg5
import Derived.Test.YtmcaielgjfpekaaThMesg6
import Derived.Test.YtmcaielgjfpekaaThMsg
import Derived.Test.YtmcaielgjfpekaaThMesg7
import Derived.Test.YtmcaielgjfpekaaThMesg8
import Derived.Test.YtmcaielgjfpekaaThMesgS
import Derived.Test.YtmcaielgjfpekaaGpCrc
import Derived.Test.YtmcaielgjfpekaaThCrc
import Derived.Test.YtmcaielgjfpekaaThFram
import Derived.Test.YtmcaielgjfpekaaThNets
/- Frames under way: in whichever order, and as many as may be. -/
namespace Go.Gp
open Go
/-- The frame of number i, of those that go round. -/
def rnd (i : Int) : api_Msg := rdy (Int.tmod i 7) (Int.tmod (w64 (i + 1)) 7) i
theorem rnd_ok {i : Int} (h : 0 ≤ i ∧ i ≤ 1000) : OkM (rnd i) ∧ canM (rnd i) = rnd i ∧ (rnd i).From < 7 ∧ (rnd i).To < 7 := by
  have h1 := tmod_nn (x := i) (y := 7) h.1 (by decide)
  have h2 : w64 (i + 1) = i + 1 := w64_id (by omega)
  have h3 := tmod_nn (x := i + 1) (y := 7) (by omega) (by decide)
  unfold rnd
  rw [h2]
  exact ⟨rdy_ok (by omega) (by omega) (by omega), rdy_can _ _ _, h1.2, h3.2⟩
theorem send_full (n mask : Int) {l : List nets_frame} {m : api_Msg} (hm : Mild m) (hl : l.length = 200) : nets_Net_Send.f 3000 n mask l m = some (false, n, mask, l) := by
  rw [send_eq n mask hm (by omega), if_neg (fun h => by have := h.2.2.2; omega)]
theorem hocketlaw23_NetsOrder.pure (x0 : Int) (x1 : List Int) {o0 : Prop} (_ : o0) (h1 : x1.length ≤ 140737488351232 ∧ ∀ z ∈ x1, i64ok z) : ∃ K r, hocketlaw23_NetsOrder.f K x0 x1 = some r := by
  refine ⟨3000, sat_pure ?_⟩
  have hb0 := band_lt x0 31 5 rfl (by decide)
  obtain ⟨n, hn⟩ : ∃ n : Nat, w64 (band .i64 x0 31 + 1) = n ∧ n ≤ 32 := ⟨(band .i64 x0 31 + 1).toNat, by rw [w64_id (by omega)]; omega, by omega⟩
  obtain ⟨g, hg⟩ : ∃ g : Int → nets_frame, g = fun i => frmOf (rnd i) := ⟨_, rfl⟩
  unfold hocketlaw23_NetsOrder.f nets_New.f
  refine sat_b rfl ?_
  have taken : ∀ (l : List Int), l.length ≤ 40 → (∀ v ∈ l, 0 ≤ v ∧ v ≤ 1000) → Sat (hocketlaw23_NetsOrder.J1 3000 x1 l ⟨7, 0, l.map g⟩) (fun _ => True) := fun l hl hv => by
    unfold hocketlaw23_NetsOrder.J1
    refine sat_loop (fun v : List Int × Int × nets_Net => v.1.length) (fun v => v.1.length ≤ 40 ∧ (∀ u ∈ v.1, 0 ≤ u ∧ u ≤ 1000) ∧ (0 ≤ v.2.1 ∧ v.2.1 ≤ (x1.length : Int)) ∧ v.2.2 = ⟨7, 0, v.1.map g⟩) ?_ 3000 _ ⟨hl, hv, ⟨by simp, by simp⟩, rfl⟩ (by simp only; omega)
    rintro ⟨l, i, z⟩ ⟨hl, hv, hi, hz⟩ ag hag
    simp only at hl hv hi hz
    subst hz
    show Sat (hocketlaw23_NetsOrder.B1 3000 x1 _ ag l i _) _
    unfold hocketlaw23_NetsOrder.B1
    have out : Sat (hocketlaw23_NetsOrder.J2 3000) (fun _ => True) := by
      unfold hocketlaw23_NetsOrder.J2
      exact fin_nets
    refine sat_if (fun hlt => ?_) (fun _ => ?_)
    · unfold hocketlaw23_NetsOrder.J3
      refine sat_if (fun hp => ?_) (fun _ => out)
      rw [decide_eq_true_eq] at hp
      refine sat_b (ix_get hi.1 (by omega)) (sat_b (rem_eq (by omega)) ?_)
      have hb := band_lt (x1[i.toNat]'(by omega)) 255 8 rfl (by decide)
      have ht := tmod_nn (x := band .i64 (x1[i.toNat]'(by omega)) 255) (y := (l.length : Int)) hb.1 (by omega)
      obtain ⟨k, hk⟩ : ∃ k : Nat, Int.tmod (band .i64 (x1[i.toNat]'(by omega)) 255) (l.length : Int) = k := ⟨(Int.tmod (band .i64 (x1[i.toNat]'(by omega)) 255) (l.length : Int)).toNat, by omega⟩
      rw [hk] at ht ⊢
      have hkl : k < l.length := by omega
      have hvk := hv l[k] (List.getElem_mem _)
      obtain ⟨ok, hc, hf, hto⟩ := rnd_ok hvk
      have hfl := frm_len ok
      have hmk : (l.map g)[k]'(by simp; omega) = frmOf (rnd l[k]) := by simp [hg]
      refine sat_b (take_eq 7 0 (l := l.map g) (i := k) (by simp; omega) (by simp; omega) (by rw [hmk]; omega)) ?_
      rw [hmk, takeM_ok ok hc (apart0 _ _)]
      have hix := ix_get (xs := l) (i := (k : Int)) (by omega) (by simpa using hkl)
      simp only [Int.toNat_natCast] at hix
      refine sat_t rfl (sat_b hix (sat_t rfl (sat_b hix (sat_t rfl (sat_b hix ?_)))))
      rw [show ((rnd l[k]).To != Int.tmod (w64 (l[k] + 1)) 7) = false by unfold rnd rdy; simp]
      unfold hocketlaw23_NetsOrder.J4
      have hw : w64 ((k : Int) + 1) = ((k + 1 : Nat) : Int) := by rw [w64_succ (by omega) (by omega)]; simp
      have hw2 : w64 (i + 1) = i + 1 := w64_id (by omega)
      rw [hw, hw2]
      refine sat_f (by simp) (sat_b (cut_eq ⟨by omega, by omega, by omega⟩) (sat_b (cut_eq ⟨by omega, by omega, by omega⟩) (sat_b (app_eq (by simp; omega)) (sat_b (app_eq (by simp; omega)) (sat_b (count_eq _ _ _) ?_)))))
      simp only [Int.toNat_natCast, Int.toNat_zero, List.drop_zero, List.nil_append, List.take_length]
      refine sat_t (by simp) ?_
      refine hag _ ⟨by simp; omega, fun u hu => ?_, ⟨by simp only; omega, by simp only; omega⟩, by simp⟩ (by simp; omega)
      rcases List.mem_append.1 hu with h | h
      · exact hv u (List.mem_of_mem_take h)
      · exact hv u (List.mem_of_mem_drop h)
    · unfold hocketlaw23_NetsOrder.J3
      exact sat_f (by simp) out
  refine sat_loop (fun v : List Int × Int × nets_Net => ((n : Int) - v.2.1).toNat) (fun v => ∃ i : Nat, v.2.1 = i ∧ i ≤ n ∧ v.1.length = i ∧ (∀ u ∈ v.1, 0 ≤ u ∧ u ≤ 1000) ∧ v.2.2 = ⟨7, 0, v.1.map g⟩) ?_ 3000 _ ⟨0, rfl, by omega, rfl, by simp, by simp [show mn (mx 7 1) 7 = 7 by decide]⟩ (by simp only; omega)
  rintro ⟨l, _, z⟩ ⟨i, rfl, hi, hl, hv, hz⟩ ag hag
  simp only at hl hv hz
  subst hz
  show Sat (hocketlaw23_NetsOrder.B2 3000 x0 _ ag l i _) _
  unfold hocketlaw23_NetsOrder.B2
  rw [hn.1]
  refine sat_if (fun hlt => ?_) (fun hge => ?_)
  · obtain ⟨ok, hc, hf, hto⟩ := rnd_ok (i := (i : Int)) (by omega)
    have hw : w64 ((i : Int) + 1) = ((i + 1 : Nat) : Int) := by rw [w64_succ (by omega) (by omega)]; simp
    refine sat_b (send_ok 7 0 (m := rnd (i : Int)) ok hc hf hto (by simp; omega)) (sat_t rfl (sat_b (app_eq (by simp; omega)) ?_))
    rw [hw]
    refine hag _ ⟨i + 1, rfl, by omega, by simp [hl], fun u hu => ?_, by simp [hg]⟩ (by simp only; omega)
    rcases List.mem_append.1 hu with h | h
    · exact hv u h
    · obtain rfl := List.mem_singleton.1 h
      omega
  · exact taken l (by omega) hv
theorem hocketlaw23_NetsFull.pure (x0 x1 : Int) {o0 o1 : Prop} (_ : o0) (_ : o1) : ∃ K r, hocketlaw23_NetsFull.f K x0 x1 = some r := by
  refine ⟨3000, sat_pure ?_⟩
  have hb0 := band_lt x0 255 8 rfl (by decide)
  have hb1 := band_lt x1 255 8 rfl (by decide)
  obtain ⟨n, hn⟩ : ∃ n : Nat, band .i64 x0 255 = n := ⟨(band .i64 x0 255).toNat, by omega⟩
  obtain ⟨t, ht⟩ : ∃ t : Nat, band .i64 x1 255 = t := ⟨(band .i64 x1 255).toNat, by omega⟩
  obtain ⟨g, hg⟩ : ∃ g : Nat → nets_frame, g = fun i : Nat => frmOf (rdy 0 1 ((i : Nat) : Int)) := ⟨_, rfl⟩
  have ok : ∀ v : Nat, v ≤ 1000 → OkM (rdy 0 1 (v : Int)) := fun v hv => rdy_ok (by omega) (by omega) (by omega)
  have gl : ∀ v : Nat, v ≤ 1000 → (g v).f.Bytes.length ≤ 2000 := fun v hv => by rw [hg]; have := frm_len (ok v hv); dsimp only; omega
  unfold hocketlaw23_NetsFull.f nets_New.f
  refine sat_b rfl ?_
  -- all are sent
  refine sat_loop (fun v : Int × nets_Net => ((n : Int) - v.1).toNat) (fun v => ∃ i : Nat, v.1 = i ∧ i ≤ n ∧ v.2 = ⟨2, 0, (List.range (min i 200)).map g⟩) ?_ 3000 _ ⟨0, rfl, by omega, by simp [show mn (mx 2 1) 7 = 2 by decide]⟩ (by simp only; omega)
  rintro ⟨_, z⟩ ⟨i, rfl, hi, hz⟩ ag hag
  simp only at hz
  subst hz
  show Sat (hocketlaw23_NetsFull.B3 3000 x0 _ ag i _) _
  unfold hocketlaw23_NetsFull.B3
  rw [hn]
  have hs : ∀ j : Nat, j ≤ 1000 → w64 ((j : Int) + 1) = ((j + 1 : Nat) : Int) := fun j hj => by rw [w64_succ (by omega) (by omega)]; simp
  refine sat_if (fun hlt => ?_) (fun hge => ?_)
  · have hlen : ((List.range (min i 200)).map g).length = min i 200 := by simp
    have hin : i < n := by omega
    by_cases h2 : i < 200
    · refine sat_b (send_ok 2 0 (m := rdy 0 1 i) (ok i (by omega)) (rdy_can _ _ _) (by show (0 : Int) < 2; omega) (by show (1 : Int) < 2; omega) (by rw [hlen]; omega)) (sat_t (by simp; omega) ?_)
      rw [hs i (by omega)]
      refine hag _ ⟨i + 1, rfl, by omega, ?_⟩ (by simp only; omega)
      rw [show min (i + 1) 200 = min i 200 + 1 by omega, List.range_succ, List.map_append, show min i 200 = i by omega, hg]
      rfl
    · refine sat_b (send_full 2 0 (m := rdy 0 1 i) (ok_mild (ok i (by omega)) (rdy_can _ _ _)) (by rw [hlen]; omega)) ?_
      refine sat_t (by symm; rw [decide_eq_false_iff_not]; omega) ?_
      rw [hs i (by omega)]
      refine hag _ ⟨i + 1, rfl, by omega, ?_⟩ (by simp only; omega)
      rw [show min (i + 1) 200 = min i 200 by omega]
  have hin : i = n := by omega
  subst hin
  clear hag ag hge hi
  -- some come twice
  show Sat (hocketlaw23_NetsFull.J1 3000 x1 x0 ⟨2, 0, (List.range (min i 200)).map g⟩) _
  unfold hocketlaw23_NetsFull.J1
  obtain ⟨c, hc⟩ : ∃ c : Nat → Nat, c = fun j => if i = 0 then 0 else min (i + j) 200 - min i 200 := ⟨_, rfl⟩
  have fin : ∀ j : Nat, j ≤ 300 → (i = 0 ∨ j = t) → Sat (hocketlaw23_NetsFull.J2 3000 x0 x1 ⟨2, 0, (List.range (min i 200)).map g ++ List.replicate (c j) (g 0)⟩) (fun _ => True) := fun j hj hjt => by
    have goal : ∀ y : Int, mx y (mn (i : Int) 200) = ((min i 200 + c j : Nat) : Int) → Sat (hocketlaw23_NetsFull.J3 3000 ⟨2, 0, (List.range (min i 200)).map g ++ List.replicate (c j) (g 0)⟩ x0 y) (fun _ => True) := fun y hy => by
      unfold hocketlaw23_NetsFull.J3
      refine sat_b (count_eq _ _ _) ?_
      rw [hn, hy]
      refine sat_t (by simp) ?_
      have hmn : mn (i : Int) 200 = ((min i 200 : Nat) : Int) := by rw [mn_eq]; omega
      have hcl : c j ≤ 200 := by rw [hc]; dsimp only; split <;> omega
      refine sat_loop (fun v : Int × nets_Net => (((min i 200 : Nat) : Int) - v.1).toNat) (fun v => ∃ k : Nat, v.1 = k ∧ k ≤ min i 200 ∧ v.2 = ⟨2, 0, ((List.range (min i 200)).map g).drop k ++ List.replicate (c j) (g 0)⟩) ?_ 3000 _ ⟨0, rfl, by omega, by simp⟩ (by simp only; omega)
      rintro ⟨_, z⟩ ⟨k, rfl, hk, hz⟩ ag hag
      simp only at hz
      subst hz
      show Sat (hocketlaw23_NetsFull.B1 3000 x0 _ ag k _) _
      unfold hocketlaw23_NetsFull.B1
      rw [hn, hmn]
      refine sat_if (fun hlt => ?_) (fun _ => ?_)
      · have hlen : ((List.range (min i 200)).map g).length = min i 200 := by simp
        have hkl : k < ((List.range (min i 200)).map g).length := by omega
        have hd : ((List.range (min i 200)).map g).drop k = g k :: ((List.range (min i 200)).map g).drop (k + 1) := by
          rw [List.drop_eq_getElem_cons hkl]
          congr 1
          simp
        rw [hd]
        refine sat_b (take_eq 2 0 (l := (g k :: ((List.range (min i 200)).map g).drop (k + 1)) ++ List.replicate (c j) (g 0)) (i := 0) (by simp) (by simp; omega) (by simp only [List.cons_append, List.getElem_cons_zero]; exact gl k (by omega))) ?_
        simp only [List.cons_append, List.getElem_cons_zero, List.take_zero, List.nil_append, Nat.zero_add, List.drop_succ_cons, List.drop_zero]
        have hk0 : (g k).f = (frmOf (rdy 0 1 (k : Int))).f := by rw [hg]
        rw [hk0, takeM_ok (ok k (by omega)) (rdy_can _ _ _) (apart0 _ _)]
        refine sat_t rfl ?_
        unfold hocketlaw23_NetsFull.J5
        refine sat_f (by unfold rdy; simp) ?_
        rw [hs k (by omega)]
        exact hag _ ⟨k + 1, rfl, by omega, rfl⟩ (by simp only; omega)
      · show Sat (hocketlaw23_NetsFull.J4 3000) _
        unfold hocketlaw23_NetsFull.J4
        exact fin_nets
    unfold hocketlaw23_NetsFull.J2
    rw [hn, ht]
    refine sat_if (fun h0 => goal _ ?_) (fun h0 => goal _ ?_)
    · rw [mx_eq, mn_eq, hc]; dsimp only; rw [if_pos (by omega)]; omega
    · rw [w64_id (by omega), mx_eq, mn_eq, mn_eq, hc]; dsimp only; rw [if_neg (by omega)]; omega
  refine sat_loop (fun v : Int × nets_Net => ((t : Int) - v.1).toNat) (fun v => ∃ j : Nat, v.1 = j ∧ j ≤ t ∧ v.2 = ⟨2, 0, (List.range (min i 200)).map g ++ List.replicate (c j) (g 0)⟩) ?_ 3000 _ ⟨0, rfl, by omega, by rw [hc]; simp⟩ (by simp only; omega)
  rintro ⟨_, z⟩ ⟨j, rfl, hj, hz⟩ ag hag
  simp only at hz
  subst hz
  show Sat (hocketlaw23_NetsFull.B2 3000 x1 x0 _ ag j _) _
  unfold hocketlaw23_NetsFull.B2
  rw [hn, ht]
  refine sat_if (fun hlt => ?_) (fun hge => ?_)
  · unfold hocketlaw23_NetsFull.J6
    rw [hn]
    refine sat_if (fun hp => ?_) (fun hp => ?_)
    · rw [decide_eq_true_eq] at hp
      obtain ⟨i', rfl⟩ : ∃ i', i = i' + 1 := ⟨i - 1, by omega⟩
      have hr : (List.range (min (i' + 1) 200)).map g = g 0 :: (List.range (min (i' + 1) 200 - 1)).map (fun v => g (v + 1)) := by
        rw [show min (i' + 1) 200 = (min (i' + 1) 200 - 1) + 1 by omega, List.range_succ_eq_map]
        simp [Function.comp_def]
      have hlen : ((List.range (min (i' + 1) 200)).map g ++ List.replicate (c j) (g 0)).length = min (i' + 1 + j) 200 := by
        rw [hc]; dsimp only; rw [if_neg (by omega)]
        simp
        omega
      have h0 : 0 < ((List.range (min (i' + 1) 200)).map g ++ List.replicate (c j) (g 0)).length := by omega
      have hz0 : ((List.range (min (i' + 1) 200)).map g ++ List.replicate (c j) (g 0))[0] = g 0 := by
        simp only [hr, List.cons_append, List.getElem_cons_zero]
      refine sat_b (twice_eq 2 0 (i := 0) h0 (by omega) (by rw [hz0]; exact gl 0 (by omega))) ?_
      rw [hz0, w64_id (by omega)]
      have hcs : ∀ q : Nat, c q = min (i' + 1 + q) 200 - min (i' + 1) 200 := fun q => by rw [hc]; dsimp only; rw [if_neg (by omega)]
      by_cases hroom : ((List.range (min (i' + 1) 200)).map g ++ List.replicate (c j) (g 0)).length < 200
      · rw [if_pos hroom]
        refine sat_t (by symm; rw [decide_eq_true_eq]; omega) ?_
        rw [hs j (by omega)]
        refine hag _ ⟨j + 1, rfl, by omega, ?_⟩ (by simp only; omega)
        simp only
        have e1 : c (j + 1) = c j + 1 := by rw [hcs, hcs]; omega
        rw [e1, List.replicate_succ', List.append_assoc]
      · rw [if_neg hroom]
        refine sat_t (by symm; rw [decide_eq_false_iff_not]; omega) ?_
        rw [hs j (by omega)]
        refine hag _ ⟨j + 1, rfl, by omega, ?_⟩ (by simp only; omega)
        simp only
        have e1 : c (j + 1) = c j := by rw [hcs, hcs]; omega
        rw [e1]
    · rw [decide_eq_true_eq] at hp
      exact fin j (by omega) (.inl (by omega))
  · unfold hocketlaw23_NetsFull.J6
    refine sat_f (by simp) ?_
    exact fin j (by omega) (.inr (by omega))
end Go.Gp
