/- What the statements say, of the plain functions. -/
import Derived.Test.YtmcaielgjfpekaaDefs
import Derived.Test.YtmcaielgjfpekaaLe
import Derived.Test.YtmcaielgjfpekaaThInts
import Derived.Test.YtmcaielgjfpekaaThPack
import Derived.Test.YtmcaielgjfpekaaThMesg
import Derived.Test.YtmcaielgjfpekaaThMesg2
import Derived.Test.YtmcaielgjfpekaaThMesg3
import Derived.Test.YtmcaielgjfpekaaThMesg4
import Derived.Test.YtmcaielgjfpekaaThMesg5
import Derived.Test.YtmcaielgjfpekaaThMesg6
import Derived.Test.YtmcaielgjfpekaaThMsg
import Derived.Test.YtmcaielgjfpekaaThMesg7
import Derived.Test.YtmcaielgjfpekaaThMesg8
import Derived.Test.YtmcaielgjfpekaaThMesgS
import Derived.Test.YtmcaielgjfpekaaGpCrc
import Derived.Test.YtmcaielgjfpekaaThCrc
import Derived.Test.YtmcaielgjfpekaaThFram
import Derived.Test.YtmcaielgjfpekaaThNets
/- Frames under way: apart, told, turned. -/
namespace Go.Gp
open Go
theorem hocketlaw23_NetsOwn.pure (x0 x1 : Int) {o0 o1 : Prop} (_ : o0) (_ : o1) : ∃ K r, hocketlaw23_NetsOwn.f K x0 x1 = some r := by
  refine ⟨3000, sat_pure ?_⟩
  unfold hocketlaw23_NetsOwn.f nets_New.f
  refine sat_b rfl (sat_bs (msg_num x0 x1) (fun m ⟨ok, hc⟩ => ?_))
  have hf : m.From < 7 := by have := ok.1; omega
  have ht : m.To < 7 := by have := ok.2.1; omega
  have hlen := frm_len ok
  refine sat_b (send_ok _ _ ok hc (by show m.From < mn (mx 7 1) 7; rw [show mn (mx 7 1) 7 = 7 by decide]; exact hf) (by show m.To < mn (mx 7 1) 7; rw [show mn (mx 7 1) 7 = 7 by decide]; exact ht) (by simp)) (sat_t rfl ?_)
  dsimp only
  rw [List.nil_append]
  refine sat_b (at_eq _ _ (l := [frmOf m]) (i := 0) (by simp) (by simp only [List.getElem_cons_zero]; omega)) ?_
  simp only [List.getElem_cons_zero]
  obtain ⟨b, hb⟩ : ∃ b, b = (frmOf m).f.Bytes := ⟨_, rfl⟩
  refine sat_loop (fun v : Int × List UInt8 => ((b.length : Int) - v.1).toNat) (fun v => ∃ i : Nat, v.1 = i ∧ i ≤ b.length ∧ v.2.length = b.length) ?_ 3000 _ ⟨0, rfl, by omega, by rw [hb]⟩ (by rw [← hb] at hlen; simp only; omega)
  rintro ⟨_, c⟩ ⟨i, rfl, hi, hcl⟩ ag hag
  simp only at hcl
  rw [← hb] at hlen
  show Sat (hocketlaw23_NetsOwn.B1 3000 ((frmOf m).f, true) _ ag i c) _
  unfold hocketlaw23_NetsOwn.B1
  dsimp only
  rw [← hb]
  have hw : w64 ((i : Int) + 1) = ((i + 1 : Nat) : Int) := by rw [w64_succ (by omega) (by omega)]; simp
  refine sat_if (fun hlt => ?_) (fun _ => ?_)
  · refine sat_b (ix_get (by omega) (by simp; omega)) ?_
    rw [hw]
    exact hag _ ⟨i + 1, rfl, by omega, by simp [hcl]⟩ (by simp only; omega)
  rw [hb] at hlen
  show Sat (hocketlaw23_NetsOwn.J1 3000 (true, mn (mx 7 1) 7, 0, [frmOf m]) ((frmOf m).f, true) m) _
  unfold hocketlaw23_NetsOwn.J1
  refine sat_b (take_eq _ _ (l := [frmOf m]) (i := 0) (by simp) (by simp) (by simp only [List.getElem_cons_zero]; omega)) ?_
  simp only [List.getElem_cons_zero]
  rw [takeM_ok ok hc (apart0 _ _)]
  exact sat_t (by simp) (sat_t (by simp) (sat_b (ok_same ok hc m) (sat_t (by simp) fin_nets)))
theorem hocketlaw23_NetsApart.pure (x0 x1 x2 : Int) {o0 o1 o2 : Prop} (_ : o0) (_ : o1) (_ : o2) : ∃ K r, hocketlaw23_NetsApart.f K x0 x1 x2 = some r := by
  refine ⟨3000, sat_pure ?_⟩
  have hb1 := band_lt x1 255 8 rfl (by decide)
  have ha := tmod_nn (x := band .i64 x1 255) (y := 7) hb1.1 (by decide)
  have hb2 := band_lt x2 255 8 rfl (by decide)
  have hb := tmod_nn (x := band .i64 x2 255) (y := 7) hb2.1 (by decide)
  unfold hocketlaw23_NetsApart.f nets_New.f
  refine sat_b rfl ?_
  obtain ⟨a, hae⟩ : ∃ a, a = Int.tmod (band .i64 x1 255) 7 := ⟨_, rfl⟩
  obtain ⟨b, hbe⟩ : ∃ b, b = Int.tmod (band .i64 x2 255) 7 := ⟨_, rfl⟩
  rw [← hae] at ha
  rw [← hbe] at hb
  have okr : ∀ v : Nat, v ≤ 1000 → OkM (rdy a b v) := fun v hv => rdy_ok (by omega) (by omega) (by omega)
  refine sat_loop (fun v : Int × nets_Net => (3 - v.1).toNat) (fun v => ∃ i : Nat, v.1 = i ∧ i ≤ 3 ∧ v.2 = ⟨7, 0, (List.range i).map fun j : Nat => frmOf (rdy a b j)⟩) ?_ 3000 _ ⟨0, rfl, by omega, by simp [show mn (mx 7 1) 7 = 7 by decide]⟩ (by simp only; omega)
  rintro ⟨_, t⟩ ⟨i, rfl, hi, ht⟩ ag hag
  simp only at ht
  subst ht
  show Sat (hocketlaw23_NetsApart.B1 3000 x1 x2 _ ag i _) _
  unfold hocketlaw23_NetsApart.B1
  rw [← hae, ← hbe]
  refine sat_if (fun hlt => ?_) (fun hge => ?_)
  · refine sat_b (send_ok _ _ (m := rdy a b i) (okr i (by omega)) (rdy_can _ _ _) (by show a < 7; omega) (by show b < 7; omega) (by simp; omega)) (sat_t rfl ?_)
    have hw : w64 ((i : Int) + 1) = ((i + 1 : Nat) : Int) := by rw [w64_succ (by omega) (by omega)]; simp
    rw [hw]
    refine hag _ ⟨i + 1, rfl, by omega, ?_⟩ (by simp only; omega)
    simp only [List.range_succ, List.map_append, List.map_cons, List.map_nil]
  have hi3 : i = 3 := by omega
  subst hi3
  clear hag ag hge hi
  obtain ⟨k, hk⟩ : ∃ k, k = band .i64 x0 127 := ⟨_, rfl⟩
  show Sat (hocketlaw23_NetsApart.J1 3000 x0 x1 x2 ⟨7, 0, [frmOf (rdy a b (0 : Nat)), frmOf (rdy a b (1 : Nat)), frmOf (rdy a b (2 : Nat))]⟩) _
  have ok0 := okr 0 (by omega)
  have ok1 := okr 1 (by omega)
  have ok2 := okr 2 (by omega)
  have l0 := frm_len ok0
  have l1 := frm_len ok1
  have main : Sat (hocketlaw23_NetsApart.J2 3000 (7, k, [frmOf (rdy a b (0 : Nat)), frmOf (rdy a b (1 : Nat)), frmOf (rdy a b (2 : Nat))]) x1 x2 (apartB k a b)) (fun _ => True) := by
    unfold hocketlaw23_NetsApart.J2
    rw [← hae, ← hbe]
    refine sat_b (take_eq 7 k (l := [frmOf (rdy a b (0 : Nat)), frmOf (rdy a b (1 : Nat)), frmOf (rdy a b (2 : Nat))]) (i := 0) (by simp) (by simp) (by simp only [List.getElem_cons_zero]; omega)) ?_
    simp only [List.getElem_cons_zero, List.take_zero, List.nil_append, Nat.zero_add, List.drop_succ_cons, List.drop_zero]
    have rest : ∀ m' : api_Msg × Bool, Sat (hocketlaw23_NetsApart.J3 3000 (m'.1, m'.2, 7, k, [frmOf (rdy a b (1 : Nat)), frmOf (rdy a b (2 : Nat))]) x1 x2 false) (fun _ => True) := fun m' => by
      unfold hocketlaw23_NetsApart.J3
      refine sat_f (by simp) (sat_b (split_eq _ _ _ _) (sat_b (take_eq 7 0 (l := [frmOf (rdy a b (1 : Nat)), frmOf (rdy a b (2 : Nat))]) (i := 0) (by simp) (by simp) (by simp only [List.getElem_cons_zero]; omega)) ?_))
      simp only [List.getElem_cons_zero, List.take_zero, List.nil_append, Nat.zero_add, List.drop_succ_cons, List.drop_zero]
      rw [takeM_ok ok1 (rdy_can _ _ _) (apart0 _ _)]
      refine sat_t rfl (sat_t rfl (sat_b (apart_eq _ _ _ _ _) ?_))
      refine sat_f (by rw [apart0]; simp) (sat_b (count_eq _ _ _) (sat_t rfl fin_nets))
    cases hap : apartB k a b with
    | false =>
      rw [takeM_ok ok0 (rdy_can _ _ _) hap]
      refine sat_t rfl (sat_t rfl (sat_t rfl (sat_b (count_eq _ _ _) (sat_t rfl (sat_b (apart_eq _ _ _ _ _) ?_)))))
      refine sat_t hap (sat_b (apart_eq _ _ _ _ _) (sat_t (by rw [apart_comm]; exact hap) (sat_b (apart_eq _ _ _ _ _) ?_)))
      rw [apart_same]
      exact rest _
    | true =>
      have e : takeM k (frmOf (rdy a b (0 : Nat))).f = (zmsg, false) := by
        unfold takeM
        rw [show apartB k (frmOf (rdy a b (0 : Nat))).f.From (frmOf (rdy a b (0 : Nat))).f.To = true from hap, if_pos rfl]
      rw [e]
      refine sat_t rfl (sat_f (by simp) (sat_b (count_eq _ _ _) (sat_t rfl (sat_b (apart_eq _ _ _ _ _) ?_))))
      refine sat_t hap (sat_b (apart_eq _ _ _ _ _) (sat_t (by rw [apart_comm]; exact hap) (sat_b (apart_eq _ _ _ _ _) ?_)))
      rw [apart_same]
      exact rest _
  unfold hocketlaw23_NetsApart.J1
  refine sat_b (split_eq _ _ _ _) ?_
  rw [← hae, ← hbe, ← hk]
  have hu : ∀ z : Int, 0 ≤ z ∧ z < 7 → wu64 z = z := fun z hz => wu64_id (by omega)
  rw [hu a ha, hu b hb]
  have hn := apart_nodes (mask := k) ha hb
  refine sat_if (fun h0 => ?_) (fun h0 => ?_)
  · rw [if_pos h0] at hn
    rw [← hn]
    exact main
  · rw [if_neg h0] at hn
    rw [← hn]
    exact main
theorem hocketlaw23_NetsTurned.pure (x0 x1 x2 : Int) {o0 o1 o2 : Prop} (_ : o0) (_ : o1) (_ : o2) : ∃ K r, hocketlaw23_NetsTurned.f K x0 x1 x2 = some r := by
  refine ⟨3000, sat_pure ?_⟩
  unfold hocketlaw23_NetsTurned.f nets_New.f
  refine sat_b rfl (sat_bs (msg_num x0 x1) (fun m ⟨ok, hc⟩ => ?_))
  have hf : m.From < 7 := by have := ok.1; omega
  have ht : m.To < 7 := by have := ok.2.1; omega
  have hlen := frm_len ok
  have h8 := seal_len0 ok
  have hbb := band_lt x2 65535 16 rfl (by decide)
  obtain ⟨q, hq⟩ : ∃ q : Nat, band .i64 x2 65535 = q := ⟨(band .i64 x2 65535).toNat, by omega⟩
  obtain ⟨f, hfm⟩ : ∃ f, f = frmOf m := ⟨_, rfl⟩
  obtain ⟨g, hg⟩ : ∃ g : nets_frame, g = ⟨⟨f.f.From, f.f.To, flipB f.f.Bytes q⟩, true⟩ := ⟨_, rfl⟩
  have fb : f.f.Bytes.length ≤ 2000 := by rw [hfm]; omega
  have fb0 : 0 < f.f.Bytes.length ∧ f.f.Bytes.length ≤ 2000 := by rw [hfm]; show 0 < (sealB (wire m)).length ∧ (sealB (wire m)).length ≤ 2000; omega
  have gb : g.f.Bytes.length ≤ 2000 := by rw [hg]; show (flipB f.f.Bytes q).length ≤ 2000; rw [flipB_len]; exact fb
  have tf : takeM 0 f.f = (m, true) := by rw [hfm]; exact takeM_ok ok hc (apart0 _ _)
  have tg : takeM 0 g.f = (zmsg, false) := by
    rw [hg, hfm]
    unfold takeM
    rw [show apartB 0 (frmOf m).f.From (frmOf m).f.To = false from apart0 _ _, if_neg (by simp)]
    exact openM_flip ok q
  refine sat_b (send_ok _ _ ok hc (by show m.From < mn (mx 7 1) 7; rw [show mn (mx 7 1) 7 = 7 by decide]; exact hf) (by show m.To < mn (mx 7 1) 7; rw [show mn (mx 7 1) 7 = 7 by decide]; exact ht) (by simp)) (sat_t rfl ?_)
  dsimp only
  rw [List.nil_append, show mn (mx 7 1) 7 = 7 by decide, ← hfm, show (0 : Int) = ((0 : Nat) : Int) from rfl]
  refine sat_b ((twice_eq 7 _ (l := [f]) (i := 0) (by simp) (by simp) fb).trans (congrArg some (if_pos (by simp)))) (sat_t rfl ?_)
  refine sat_b ((twice_eq 7 _ (l := [f] ++ [[f][0]]) (i := 0) (by simp) (by simp) fb).trans (congrArg some (if_pos (by simp)))) ?_
  show Sat (hocketlaw23_NetsTurned.J1 3000 x2 false ⟨7, 0, [f, f, f]⟩ m) _
  unfold hocketlaw23_NetsTurned.J1
  refine sat_f (by simp) (sat_b (flip_no 7 0 (l := [f, f, f]) (i := 0) (bit := -1) (.inr (by decide))) (sat_f (by simp) ?_))
  rw [hq]
  have hw : w64 ((q : Int) + 1) = ((q + 1 : Nat) : Int) := by rw [w64_succ (by omega) (by omega)]; simp
  rw [hw]
  refine sat_b (flip_eq 7 0 (l := [f, f, f]) (i := 0) (bit := q) (by simp) (by rw [hfm]; rfl) (by simpa using fb0)) (sat_t rfl ?_)
  show Sat (Option.bind (nets_Net_Flip.f 7 0 [⟨⟨f.f.From, f.f.To, flipB f.f.Bytes q⟩, true⟩, f, f] 0 (q : Int)) _) _
  rw [← hg]
  refine sat_b (flip_turned 7 0 (l := [g, f, f]) (i := 0) (by simp) (by omega) (by rw [hg]; rfl)) (sat_f (by simp) ?_)
  refine sat_b (flip_turned 7 0 (l := [g, f, f]) (i := 0) (by simp) (by omega) (by rw [hg]; rfl)) (sat_f (by simp) ?_)
  refine sat_b (flip_no 7 0 (l := [g, f, f]) (i := 3) (.inl (by simp))) (sat_f (by simp) ?_)
  refine sat_b ((twice_eq 7 0 (l := [g, f, f]) (i := 0) (by simp) (by simp) gb).trans (congrArg some (if_pos (by simp)))) (sat_t rfl ?_)
  refine sat_b (flip_turned 7 0 (l := [g, f, f, g]) (i := 3) (by simp) (by omega) (by rw [hg]; rfl)) ?_
  show Sat (hocketlaw23_NetsTurned.J2 3000 m false ⟨7, 0, [g, f, f, g]⟩) _
  unfold hocketlaw23_NetsTurned.J2
  refine sat_f (by simp) ?_
  refine sat_b (take_eq 7 0 (l := [g, f, f, g]) (i := 0) (by simp) (by simp) gb) ?_
  refine sat_b (take_eq 7 0 (l := [f, f, g]) (i := 0) (by simp) (by simp) fb) ?_
  refine sat_b (take_eq 7 0 (l := [f, g]) (i := 0) (by simp) (by simp) fb) ?_
  refine sat_b (take_eq 7 0 (l := [g]) (i := 0) (by simp) (by simp) gb) ?_
  simp only [List.getElem_cons_zero]
  rw [tf, tg]
  refine sat_f (by simp) (sat_f (by simp) (sat_t (by simp) (sat_t (by simp) ?_)))
  refine sat_b (ok_same ok hc m) (sat_t (by simp) (sat_b (ok_same ok hc m) (sat_t (by simp) (sat_b (count_eq _ _ _) ?_))))
  exact sat_t (by simp) fin_nets
end Go.Gp
