/- What the statements say, of the plain functions. -/
import Derived.Test.YtploijfgnnkddaaDefs
import Derived.Test.YtploijfgnnkddaaLe
import Derived.Test.YtploijfgnnkddaaThInts
import Derived.Test.YtploijfgnnkddaaThPack
import Derived.Test.YtploijfgnnkddaaThMesg
import Derived.Test.YtploijfgnnkddaaThMesg2
import Derived.Test.YtploijfgnnkddaaThMesg3
import Derived.Test.YtploijfgnnkddaaThMesg4
import Derived.Test.YtploijfgnnkddaaThMesg5
import Derived.Test.YtploijfgnnkddaaThMesg6
import Derived.Test.YtploijfgnnkddaaThMsg
import Derived.Test.YtploijfgnnkddaaThMesg7
import Derived.Test.YtploijfgnnkddaaThMesg8
import Derived.Test.YtploijfgnnkddaaThMesgS
import Derived.Test.YtploijfgnnkddaaGpCrc
import Derived.Test.YtploijfgnnkddaaThCrc
import Derived.Test.YtploijfgnnkddaaThFram
import Derived.Test.YtploijfgnnkddaaThPack1
import Derived.Test.YtploijfgnnkddaaThMesg9
import Derived.Test.YtploijfgnnkddaaThMesg10
import Derived.Test.YtploijfgnnkddaaThRows
import Derived.Test.YtploijfgnnkddaaThMach
import Derived.Test.YtploijfgnnkddaaThMach2
import Derived.Test.YtploijfgnnkddaaThMach3
import Derived.Test.YtploijfgnnkddaaThMach4
import Derived.Test.YtploijfgnnkddaaThBlob
import Derived.Test.YtploijfgnnkddaaThBlob2
import Derived.Test.YtploijfgnnkddaaThStep
import Derived.Test.YtploijfgnnkddaaThState
/- A state that is read is its own. -/
namespace Go.Gp
open Go
theorem ownb_j3 {K : Nat} (hK : K = 2000000) {s : api_State} (hs : OkS s) (hl : (sealB (stW s)).length < K) (p : List UInt8) : Sat (hocketlaw15_BlobOwn.J3 K (sealB (stW s)) (s, true) (p, true)) (fun _ => True) := by
  have hlS := stW_short hs
  have h4 := sealB_len (stW s)
  unfold hocketlaw15_BlobOwn.J3
  refine sat_b (blobDecode_eq hK hl (by omega)) ?_
  rw [decS_seal hs]
  exact sat_t rfl (sat_t rfl (sat_t rfl (sat_t rfl (sat_b (blobEncode_eq hK (ok_smallS hs)) (sat_t rfl (fin_blob hK))))))
theorem hocketlaw15_BlobOwn.pure (x0 : List Int) (x1 x2 : Int) {o0 o1 o2 : Prop} (_ : o0) (_ : o1) (_ : o2) : ∃ K r, hocketlaw15_BlobOwn.f K x0 x1 x2 = some r := by
  obtain ⟨K, hK⟩ : ∃ K, K = 2000000 := ⟨_, rfl⟩
  have hK2 : 1000000 ≤ K := by rw [hK]; decide
  refine ⟨K, sat_pure ?_⟩
  unfold hocketlaw15_BlobOwn.f
  refine sat_bs (state_ok hK x0 x1 x2) (fun s hs => ?_)
  have hlS := stW_short hs
  have h4 := sealB_len (stW s)
  have hsm := ok_smallS hs
  have hj3 := fun p => ownb_j3 hK hs (by omega) p
  refine sat_b (blobEncode1_eq hK hsm) (sat_b (blobDecode_eq hK (by omega) (by omega)) ?_)
  rw [decS_seal hs]
  obtain ⟨t, ht⟩ : ∃ t, sealB (stW s) = t := ⟨_, rfl⟩
  rw [ht] at h4 hj3 ⊢
  refine sat_b (part_eq (by omega) (by unfold i64ok; omega)) ?_
  rw [show partB t 0 = ((t.drop (0 : Int).toNat).take 64, true) from if_pos ⟨by omega, by omega⟩]
  obtain ⟨p, hp⟩ : ∃ p, (t.drop (0 : Int).toNat).take 64 = p := ⟨_, rfl⟩
  have hpl : p.length ≤ 64 := by rw [← hp, List.length_take]; omega
  rw [hp]
  have j2 : ∀ x, Sat (hocketlaw15_BlobOwn.J2 K (s, true) t (p, true) x) (fun _ => True) := fun x => by
    have hr := hsm.m.r
    unfold hocketlaw15_BlobOwn.J2 hocketlaw15_BlobOwn.L1
    refine sat_loop (fun v : Int × List UInt8 => s.Machine.Objects.Reg.length - v.1.toNat) (fun v => v.2.length = s.Machine.Objects.Reg.length ∧ 0 ≤ v.1 ∧ v.1 ≤ s.Machine.Objects.Reg.length) ?_ K _ ⟨rfl, by simp, by simp⟩ (by simp only [Int.toNat_zero]; omega)
    rintro ⟨i, z⟩ ⟨g1, g2, g3⟩ ag hag
    simp only at g1 g2 g3
    show Sat (hocketlaw15_BlobOwn.B1 K (s, true) _ ag i z) _
    unfold hocketlaw15_BlobOwn.B1
    refine sat_if (fun hlt => ?_) (fun _ => hj3 p)
    simp only at hlt
    have hg := ix_get (xs := z) g2 (by omega)
    refine sat_b hg (sat_b hg ?_)
    rw [w64_succ g2 (by omega)]
    exact hag _ ⟨by simp only [List.length_set]; exact g1, by simp only; omega, by simp only; omega⟩ (by simp only; omega)
  have j1 : Sat (hocketlaw15_BlobOwn.J1 K (s, true) t (p, true)) (fun _ => True) := by
    have hr := hsm.r
    unfold hocketlaw15_BlobOwn.J1 hocketlaw15_BlobOwn.L2
    refine sat_loop (fun v : Int × List api_Entry => s.Rest.length - v.1.toNat) (fun v => v.2.length = s.Rest.length ∧ 0 ≤ v.1 ∧ v.1 ≤ s.Rest.length ∧ ∀ e ∈ v.2, e.Cmd.Val.length ≤ 1000) ?_ K _ ⟨rfl, by simp, by simp, fun e he => (hsm.e e he).v⟩ (by simp only [Int.toNat_zero]; omega)
    rintro ⟨i, l⟩ ⟨g1, g2, g3, g4⟩ ag hag
    simp only at g1 g2 g3 g4
    show Sat (hocketlaw15_BlobOwn.B2 K (s, true) _ ag i l) _
    unfold hocketlaw15_BlobOwn.B2
    refine sat_if (fun hlt => ?_) (fun _ => j2 l)
    simp only at hlt
    have hg := ix_get (xs := l) g2 (by omega)
    have he := g4 _ (List.getElem_mem (l := l) (n := i.toNat) (by omega))
    generalize l[i.toNat]'(by omega) = e at hg he
    have hg2 : ix (l.set i.toNat (⟨99, e.Seq, e.Cmd⟩ : api_Entry)) i = some ⟨99, e.Seq, e.Cmd⟩ := ix_eq g2 (by rw [List.getElem?_set_self (by omega)])
    refine sat_b hg (sat_b hg2 ?_)
    unfold hocketlaw15_BlobOwn.L3
    refine sat_loop (fun v : Int => e.Cmd.Val.length - v.toNat) (fun v => 0 ≤ v ∧ v ≤ e.Cmd.Val.length) ?_ K 0 ⟨by omega, by omega⟩ (by simp only [Int.toNat_zero]; omega)
    rintro k ⟨k0, k1⟩ ag2 hag2
    show Sat (hocketlaw15_BlobOwn.B3 K ⟨99, e.Seq, e.Cmd⟩ l i e _ ag2 k) _
    unfold hocketlaw15_BlobOwn.B3
    refine sat_if (fun hlt2 => ?_) (fun _ => ?_)
    · simp only at hlt2
      have hg3 := ix_get (xs := e.Cmd.Val) k0 (by omega)
      refine sat_b hg2 (sat_b hg3 (sat_b hg3 ?_))
      rw [w64_succ k0 (by omega)]
      exact hag2 _ ⟨by omega, by omega⟩ (by omega)
    · show Sat (hocketlaw15_BlobOwn.J4 K ag i l e) _
      unfold hocketlaw15_BlobOwn.J4
      rw [w64_succ g2 (by omega)]
      refine hag _ ⟨by simp only [List.length_set]; exact g1, by simp only; omega, by simp only; omega, fun x hx => ?_⟩ (by simp only; omega)
      rcases List.mem_or_eq_of_mem_set hx with hx | rfl
      · exact g4 x hx
      · exact he
  unfold hocketlaw15_BlobOwn.L4
  refine sat_loop (fun v : List UInt8 × Int => p.length - v.2.toNat) (fun v => v.1.length = p.length ∧ 0 ≤ v.2 ∧ v.2 ≤ p.length) ?_ K _ ⟨rfl, by simp, by simp⟩ (by simp only [Int.toNat_zero]; omega)
  rintro ⟨z, i⟩ ⟨g1, g2, g3⟩ ag hag
  simp only at g1 g2 g3
  show Sat (hocketlaw15_BlobOwn.B4 K (p, true) _ ag z i) _
  unfold hocketlaw15_BlobOwn.B4
  refine sat_if (fun hlt => ?_) (fun _ => j1)
  simp only at hlt
  have hg := ix_get (xs := z) g2 (by omega)
  refine sat_b hg (sat_b hg ?_)
  rw [w64_succ g2 (by omega)]
  exact hag _ ⟨by simp only [List.length_set]; exact g1, by simp only; omega, by simp only; omega⟩ (by simp only; omega)
end Go.Gp
