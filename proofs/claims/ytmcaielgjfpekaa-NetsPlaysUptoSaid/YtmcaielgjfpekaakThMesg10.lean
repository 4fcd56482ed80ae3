/- What the statements say, of the plain functions. -/
import Derived.Test.YtmcaielgjfpekaaDefs
import Derived.Test.YtmcaielgjfpekaaLe
import Derived.Test.YtmcaielgjfpekaakThInts
import Derived.Test.YtmcaielgjfpekaakThPack
import Derived.Test.YtmcaielgjfpekaakThMesg
import Derived.Test.YtmcaielgjfpekaakThMesg2
import Derived.Test.YtmcaielgjfpekaakThMesg3
import Derived.Test.YtmcaielgjfpekaakThMesg4
import Derived.Test.YtmcaielgjfpekaakThMesg5
import Derived.Test.YtmcaielgjfpekaakThMesg6
import Derived.Test.YtmcaielgjfpekaakThMsg
import Derived.Test.YtmcaielgjfpekaakThMesg7
import Derived.Test.YtmcaielgjfpekaakThMesg8
import Derived.Test.YtmcaielgjfpekaakThMesgS
import Derived.Test.YtmcaielgjfpekaaGpCrc
import Derived.Test.YtmcaielgjfpekaakThCrc
import Derived.Test.YtmcaielgjfpekaakThFram
import Derived.Test.YtmcaielgjfpekaakThPack1
import Derived.Test.YtmcaielgjfpekaakThMesg9
/- Messages, as the document reads them. -/
namespace Go.Gp
open Go
theorem fin1 {m : api_Msg} {p : List UInt8 × Bool} {B : List UInt8} {Bad : Bool} (h : RR p.1 p.2 B Bad) (hk : m.Kind ≠ 0) : hocketref11_Decode.J1 2000000 ⟨B, Bad⟩ m = some (if (finM m p).2 = true then ((finM m p).1, true) else (zmsg, false)) := by
  obtain ⟨h1, h2⟩ := h
  unfold hocketref11_Decode.J1 hocketref1_Reader_End.f finM
  rw [if_neg hk]
  cases hb : p.2 with
  | true =>
    rw [← h1, hb]
    rfl
  | false =>
    rw [hb] at h1 h2
    simp only [Bool.false_eq_true, if_false] at h2
    rw [← h1, ← h2]
    simp only [Bool.false_eq_true, if_false, Option.bind_some]
    unfold hocketref11_Decode.J2
    by_cases h0 : (p.1.length : Int) = 0
    · rw [show ((p.1.length : Int) == 0) = true by simpa using h0]; rfl
    · rw [show ((p.1.length : Int) == 0) = false by simpa using h0]; rfl
theorem rnum1_shrinks (top : Int) (b : List UInt8) (bad : Bool) : (rnum1 top b bad).2.1.length ≤ b.length := rnum1_le top b bad
/-- A row of numbers, read by the document. -/
theorem row1_eq {b B : List UInt8} {bad Bad : Bool} (h : RR b bad B Bad) (hB : B.length ≤ 10000000) {top : Int} (ht : held2 top ≤ 50) :
    Sat (hocketref11_row.f 2000000 B Bad top) (fun r => r.1 = (rnums (rnum top b bad).1.toNat (rnum top b bad).2.1 (rnum top b bad).2.2).1 ∧ RR (rnums (rnum top b bad).1.toNat (rnum top b bad).2.1 (rnum top b bad).2.2).2.1 (rnums (rnum top b bad).1.toNat (rnum top b bad).2.1 (rnum top b bad).2.2).2.2 r.2.1 r.2.2 ∧ r.2.1.length ≤ B.length) := by
  unfold hocketref11_row.f
  refine sat_b (rnum1_eq (by decide) (by omega) Bad top) ?_
  obtain ⟨e1, h1⟩ := h.num top
  have hr := rnum_range top b bad
  have hs := rnum1_shrinks top B Bad
  rw [← e1]
  generalize rnum top b bad = p at *
  generalize rnum1 top B Bad = q at *
  obtain ⟨n, b1, bad1⟩ := p
  obtain ⟨n', B1, Bad1⟩ := q
  simp only at hr hs h1 ⊢
  obtain ⟨k, rfl⟩ : ∃ k : Nat, n = k := ⟨n.toNat, by omega⟩
  rw [Int.toNat_natCast]
  refine sat_loop (fun v : List Int × Int × List UInt8 × Bool => v.2.1.toNat) (fun v => ∃ i : Nat, v.2.1 = i ∧ i ≤ k ∧ v.1.length + i = k ∧ v.2.2.1.length ≤ B.length ∧ ∃ (c : List UInt8) (cb : Bool), RR c cb v.2.2.1 v.2.2.2 ∧ (v.1 ++ (rnums i c cb).1, (rnums i c cb).2) = rnums k b1 bad1) ?_ 2000000 _ ⟨k, rfl, by omega, by simp, hs, b1, bad1, h1, by simp⟩ (by simp only; omega)
  rintro ⟨out, j, C, Cb⟩ ⟨i, g1, g2, g3, g4, c, cb, g5, g6⟩ ag hag
  simp only at g1 g3 g4 g5 g6
  subst g1
  show Sat (hocketref11_row.B1 2000000 _ ag out i C Cb) _
  unfold hocketref11_row.B1
  refine sat_if (fun hlt => ?_) (fun hge => ?_)
  · obtain ⟨i, rfl⟩ : ∃ i', i = i' + 1 := ⟨i - 1, by omega⟩
    obtain ⟨e2, h2⟩ := g5.num far
    have hs2 := rnum1_shrinks far C Cb
    refine sat_b (rnum1_eq (by decide) (by omega) Cb far) (sat_b (app_eq (by simp only [List.length_singleton]; omega)) ?_)
    have hw : w64 (((i + 1 : Nat) : Int) - 1) = ((i : Nat) : Int) := by rw [w64_id (by omega)]; omega
    rw [hw]
    refine hag _ ⟨i, rfl, by omega, by simp; omega, by simp only; omega, _, _, h2, ?_⟩ (by simp only; omega)
    simp only
    rw [← g6, rnums_succ, ← e2]
    simp
  · have : i = 0 := by omega
    subst this
    show Sat (hocketref11_row.J1 2000000 out C Cb) _
    unfold hocketref11_row.J1
    refine sat_r ?_
    simp only [rnums, List.append_nil] at g6
    rw [← g6]
    exact ⟨rfl, g5, g4⟩
theorem getE1_eq {b B : List UInt8} {bad Bad : Bool} (h : RR b bad B Bad) (hB : B.length ≤ 10000000) :
    Sat (hocketref4_GetEntry.f 2000000 B Bad) (fun r => r.1 = (getE b bad).1 ∧ RR (getE b bad).2.1 (getE b bad).2.2 r.2.1 r.2.2) := by
  unfold hocketref4_GetEntry.f getE
  have fz : (1073741824 : Int) = gig := rfl
  rw [fz]
  dsimp only
  obtain ⟨e1, h1⟩ := h.num gig
  have s1 := rnum1_shrinks gig B Bad
  refine sat_b (rnum1_eq (by decide) (by omega) _ _) ?_
  rw [← e1]
  generalize rnum gig b bad = a at *
  generalize rnum1 gig B Bad = A at *
  obtain ⟨e2, h2⟩ := h1.num gig
  have s2 := rnum1_shrinks gig A.2.1 A.2.2
  refine sat_b (rnum1_eq (by decide) (by omega) _ _) ?_
  rw [← e2]
  generalize rnum gig a.2.1 a.2.2 = c at *
  generalize rnum1 gig A.2.1 A.2.2 = C at *
  obtain ⟨e3, h3⟩ := h2.num gig
  have s3 := rnum1_shrinks gig C.2.1 C.2.2
  refine sat_b (rnum1_eq (by decide) (by omega) _ _) ?_
  rw [← e3]
  generalize rnum gig c.2.1 c.2.2 = d at *
  generalize rnum1 gig C.2.1 C.2.2 = D at *
  obtain ⟨e4, h4⟩ := h3.num gig
  have s4 := rnum1_shrinks gig D.2.1 D.2.2
  refine sat_b (rnum1_eq (by decide) (by omega) _ _) ?_
  rw [← e4]
  generalize rnum gig d.2.1 d.2.2 = f at *
  generalize rnum1 gig D.2.1 D.2.2 = F at *
  obtain ⟨e5, h5⟩ := h4.bytes 32
  have s5 := (rbytes1_le 32 F.2.1 F.2.2).1
  refine sat_b (rbytes1_eq (by decide) (by omega) _ _) ?_
  rw [← e5]
  generalize rbytes 32 f.2.1 f.2.2 = g at *
  generalize rbytes1 32 F.2.1 F.2.2 = G at *
  obtain ⟨e6, h6⟩ := h5.bytes 32
  have s6 := (rbytes1_le 32 G.2.1 G.2.2).1
  refine sat_b (rbytes1_eq (by decide) (by omega) _ _) ?_
  rw [← e6]
  generalize rbytes 32 g.2.1 g.2.2 = i at *
  generalize rbytes1 32 G.2.1 G.2.2 = I at *
  obtain ⟨e7, h7⟩ := h6.bytes 32
  refine sat_b (rbytes1_eq (by decide) (by omega) _ _) ?_
  rw [← e7]
  generalize rbytes 32 i.2.1 i.2.2 = j at *
  generalize rbytes1 32 I.2.1 I.2.2 = J at *
  have hb := h7.1
  refine sat_if (fun hJ => ?_) (fun hJ => ?_)
  · refine sat_r ⟨?_, h7⟩
    rw [if_neg (by rw [hb, hJ]; simp)]
    rfl
  · refine sat_r ⟨?_, h7⟩
    rw [if_pos (by rw [hb]; simpa using hJ)]
theorem decode1_eq {b : List UInt8} (hb : b.length ≤ 10000000) : hocketref11_Decode.f 2000000 b = some (decM b) := by
  suffices hS : Sat (hocketref11_Decode.f 2000000 b) (fun r => r = decM b) by
    obtain ⟨r, h1, h2⟩ := hS; rw [h1, h2]
  unfold hocketref11_Decode.f
  have fz : (1099511627776 : Int) = far := rfl
  rw [fz]
  have h0 : RR b false b false := ⟨rfl, by simp⟩
  obtain ⟨e1, h1⟩ := h0.num 8
  have s1 := rnum1_shrinks 8 b false
  refine sat_b (rnum1_eq (by decide) (by omega) _ _) ?_
  rw [← e1]
  have hkr := rnum_range 8 b false
  generalize hk : rnum 8 b false = k at *
  generalize rnum1 8 b false = K1 at *
  obtain ⟨e2, h2⟩ := h1.num 6
  have s2 := rnum1_shrinks 6 K1.2.1 K1.2.2
  refine sat_b (rnum1_eq (by decide) (by omega) _ _) ?_
  rw [← e2]
  generalize hf : rnum 6 k.2.1 k.2.2 = f at *
  generalize rnum1 6 K1.2.1 K1.2.2 = F at *
  obtain ⟨e3, h3⟩ := h2.num 6
  have s3 := rnum1_shrinks 6 F.2.1 F.2.2
  refine sat_b (rnum1_eq (by decide) (by omega) _ _) ?_
  rw [← e3]
  generalize ht : rnum 6 f.2.1 f.2.2 = t at *
  generalize rnum1 6 F.2.1 F.2.2 = T at *
  obtain ⟨e4, h4⟩ := h3.num far
  have s4 := rnum1_shrinks far T.2.1 T.2.2
  refine sat_b (rnum1_eq (by decide) (by omega) _ _) ?_
  rw [← e4]
  generalize hv : rnum far t.2.1 t.2.2 = v at *
  generalize rnum1 far T.2.1 T.2.2 = W at *
  have fin : ∀ {m : api_Msg} {p : List UInt8 × Bool} {B : List UInt8} {Bad : Bool}, RR p.1 p.2 B Bad → m.Kind ≠ 0 → readM b = finM m p → Sat (hocketref11_Decode.J1 2000000 ⟨B, Bad⟩ m) (fun r => r = decM b) := fun h hk hr => ⟨_, fin1 h hk, by unfold decM; rw [hr]⟩
  have hread : readM b = if k.1 = 1 ∨ k.1 = 6 then finM ⟨k.1, f.1, t.1, v.1, 0, 0, false, 0, 0, 0, 0, ([] : List UInt8), 0, 0, ([] : List Int), ([] : List Int), 0, (⟨0, 0, (⟨0, 0, ([] : List UInt8), ([] : List UInt8), ([] : List UInt8)⟩ : api_Cmd)⟩ : api_Entry)⟩ v.2 else restM ⟨k.1, f.1, t.1, v.1, 0, 0, false, 0, 0, 0, 0, ([] : List UInt8), 0, 0, ([] : List Int), ([] : List Int), 0, (⟨0, 0, (⟨0, 0, ([] : List UInt8), ([] : List UInt8), ([] : List UInt8)⟩ : api_Cmd)⟩ : api_Entry)⟩ v.2 := by
    simp only [readM, headM, hk, hf, ht, hv]
  have s5 := rnum1_shrinks far W.2.1 W.2.2
  by_cases k2 : k.1 = 2
  · rw [if_pos k2]
    rw [if_neg (by omega)] at hread
    unfold restM at hread
    rw [if_pos k2] at hread
    obtain ⟨e5, h5⟩ := h4.num far
    refine sat_b (rnum1_eq (by decide) (by omega) _ _) ?_
    rw [← e5]
    obtain ⟨e6, h6⟩ := h5.num far
    have s6 := rnum1_shrinks far (rnum1 far W.2.1 W.2.2).2.1 (rnum1 far W.2.1 W.2.2).2.2
    refine sat_b (rnum1_eq (by decide) (by omega) _ _) ?_
    rw [← e6]
    obtain ⟨e7, h7⟩ := h6.num 1
    refine sat_b (rnum1_eq (by decide) (by omega) _ _) ?_
    rw [← e7]
    exact fin h7 (by dsimp only; omega) hread
  rw [if_neg k2]
  by_cases k3 : k.1 = 3
  · rw [if_pos k3]
    rw [if_neg (by omega)] at hread
    unfold restM at hread
    rw [if_neg k2, if_pos k3] at hread
    obtain ⟨e5, h5⟩ := h4.num 127
    have s6 := rnum1_shrinks 127 W.2.1 W.2.2
    refine sat_b (rnum1_eq (by decide) (by omega) _ _) ?_
    rw [← e5]
    obtain ⟨e6, h6⟩ := h5.num 6
    have s7 := rnum1_shrinks 6 (rnum1 127 W.2.1 W.2.2).2.1 (rnum1 127 W.2.1 W.2.2).2.2
    refine sat_b (rnum1_eq (by decide) (by omega) _ _) ?_
    rw [← e6]
    obtain ⟨e7, h7⟩ := h6.num far
    refine sat_b (rnum1_eq (by decide) (by omega) _ _) ?_
    rw [← e7]
    exact fin h7 (by dsimp only; omega) hread
  rw [if_neg k3]
  by_cases k4 : k.1 = 4
  · rw [if_pos k4]
    rw [if_neg (by omega)] at hread
    unfold restM at hread
    rw [if_neg k2, if_neg k3, if_pos k4] at hread
    obtain ⟨e5, h5⟩ := h4.num far
    refine sat_b (rnum1_eq (by decide) (by omega) _ _) ?_
    rw [← e5]
    exact fin h5 (by dsimp only; omega) hread
  rw [if_neg k4]
  by_cases k5 : k.1 = 5
  · rw [if_pos k5]
    rw [if_neg (by omega)] at hread
    unfold restM at hread
    rw [if_neg k2, if_neg k3, if_neg k4, if_pos k5] at hread
    obtain ⟨e5, h5⟩ := h4.num far
    refine sat_b (rnum1_eq (by decide) (by omega) _ _) ?_
    rw [← e5]
    obtain ⟨e6, h6⟩ := h5.num far
    have s6 := rnum1_shrinks far (rnum1 far W.2.1 W.2.2).2.1 (rnum1 far W.2.1 W.2.2).2.2
    refine sat_b (rnum1_eq (by decide) (by omega) _ _) ?_
    rw [← e6]
    obtain ⟨e7, h7⟩ := h6.bytes 64
    refine sat_b (rbytes1_eq (by decide) (by omega) _ _) ?_
    rw [← e7]
    exact fin h7 (by dsimp only; omega) hread
  rw [if_neg k5]
  by_cases k7 : k.1 = 7
  · rw [if_pos k7]
    rw [if_neg (by omega)] at hread
    unfold restM at hread
    rw [if_neg k2, if_neg k3, if_neg k4, if_neg k5, if_pos k7] at hread
    obtain ⟨e5, h5⟩ := h4.num far
    refine sat_b (rnum1_eq (by decide) (by omega) _ _) ?_
    rw [← e5]
    obtain ⟨e6, h6⟩ := h5.num far
    have s6 := rnum1_shrinks far (rnum1 far W.2.1 W.2.2).2.1 (rnum1 far W.2.1 W.2.2).2.2
    refine sat_b (rnum1_eq (by decide) (by omega) _ _) ?_
    rw [← e6]
    refine sat_bs (row1_eq h6 (by omega) (by decide)) (fun r1 hr1 => ?_)
    obtain ⟨e7, h7, s7⟩ := hr1
    refine sat_bs (row1_eq h7 (by omega) (by decide)) (fun r2 hr2 => ?_)
    obtain ⟨e8, h8, s8⟩ := hr2
    rw [e7, e8]
    exact fin h8 (by dsimp only; omega) hread
  rw [if_neg k7]
  by_cases k8 : k.1 = 8
  · rw [if_pos k8]
    rw [if_neg (by omega)] at hread
    unfold restM at hread
    rw [if_neg k2, if_neg k3, if_neg k4, if_neg k5, if_neg k7, if_pos k8] at hread
    obtain ⟨e5, h5⟩ := h4.num far
    refine sat_b (rnum1_eq (by decide) (by omega) _ _) ?_
    rw [← e5]
    refine sat_bs (getE1_eq h5 (by omega)) (fun r1 hr1 => ?_)
    obtain ⟨e6, h6⟩ := hr1
    rw [e6]
    exact fin h6 (by dsimp only; omega) hread
  rw [if_neg k8]
  by_cases k16 : k.1 = 1 ∨ k.1 = 6
  · rw [if_pos k16] at hread
    exact fin h4 (by dsimp only; omega) hread
  · rw [if_neg k16] at hread
    unfold restM at hread
    rw [if_neg k2, if_neg k3, if_neg k4, if_neg k5, if_neg k7, if_neg k8] at hread
    have k0 : k.1 = 0 := by
      have h8 : held2 8 = 8 := by decide
      omega
    unfold hocketref11_Decode.J1
    rw [if_pos k0]
    refine sat_r ?_
    unfold decM
    rw [hread]
    rfl
end Go.Gp
