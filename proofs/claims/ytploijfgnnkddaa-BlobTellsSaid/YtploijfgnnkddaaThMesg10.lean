/- What the statements say, of the plain functions. -/
import Derived.Test.YtploijfgnnkddaaDefs
import Derived.Test.YtploijfgnnkddaaLe
import Derived.Test.YtploijfgnnkddaaThInts
import Derived.Test.YtploijfgnnkddaaThPack
import Derived.Test.YtploijfgnnkddaaThMesg
import Derived.Test.YtploijfgnnkddaaThMesg2
import Derived.Test.YtploijfgnnkddaaThMesg3
import Derived.Test.YtploijfgnnkddaaThMesg4
import Derived.Test.YtploijfgnnkddaaThMesg5
import Derived.Test.YtploijfgnnkddaaThMesg6
import Derived.Test.YtploijfgnnkddaaThMsg
import Derived.Test.YtploijfgnnkddaaThMesg7
import Derived.Test.YtploijfgnnkddaaThMesg8
import Derived.Test.YtploijfgnnkddaaThMesgS
import Derived.Test.YtploijfgnnkddaaGpCrc
import Derived.Test.YtploijfgnnkddaaThCrc
import Derived.Test.YtploijfgnnkddaaThFram
import Derived.Test.YtploijfgnnkddaaThPack1
import Derived.Test.YtploijfgnnkddaaThMesg9
/- Messages, as the document reads them. -/
namespace Go.Gp
open Go
theorem rnum1_shrinks (top : Int) (b : List UInt8) (bad : Bool) : (rnum1 top b bad).2.1.length ≤ b.length := rnum1_le top b bad
theorem getE1_eq {b B : List UInt8} {bad Bad : Bool} (h : RR b bad B Bad) (hB : B.length ≤ 10000000) :
    Sat (hocketref4_GetEntry.f 2000000 B Bad) (fun r => r.1 = (getE b bad).1 ∧ RR (getE b bad).2.1 (getE b bad).2.2 r.2.1 r.2.2) := by
  unfold hocketref4_GetEntry.f getE
  have fz : (1073741824 : Int) = gig := rfl
  rw [fz]
  dsimp only
  obtain ⟨e1, h1⟩ := h.num gig
  have s1 := rnum1_shrinks gig B Bad
  refine sat_b (rnum1_eq (by decide) (by omega) _ _) ?_
  rw [← e1]
  generalize rnum gig b bad = a at *
  generalize rnum1 gig B Bad = A at *
  obtain ⟨e2, h2⟩ := h1.num gig
  have s2 := rnum1_shrinks gig A.2.1 A.2.2
  refine sat_b (rnum1_eq (by decide) (by omega) _ _) ?_
  rw [← e2]
  generalize rnum gig a.2.1 a.2.2 = c at *
  generalize rnum1 gig A.2.1 A.2.2 = C at *
  obtain ⟨e3, h3⟩ := h2.num gig
  have s3 := rnum1_shrinks gig C.2.1 C.2.2
  refine sat_b (rnum1_eq (by decide) (by omega) _ _) ?_
  rw [← e3]
  generalize rnum gig c.2.1 c.2.2 = d at *
  generalize rnum1 gig C.2.1 C.2.2 = D at *
  obtain ⟨e4, h4⟩ := h3.num gig
  have s4 := rnum1_shrinks gig D.2.1 D.2.2
  refine sat_b (rnum1_eq (by decide) (by omega) _ _) ?_
  rw [← e4]
  generalize rnum gig d.2.1 d.2.2 = f at *
  generalize rnum1 gig D.2.1 D.2.2 = F at *
  obtain ⟨e5, h5⟩ := h4.bytes 32
  have s5 := (rbytes1_le 32 F.2.1 F.2.2).1
  refine sat_b (rbytes1_eq (by decide) (by omega) _ _) ?_
  rw [← e5]
  generalize rbytes 32 f.2.1 f.2.2 = g at *
  generalize rbytes1 32 F.2.1 F.2.2 = G at *
  obtain ⟨e6, h6⟩ := h5.bytes 32
  have s6 := (rbytes1_le 32 G.2.1 G.2.2).1
  refine sat_b (rbytes1_eq (by decide) (by omega) _ _) ?_
  rw [← e6]
  generalize rbytes 32 g.2.1 g.2.2 = i at *
  generalize rbytes1 32 G.2.1 G.2.2 = I at *
  obtain ⟨e7, h7⟩ := h6.bytes 32
  refine sat_b (rbytes1_eq (by decide) (by omega) _ _) ?_
  rw [← e7]
  generalize rbytes 32 i.2.1 i.2.2 = j at *
  generalize rbytes1 32 I.2.1 I.2.2 = J at *
  have hb := h7.1
  refine sat_if (fun hJ => ?_) (fun hJ => ?_)
  · refine sat_r ⟨?_, h7⟩
    rw [if_neg (by rw [hb, hJ]; simp)]
    rfl
  · refine sat_r ⟨?_, h7⟩
    rw [if_pos (by rw [hb]; simpa using hJ)]
end Go.Gp
