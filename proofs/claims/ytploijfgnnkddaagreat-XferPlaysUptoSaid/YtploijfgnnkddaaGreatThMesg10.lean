/- What the statements say, of the plain functions. -/
import Derived.Test.YtploijfgnnkddaaGreatDefs
import Derived.Test.YtploijfgnnkddaaGreatLe
import Derived.Test.YtploijfgnnkddaaGreatThInts
import Derived.Test.YtploijfgnnkddaaGreatThPack
import Derived.Test.YtploijfgnnkddaaGreatThMesg
import Derived.Test.YtploijfgnnkddaaGreatThMesg2
import Derived.Test.YtploijfgnnkddaaGreatThMesg3
import Derived.Test.YtploijfgnnkddaaGreatThMesg4
import Derived.Test.YtploijfgnnkddaaGreatThMesg5
import Derived.Test.YtploijfgnnkddaaGreatThMesg6
import Derived.Test.YtploijfgnnkddaaGreatThMsg
import Derived.Test.YtploijfgnnkddaaGreatThMesg7
import Derived.Test.YtploijfgnnkddaaGreatThMesg8
import Derived.Test.YtploijfgnnkddaaGreatThMesgS
import Derived.Test.YtploijfgnnkddaaGreatGpCrc
import Derived.Test.YtploijfgnnkddaaGreatThCrc
import Derived.Test.YtploijfgnnkddaaGreatThFram
import Derived.Test.YtploijfgnnkddaaGreatThPack1
import Derived.Test.YtploijfgnnkddaaGreatThMesg9
/- Messages, as the document reads them. -/
namespace Go.Gp
open Go
theorem A2r (top : Int) (b : List UInt8) (bad : Bool) : (O5 top b bad).2.1.length ≤ b.length := A0b top b bad
theorem B0t {b B : List UInt8} {bad Bad : Bool} (h : RR b bad B Bad) (hB : B.length ≤ 1000000000) :
    Sat (T2.f 2000000000 B Bad) (fun r => r.1 = (A0n b bad).1 ∧ RR (A0n b bad).2.1 (A0n b bad).2.2 r.2.1 r.2.2) := by
  unfold T2.f A0n; have fz : (1073741824 : Int) = gig := rfl; rw [fz]; dsimp only; obtain ⟨e1, h1⟩ := h.num gig; have s1 := A2r gig B Bad; refine E4 (Y4 (by decide) (by omega) _ _) ?_; rw [← e1]; generalize H6 gig b bad = a at *; generalize O5 gig B Bad = A at *; obtain ⟨e2, h2⟩ := h1.num gig; have s2 := A2r gig A.2.1 A.2.2; refine E4 (Y4 (by decide) (by omega) _ _) ?_; rw [← e2]; generalize H6 gig a.2.1 a.2.2 = c at *; generalize O5 gig A.2.1 A.2.2 = C at *; obtain ⟨e3, h3⟩ := h2.num gig; have s3 := A2r gig C.2.1 C.2.2; refine E4 (Y4 (by decide) (by omega) _ _) ?_; rw [← e3]; generalize H6 gig c.2.1 c.2.2 = d at *; generalize O5 gig C.2.1 C.2.2 = D at *; obtain ⟨e4, h4⟩ := h3.num gig; have s4 := A2r gig D.2.1 D.2.2; refine E4 (Y4 (by decide) (by omega) _ _) ?_; rw [← e4]; generalize H6 gig d.2.1 d.2.2 = f at *; generalize O5 gig D.2.1 D.2.2 = F at *; obtain ⟨e5, h5⟩ := h4.bytes 32; have s5 := (A1i 32 F.2.1 F.2.2).1; refine E4 (A0h (by decide) (by omega) _ _) ?_; rw [← e5]; generalize J0 32 f.2.1 f.2.2 = g at *; generalize S3 32 F.2.1 F.2.2 = G at *; obtain ⟨e6, h6⟩ := h5.bytes 32; have s6 := (A1i 32 G.2.1 G.2.2).1; refine E4 (A0h (by decide) (by omega) _ _) ?_; rw [← e6]; generalize J0 32 g.2.1 g.2.2 = i at *; generalize S3 32 G.2.1 G.2.2 = I at *; obtain ⟨e7, h7⟩ := h6.bytes 32; refine E4 (A0h (by decide) (by omega) _ _) ?_; rw [← e7]; generalize J0 32 i.2.1 i.2.2 = j at *; generalize S3 32 I.2.1 I.2.2 = J at *; have hb := h7.1; refine J9 (fun hJ => ?_) (fun hJ => ?_)
  · refine O4 ⟨?_, h7⟩; rw [if_neg (by rw [hb, hJ]; simp)]
    rfl
  · refine O4 ⟨?_, h7⟩; rw [if_pos (by rw [hb]; simpa using hJ)]
end Go.Gp
