/- What the statements say, of the plain functions. -/
import Derived.Test.YtploijfgnnkddaaDefs
import Derived.Test.YtploijfgnnkddaaLe
import Derived.Test.YtploijfgnnkddaaThInts
import Derived.Test.YtploijfgnnkddaaThPack
import Derived.Test.YtploijfgnnkddaaThMesg
/- Messages: how they are read. -/
namespace Go.Gp
open Go
def gig : Int := 1073741824
theorem rbytes_shrinks (top : Int) (b : List UInt8) (bad : Bool) : (rbytes top b bad).2.1.length ≤ b.length := by
  unfold rbytes
  cases hr : rdB top b with
  | none => simp
  | some p => have := rdB_len (x := p.1) (r := p.2) hr; simp only; omega
structure EntOk (e : api_Entry) : Prop where
  s1 : 0 ≤ e.Sess ∧ e.Sess ≤ 1073741824
  s2 : 0 ≤ e.Seq ∧ e.Seq ≤ 1073741824
  s3 : 0 ≤ e.Cmd.Kind ∧ e.Cmd.Kind ≤ 1073741824
  s4 : 0 ≤ e.Cmd.Who ∧ e.Cmd.Who ≤ 1073741824
  l1 : e.Cmd.Key.length ≤ 32
  l2 : e.Cmd.Val.length ≤ 32
  l3 : e.Cmd.Old.length ≤ 32
def zent : api_Entry := ⟨0, 0, ⟨0, 0, [], [], []⟩⟩
/-- An entry, read; none where one of its parts is none. -/
def getE (b : List UInt8) (bad : Bool) : api_Entry × List UInt8 × Bool :=
  let a := rnum gig b bad
  let c := rnum gig a.2.1 a.2.2
  let d := rnum gig c.2.1 c.2.2
  let e := rnum gig d.2.1 d.2.2
  let f := rbytes 32 e.2.1 e.2.2
  let g := rbytes 32 f.2.1 f.2.2
  let h := rbytes 32 g.2.1 g.2.2
  (if h.2.2 = false then ⟨a.1, c.1, ⟨d.1, e.1, f.1, g.1, h.1⟩⟩ else zent, h.2.1, h.2.2)
theorem getEntry_eq {b : List UInt8} (hb : b.length ≤ 1000000000) (bad : Bool) : mach_GetEntry.f 2000000 b bad = some (getE b bad) := by
  unfold mach_GetEntry.f getE
  obtain ⟨a, ha⟩ : ∃ a, rnum gig b bad = a := ⟨_, rfl⟩
  have s1 := rnum_shrinks gig b bad
  rw [show (1073741824 : Int) = gig by rfl, rnum_eq (by decide) (by omega), ha]
  rw [ha] at s1
  simp only [Option.bind_some]
  obtain ⟨c, hc⟩ : ∃ c, rnum gig a.2.1 a.2.2 = c := ⟨_, rfl⟩
  have s2 := rnum_shrinks gig a.2.1 a.2.2
  rw [rnum_eq (by decide) (by omega), hc]
  rw [hc] at s2
  simp only [Option.bind_some]
  obtain ⟨d, hd⟩ : ∃ d, rnum gig c.2.1 c.2.2 = d := ⟨_, rfl⟩
  have s3 := rnum_shrinks gig c.2.1 c.2.2
  rw [rnum_eq (by decide) (by omega), hd]
  rw [hd] at s3
  simp only [Option.bind_some]
  obtain ⟨e, he⟩ : ∃ e, rnum gig d.2.1 d.2.2 = e := ⟨_, rfl⟩
  have s4 := rnum_shrinks gig d.2.1 d.2.2
  rw [rnum_eq (by decide) (by omega), he]
  rw [he] at s4
  simp only [Option.bind_some]
  obtain ⟨f, hf⟩ : ∃ f, rbytes 32 e.2.1 e.2.2 = f := ⟨_, rfl⟩
  have s5 := rbytes_shrinks 32 e.2.1 e.2.2
  rw [rbytes_eq (by decide) (by omega), hf]
  rw [hf] at s5
  simp only [Option.bind_some]
  obtain ⟨g, hg⟩ : ∃ g, rbytes 32 f.2.1 f.2.2 = g := ⟨_, rfl⟩
  have s6 := rbytes_shrinks 32 f.2.1 f.2.2
  rw [rbytes_eq (by decide) (by omega), hg]
  rw [hg] at s6
  simp only [Option.bind_some]
  rw [rbytes_eq (by decide) (by omega)]
  generalize rbytes 32 g.2.1 g.2.2 = h at *
  obtain ⟨h1, h2, h3⟩ := h
  simp only [Option.bind_some]
  unfold pack_Reader_Ok.f
  cases h3 <;> rfl
theorem held_gig : held2 gig = 1073741824 := by decide
theorem getE_ok {b : List UInt8} {bad : Bool} (h : (getE b bad).2.2 = false) : bad = false ∧ EntOk (getE b bad).1 ∧ b = entW (getE b bad).1 ++ (getE b bad).2.1 := by
  unfold getE at h ⊢
  simp only at h ⊢
  rw [if_pos h]
  obtain ⟨q7, l7, w7⟩ := rbytes_ok h
  obtain ⟨q6, l6, w6⟩ := rbytes_ok q7
  obtain ⟨q5, l5, w5⟩ := rbytes_ok q6
  obtain ⟨q4, n4, e4, m4, w4⟩ := rnum_ok q5
  obtain ⟨q3, n3, e3, m3, w3⟩ := rnum_ok q4
  obtain ⟨q2, n2, e2, m2, w2⟩ := rnum_ok q3
  obtain ⟨q1, n1, e1, m1, w1⟩ := rnum_ok q2
  have hg := held_gig
  have h32 : held2 32 = 32 := by decide
  rw [h32] at l5 l6 l7
  rw [hg] at m1 m2 m3 m4
  refine ⟨q1, ⟨by simp only; omega, by simp only; omega, by simp only; omega, by simp only; omega, l5, l6, l7⟩, ?_⟩
  unfold entW cmdW
  simp only
  rw [numsL_cons, numsL_cons, numsL_cons, numsL_cons, numsL_nil, e1, e2, e3, e4, held2_nat _ (by omega), held2_nat _ (by omega), held2_nat _ (by omega), held2_nat _ (by omega)]
  simp only [List.append_assoc, List.append_nil]
  rw [← w7, ← w6, ← w5, ← w4, ← w3, ← w2]
  exact w1
theorem getE_enc {e : api_Entry} (h : EntOk e) (rest : List UInt8) : getE (entW e ++ rest) false = (e, rest, false) := by
  obtain ⟨s1, s2, s3, s4, l1, l2, l3⟩ := h
  have hg := held_gig
  have h32 : held2 32 = 32 := by decide
  have k1 : ((held2 e.Sess : Nat) : Int) = e.Sess := by unfold held2; omega
  have k2 : ((held2 e.Seq : Nat) : Int) = e.Seq := by unfold held2; omega
  have k3 : ((held2 e.Cmd.Kind : Nat) : Int) = e.Cmd.Kind := by unfold held2; omega
  have k4 : ((held2 e.Cmd.Who : Nat) : Int) = e.Cmd.Who := by unfold held2; omega
  unfold getE entW cmdW
  rw [numsL_cons, numsL_cons, numsL_cons, numsL_cons, numsL_nil]
  simp only [List.append_assoc, List.append_nil]
  rw [rnum_enc (by omega)]
  simp only
  rw [rnum_enc (by omega)]
  simp only
  rw [rnum_enc (by omega)]
  simp only
  rw [rnum_enc (by omega)]
  simp only
  rw [rbytes_enc (by omega)]
  simp only
  rw [rbytes_enc (by omega)]
  simp only
  rw [rbytes_enc (by omega)]
  simp only [if_true, k1, k2, k3, k4]
end Go.Gp
