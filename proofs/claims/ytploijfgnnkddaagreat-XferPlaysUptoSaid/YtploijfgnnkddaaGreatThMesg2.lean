/- What the statements say, of the plain functions. -/
import Derived.Test.YtploijfgnnkddaaGreatDefs
import Derived.Test.YtploijfgnnkddaaGreatLe
import Derived.Test.YtploijfgnnkddaaGreatThInts
import Derived.Test.YtploijfgnnkddaaGreatThPack
import Derived.Test.YtploijfgnnkddaaGreatThMesg
/- Messages: how they are read. -/
namespace Go.Gp
open Go
def gig : Int := 1073741824
theorem A4g (top : Int) (b : List UInt8) (bad : Bool) : (J0 top b bad).2.1.length ≤ b.length := by
  unfold J0
  cases hr : rdB top b with
  | none => simp
  | some p => have := B0Z (x := p.1) (r := p.2) hr; simp only; omega
structure A3Y (e : B8) : Prop where
  s1 : 0 ≤ e.Sess ∧ e.Sess ≤ 1073741824
  s2 : 0 ≤ e.Seq ∧ e.Seq ≤ 1073741824
  s3 : 0 ≤ e.Cmd.Kind ∧ e.Cmd.Kind ≤ 1073741824
  s4 : 0 ≤ e.Cmd.Who ∧ e.Cmd.Who ≤ 1073741824
  l1 : e.Cmd.Key.length ≤ 32
  l2 : e.Cmd.Val.length ≤ 32
  l3 : e.Cmd.Old.length ≤ 32
def B2A : B8 := ⟨0, 0, ⟨0, 0, [], [], []⟩⟩
def A0n (b : List UInt8) (bad : Bool) : B8 × List UInt8 × Bool :=
  let a := H6 gig b bad
  let c := H6 gig a.2.1 a.2.2
  let d := H6 gig c.2.1 c.2.2
  let e := H6 gig d.2.1 d.2.2
  let f := J0 32 e.2.1 e.2.2
  let g := J0 32 f.2.1 f.2.2
  let h := J0 32 g.2.1 g.2.2
  (if h.2.2 = false then ⟨a.1, c.1, ⟨d.1, e.1, f.1, g.1, h.1⟩⟩ else B2A, h.2.1, h.2.2)
theorem A8a {b : List UInt8} (hb : b.length ≤ 1000000000) (bad : Bool) : A0i.f 2000000000 b bad = some (A0n b bad) := by
  unfold A0i.f A0n; obtain ⟨a, ha⟩ : ∃ a, H6 gig b bad = a := ⟨_, rfl⟩; have s1 := A2J gig b bad; rw [show (1073741824 : Int) = gig by rfl, Z0 (by decide) (by omega), ha]; rw [ha] at s1; simp only [Option.bind_some]; obtain ⟨c, hc⟩ : ∃ c, H6 gig a.2.1 a.2.2 = c := ⟨_, rfl⟩; have s2 := A2J gig a.2.1 a.2.2; rw [Z0 (by decide) (by omega), hc]; rw [hc] at s2; simp only [Option.bind_some]; obtain ⟨d, hd⟩ : ∃ d, H6 gig c.2.1 c.2.2 = d := ⟨_, rfl⟩; have s3 := A2J gig c.2.1 c.2.2; rw [Z0 (by decide) (by omega), hd]; rw [hd] at s3; simp only [Option.bind_some]; obtain ⟨e, he⟩ : ∃ e, H6 gig d.2.1 d.2.2 = e := ⟨_, rfl⟩; have s4 := A2J gig d.2.1 d.2.2; rw [Z0 (by decide) (by omega), he]; rw [he] at s4; simp only [Option.bind_some]; obtain ⟨f, hf⟩ : ∃ f, J0 32 e.2.1 e.2.2 = f := ⟨_, rfl⟩; have s5 := A4g 32 e.2.1 e.2.2; rw [A1D (by decide) (by omega), hf]; rw [hf] at s5; simp only [Option.bind_some]; obtain ⟨g, hg⟩ : ∃ g, J0 32 f.2.1 f.2.2 = g := ⟨_, rfl⟩; have s6 := A4g 32 f.2.1 f.2.2; rw [A1D (by decide) (by omega), hg]; rw [hg] at s6; simp only [Option.bind_some]; rw [A1D (by decide) (by omega)]; generalize J0 32 g.2.1 g.2.2 = h at *; obtain ⟨h1, h2, h3⟩ := h; simp only [Option.bind_some]; unfold A1n.f; cases h3 <;> rfl
theorem A7B : I8 gig = 1073741824 := by decide
theorem B1m {b : List UInt8} {bad : Bool} (h : (A0n b bad).2.2 = false) : bad = false ∧ A3Y (A0n b bad).1 ∧ b = A1y (A0n b bad).1 ++ (A0n b bad).2.1 := by
  unfold A0n at h ⊢; simp only at h ⊢; rw [if_pos h]; obtain ⟨q7, l7, w7⟩ := A3R h; obtain ⟨q6, l6, w6⟩ := A3R q7; obtain ⟨q5, l5, w5⟩ := A3R q6; obtain ⟨q4, n4, e4, m4, w4⟩ := A4e q5; obtain ⟨q3, n3, e3, m3, w3⟩ := A4e q4; obtain ⟨q2, n2, e2, m2, w2⟩ := A4e q3; obtain ⟨q1, n1, e1, m1, w1⟩ := A4e q2; have hg := A7B; have h32 : I8 32 = 32 := by decide
  rw [h32] at l5 l6 l7; rw [hg] at m1 m2 m3 m4; refine ⟨q1, ⟨by simp only; omega, by simp only; omega, by simp only; omega, by simp only; omega, l5, l6, l7⟩, ?_⟩; unfold A1y A6n; simp only; rw [V2, V2, V2, V2, A2h, e1, e2, e3, e4, A2k _ (by omega), A2k _ (by omega), A2k _ (by omega), A2k _ (by omega)]; simp only [List.append_assoc, List.append_nil]; rw [← w7, ← w6, ← w5, ← w4, ← w3, ← w2]; exact w1
theorem B0s {e : B8} (h : A3Y e) (rest : List UInt8) : A0n (A1y e ++ rest) false = (e, rest, false) := by
  obtain ⟨s1, s2, s3, s4, l1, l2, l3⟩ := h; have hg := A7B; have h32 : I8 32 = 32 := by decide
  have k1 : ((I8 e.Sess : Nat) : Int) = e.Sess := by unfold I8; omega
  have k2 : ((I8 e.Seq : Nat) : Int) = e.Seq := by unfold I8; omega
  have k3 : ((I8 e.Cmd.Kind : Nat) : Int) = e.Cmd.Kind := by unfold I8; omega
  have k4 : ((I8 e.Cmd.Who : Nat) : Int) = e.Cmd.Who := by unfold I8; omega
  unfold A0n A1y A6n; rw [V2, V2, V2, V2, A2h]; simp only [List.append_assoc, List.append_nil]; rw [A2S (by omega)]; simp only; rw [A2S (by omega)]; simp only; rw [A2S (by omega)]; simp only; rw [A2S (by omega)]; simp only; rw [A3q (by omega)]; simp only; rw [A3q (by omega)]; simp only; rw [A3q (by omega)]; simp only [if_true, k1, k2, k3, k4]
end Go.Gp
