/- What the statements say, of the plain functions. -/
import Derived.Test.YtploijfgnnkddaaGreatDefs
import Derived.Test.YtploijfgnnkddaaGreatLe
import Derived.Test.YtploijfgnnkddaaGreatThInts
import Derived.Test.YtploijfgnnkddaaGreatThPack
/- Messages: how they are told in bytes. -/
namespace Go.Gp
open Go
theorem A4e {top : Int} {b : List UInt8} {bad : Bool} (h : (H6 top b bad).2.2 = false) : bad = false ∧ ∃ n : Nat, (H6 top b bad).1 = n ∧ n ≤ I8 top ∧ b = enc n ++ (H6 top b bad).2.1 := by
  unfold H6 at h ⊢
  cases hr : rd top b with
  | none => rw [hr] at h; cases h
  | some p =>
    rw [hr] at h; obtain ⟨h1, h2⟩ := A2T (n := p.1) (r := p.2) hr; exact ⟨h, p.1, rfl, h1, h2⟩
theorem A2S {m : Nat} {top : Int} {rest : List UInt8} (hm : m ≤ I8 top) : H6 top (enc m ++ rest) false = ((m : Int), rest, false) := by
  unfold H6; rw [A7o hm]
theorem A3R {top : Int} {b : List UInt8} {bad : Bool} (h : (J0 top b bad).2.2 = false) : bad = false ∧ (J0 top b bad).1.length ≤ I8 top ∧ b = enc (J0 top b bad).1.length ++ ((J0 top b bad).1 ++ (J0 top b bad).2.1) := by
  unfold J0 at h ⊢
  cases hr : rdB top b with
  | none => rw [hr] at h; cases h
  | some p =>
    rw [hr] at h; obtain ⟨h1, h2⟩ := A2y (x := p.1) (r := p.2) hr; exact ⟨h, h1, h2⟩
theorem A3q {x : List UInt8} {top : Int} {rest : List UInt8} (h : x.length ≤ I8 top) : J0 top (enc x.length ++ (x ++ rest)) false = (x, rest, false) := by
  unfold J0; rw [A8l h]
def Z6 (l : List Int) : List UInt8 := (l.map fun n => enc (I8 n)).flatten
theorem V2 (n : Int) (l : List Int) : Z6 (n :: l) = enc (I8 n) ++ Z6 l := rfl
theorem A2h : Z6 [] = [] := rfl
theorem A8P (l : List Int) (n : Int) : Z6 (l ++ [n]) = Z6 l ++ enc (I8 n) := by unfold Z6; simp
theorem A3h (l : List Int) : (Z6 l).length ≤ 9 * l.length := by
  induction l with
  | nil => simp [A2h]
  | cons n l ih => rw [V2, List.length_append, List.length_cons]; have := A2l n; omega
theorem A6q {l : List Int} (hl : l.length < 90) {b : List UInt8} (hb : b.length ≤ 10000000) : L7.f 2000000000 l b = some (b ++ Z6 l) := by
  suffices h : Sat (L7.f 2000000000 l b) (fun r => r = b ++ Z6 l) by
    obtain ⟨r, h1, h2⟩ := h; rw [h1, h2]
  unfold L7.f; refine A1b (fun v : Int × List UInt8 => ((l.length : Int) - v.1).toNat) (fun v => ∃ i : Nat, v.1 = i ∧ i ≤ l.length ∧ v.2 = b ++ Z6 (l.take i)) ?_ 2000000000 _ ⟨0, rfl, by omega, by simp [A2h]⟩ (by simp only; omega); rintro ⟨j, c⟩ ⟨i, h1, h2, h3⟩ ag hag; simp only at h1 h2 h3; subst h1 h3; show Sat (L7.B1 2000000000 l _ ag i _) _; unfold L7.B1; have hn := A3h (l.take i); have ht : (l.take i).length ≤ 90 := by simp only [List.length_take]; omega
  refine J9 (fun hlt => ?_) (fun hge => ?_)
  · have hi : i < l.length := by omega
    refine E4 (O7 (by omega) (by simpa using hi)) (E4 (B1X (by decide) (by simp only [List.length_append]; omega) _) ?_); have hw : w64 ((i : Int) + 1) = ((i + 1 : Nat) : Int) := by rw [A2w (by omega) (by omega)]; simp
    rw [hw]; refine hag _ ⟨i + 1, rfl, by omega, ?_⟩ (by simp only; omega); simp only [Int.toNat_natCast]; rw [← List.take_append_getElem (l := l) (i := i) hi, A8P, List.append_assoc]
  · have : i = l.length := by omega
    subst this; rw [List.take_length]; exact O4 rfl
def A6n (c : L6) : List UInt8 := enc c.Key.length ++ (c.Key ++ (enc c.Val.length ++ (c.Val ++ (enc c.Old.length ++ c.Old))))
def A1y (e : B8) : List UInt8 := Z6 [e.Sess, e.Seq, e.Cmd.Kind, e.Cmd.Who] ++ A6n e.Cmd
def B2N (l : List (List UInt8)) : List UInt8 := (l.map fun x => enc x.length ++ x).flatten
def B2w (b : Bool) : Int := if b = true then 1 else 0
def B2o (m : C3) : List UInt8 :=
  if m.Kind = 2 then Z6 [m.Inst, m.Len, B2w m.Has]
  else if m.Kind = 3 then Z6 [m.Members, m.Source, m.Len]
  else if m.Kind = 4 then Z6 [m.At]
  else if m.Kind = 5 then Z6 [m.At, m.Total] ++ (enc m.Data.length ++ m.Data)
  else if m.Kind = 7 then Z6 [m.Hop, m.Seq] ++ ((enc m.Have.length ++ Z6 m.Have) ++ (enc m.Need.length ++ Z6 m.Need))
  else if m.Kind = 8 then Z6 [m.Index] ++ A1y m.Entry
  else []
def B2B (m : C3) : List UInt8 := Z6 [m.Kind, m.From, m.To, m.View] ++ B2o m
def far : Int := 1099511627776
def A7b : Nat → List UInt8 → Bool → List Int × List UInt8 × Bool
  | 0, b, bad => ([], b, bad)
  | k + 1, b, bad => ((H6 far b bad).1 :: (A7b k (H6 far b bad).2.1 (H6 far b bad).2.2).1, (A7b k (H6 far b bad).2.1 (H6 far b bad).2.2).2)
theorem A2J (top : Int) (b : List UInt8) (bad : Bool) : (H6 top b bad).2.1.length ≤ b.length := by
  unfold H6
  cases hr : rd top b with
  | none => simp
  | some p => have := A4L (n := p.1) (r := p.2) hr; simp only; omega
theorem A2n (top : Int) (b : List UInt8) (bad : Bool) : 0 ≤ (H6 top b bad).1 ∧ (H6 top b bad).1 ≤ I8 top := by
  unfold H6
  cases hr : rd top b with
  | none => simp
  | some p => obtain ⟨h1, _⟩ := A2T (n := p.1) (r := p.2) hr; simp only; omega
end Go.Gp
