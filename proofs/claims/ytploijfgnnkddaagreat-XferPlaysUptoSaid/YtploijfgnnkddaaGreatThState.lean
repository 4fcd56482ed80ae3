/- What the statements say, of the plain functions. -/
import Derived.Test.YtploijfgnnkddaaGreatDefs
import Derived.Test.YtploijfgnnkddaaGreatLe
import Derived.Test.YtploijfgnnkddaaGreatThInts
import Derived.Test.YtploijfgnnkddaaGreatThPack
import Derived.Test.YtploijfgnnkddaaGreatThMesg
import Derived.Test.YtploijfgnnkddaaGreatThMesg2
import Derived.Test.YtploijfgnnkddaaGreatThMesg3
import Derived.Test.YtploijfgnnkddaaGreatThMesg4
import Derived.Test.YtploijfgnnkddaaGreatThMesg5
import Derived.Test.YtploijfgnnkddaaGreatThMesg6
import Derived.Test.YtploijfgnnkddaaGreatThMsg
import Derived.Test.YtploijfgnnkddaaGreatThMesg7
import Derived.Test.YtploijfgnnkddaaGreatThMesg8
import Derived.Test.YtploijfgnnkddaaGreatThMesgS
import Derived.Test.YtploijfgnnkddaaGreatGpCrc
import Derived.Test.YtploijfgnnkddaaGreatThCrc
import Derived.Test.YtploijfgnnkddaaGreatThFram
import Derived.Test.YtploijfgnnkddaaGreatThPack1
import Derived.Test.YtploijfgnnkddaaGreatThMesg9
import Derived.Test.YtploijfgnnkddaaGreatThMesg10
import Derived.Test.YtploijfgnnkddaaGreatThRows
import Derived.Test.YtploijfgnnkddaaGreatThMach
import Derived.Test.YtploijfgnnkddaaGreatThMach2
import Derived.Test.YtploijfgnnkddaaGreatThMach3
import Derived.Test.YtploijfgnnkddaaGreatThMach4
import Derived.Test.YtploijfgnnkddaaGreatThBlob
import Derived.Test.YtploijfgnnkddaaGreatThBlob2
import Derived.Test.YtploijfgnnkddaaGreatThStep
/- States of numbers; what is cut, or turned. -/
namespace Go.Gp
open Go
theorem A8x {K : Nat} (hK : K = 2000000000) (l : List Int) (a r : Int) : Sat (I3.f K l a r) (fun s => OkS s ∧ s.Rest.length ≤ 31) := by
  have hK2 : 1000 ≤ K := by rw [hK]; decide
  clear hK; unfold I3.f; refine A0a (A8R (by omega) l) (fun m hm => ?_); have b1 := A1o r 31 5 rfl (by decide); have b2 := A1o a 65535 16 rfl (by decide); obtain ⟨m1, m2⟩ := A9A hm; refine A1b (fun v : Int × List B8 => (31 - v.1).toNat) (fun v => ∃ i : Nat, v.1 = (i : Int) ∧ i ≤ 31 ∧ v.2.length = i ∧ ∀ e ∈ v.2, A3Y e) ?_ K _ ⟨0, rfl, by omega, rfl, by simp⟩ (by simp only; omega); rintro ⟨j, out⟩ ⟨i, g1, g2, g3, g4⟩ ag hag; simp only at g1 g3 g4; subst g1; show Sat (I3.B1 K r a _ ag (i : Int) out) _; unfold I3.B1 I3.J1; refine J9 (fun hlt => ?_) (fun hge => ?_)
  · have hy : w64 ((i : Int) + 20) = ((i + 20 : Nat) : Int) := by rw [T9 (by omega)]; omega
    rw [hy]; obtain ⟨e, e1, e2, e3, e4⟩ := A6M (w64 (shr .i64 a (R7 (F0 .i64 (i : Int) 7)) + w64 ((i : Int) * 977))) (y := ((i + 20 : Nat) : Int)) (by omega); refine E4 e1 (E4 (R6 (by simp only [List.length_singleton]; omega)) ?_); rw [Q2 (by omega)]; refine hag _ ⟨i + 1, rfl, by omega, by simp; omega, fun x hx => ?_⟩ (by simp only; omega)
    rcases List.mem_append.1 hx with hx | hx
    · exact g4 x hx
    · obtain rfl := List.mem_singleton.1 hx; obtain ⟨c1, c2, c3, c4, c5⟩ := e2; refine ⟨by simp only; omega, by simp only; omega, by simp only; omega, ?_, by simp only; omega, by simp only; omega, by simp only; omega⟩; simp only; rw [A8Q]; omega
  · refine O4 ⟨⟨by simp only; omega, ?_, m1, m2, by simp only; omega, g4⟩, by simp only; omega⟩; unfold big; simp only; omega
theorem A9Y {K : Nat} (hK : K = 2000000000) (l : List Int) (a r : Int) : Sat (I3.f K l a r) OkS := by
  obtain ⟨v, h1, h2, _⟩ := A8x hK l a r; exact ⟨v, h1, h2⟩
def B2R : Rdr (Int × List UInt8 × List B8) := rd2 Prod.mk (H6 big) (rd2 Prod.mk (J0 1048576) A0p)
theorem A9Z {s : E5} (h : OkS s) : (stW s).length ≤ 1950 + 170 * s.Rest.length := by
  obtain ⟨⟨⟨r1, ⟨q1, q2⟩, ⟨l1, l2⟩, p1, p2⟩, t1, t2⟩, _⟩ := And.intro h.m h.r; have b0 := X6 r1 (by omega); have b1 := A0J (w := V4) (xs := s.Machine.Objects.Queue) (B := 25) (fun x hx => X6 (q2 x hx) (by omega)) (by omega); have b2 := A0J (w := Z9) (xs := s.Machine.Objects.Lock) (B := 9) (fun x _ => Y8 x) (by omega); have b3 := A0J (w := A1E) (xs := s.Machine.Objects.Map) (B := 42) (fun x hx => by
    obtain ⟨g1, g2⟩ := p2 x hx; have := X6 g1 (by omega); have := X6 g2 (by omega); unfold A1E; rw [List.length_append]; omega) (by omega)
  have b4 := A0J (w := A2a) (xs := s.Machine.Table) (B := 61) (fun x hx => by
    obtain ⟨_, _, _, _, g⟩ := t2 x hx; have := X6 g (by omega); have h2 := Y8 x.Sess; have h3 := Y8 x.Seq; have h4 := Y8 x.Result.Err; have h5 := Y8 (w64 (x.Result.N + 1)); unfold A2a; simp only [List.length_append]; omega) (by omega)
  have hm : (A0Y s.Machine).length ≤ 1900 := by
    unfold A0Y; simp only [List.length_append]; omega
  have c1 := X6 hm (by omega); have c2 := A0J (w := A1y) (xs := s.Rest) (B := 170) (fun e he => by
    obtain ⟨_, _, _, _, h1, h2, h3⟩ := h.e e he; have l4 := A3h [e.Sess, e.Seq, e.Cmd.Kind, e.Cmd.Who]; simp only [List.length_cons, List.length_nil] at l4; have g5 := Z8 (n := e.Cmd.Key.length) (by omega); have g6 := Z8 (n := e.Cmd.Val.length) (by omega); have g7 := Z8 (n := e.Cmd.Old.length) (by omega); unfold A1y A6n; simp only [List.length_append]; omega) (by have := h.l; omega)
  have c3 := Y8 s.At; have := h.l; unfold stW; simp only [List.length_append]; omega
theorem A9l {s : E5} (h : OkS s) : (stW s).length ≤ 19000 := by
  have := A9Z h; have := h.l; omega
def s3 : E5 := ⟨3, (⟨(⟨([] : List UInt8), ([] : List (List UInt8)), ([] : List Int), ([] : List A7)⟩ : C0), ([] : List B6)⟩ : A5), ([(⟨1, 1, (⟨1, 0, ([] : List UInt8), ([] : List UInt8), ([] : List UInt8)⟩ : L6)⟩ : B8)] : List B8)⟩
theorem B1W (n : Int) (hn : 0 ≤ n ∧ n ≤ 1000) (l : List B8) (hl : l.length ≤ 64) (he : ∀ e ∈ l, A3Y e) : OkS ⟨n, A0r, l⟩ := by
  obtain ⟨h1, h2⟩ := A9A A7h; exact ⟨hn.1, by unfold big; simp only; omega, h1, h2, hl, he⟩
theorem A8V {n : Nat} (h : n < 128) : enc n = [UInt8.ofNat n] := A3j h
theorem B1Z : A0Y A0r = [0, 0, 0, 0, 0] := by
  unfold A0Y V4 Z3 A0r; simp only [List.length_nil, List.map_nil, List.flatten_nil, List.append_nil]; rw [A8V (by decide)]
  rfl
end Go.Gp
