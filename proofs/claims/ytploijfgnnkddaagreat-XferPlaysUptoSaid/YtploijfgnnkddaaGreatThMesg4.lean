/- What the statements say, of the plain functions. -/
import Derived.Test.YtploijfgnnkddaaGreatDefs
import Derived.Test.YtploijfgnnkddaaGreatLe
import Derived.Test.YtploijfgnnkddaaGreatThInts
import Derived.Test.YtploijfgnnkddaaGreatThPack
import Derived.Test.YtploijfgnnkddaaGreatThMesg
import Derived.Test.YtploijfgnnkddaaGreatThMesg2
import Derived.Test.YtploijfgnnkddaaGreatThMesg3
/- Messages: there and back. -/
namespace Go.Gp
open Go
def OkM (m : C3) : Prop :=
  (0 ≤ m.From ∧ m.From ≤ 6) ∧ (0 ≤ m.To ∧ m.To ≤ 6) ∧ (0 ≤ m.View ∧ m.View ≤ far) ∧
  (m.Kind = 1 ∨ m.Kind = 6 ∨
  (m.Kind = 2 ∧ (0 ≤ m.Inst ∧ m.Inst ≤ far) ∧ (0 ≤ m.Len ∧ m.Len ≤ far)) ∨
  (m.Kind = 3 ∧ (0 ≤ m.Members ∧ m.Members ≤ 127) ∧ (0 ≤ m.Source ∧ m.Source ≤ 6) ∧ (0 ≤ m.Len ∧ m.Len ≤ far)) ∨
  (m.Kind = 4 ∧ (0 ≤ m.At ∧ m.At ≤ far)) ∨
  (m.Kind = 5 ∧ (0 ≤ m.At ∧ m.At ≤ far) ∧ (0 ≤ m.Total ∧ m.Total ≤ far) ∧ m.Data.length ≤ 64) ∨
  (m.Kind = 7 ∧ (0 ≤ m.Hop ∧ m.Hop ≤ far) ∧ (0 ≤ m.Seq ∧ m.Seq ≤ far) ∧ (m.Have.length ≤ 7 ∧ ∀ x ∈ m.Have, 0 ≤ x ∧ x ≤ far) ∧ (m.Need.length ≤ 8 ∧ ∀ x ∈ m.Need, 0 ≤ x ∧ x ≤ far)) ∨
  (m.Kind = 8 ∧ (0 ≤ m.Index ∧ m.Index ≤ far) ∧ A3Y m.Entry))
theorem B1k {n top : Int} (h : 0 ≤ n ∧ n ≤ top) (ht : top ≤ 4611686018427387904) : I8 n ≤ I8 top ∧ ((I8 n : Nat) : Int) = n := by unfold I8; omega
theorem A4f {n top : Int} (h : 0 ≤ n ∧ n ≤ top) (ht : top ≤ 4611686018427387904) (rest : List UInt8) : H6 top (enc (I8 n) ++ rest) false = (n, rest, false) := by
  obtain ⟨h1, h2⟩ := B1k h ht; rw [A2S h1, h2]
def A3F (m : C3) : C3 := ⟨m.Kind, m.From, m.To, m.View, 0, 0, false, 0, 0, 0, 0, ([] : List UInt8), 0, 0, ([] : List Int), ([] : List Int), 0, (⟨0, 0, (⟨0, 0, ([] : List UInt8), ([] : List UInt8), ([] : List UInt8)⟩ : L6)⟩ : B8)⟩
def B2U (m : C3) : C3 :=
  if m.Kind = 2 then { A3F m with Inst := m.Inst, Len := m.Len, Has := m.Has }
  else if m.Kind = 3 then { A3F m with Members := m.Members, Source := m.Source, Len := m.Len }
  else if m.Kind = 4 then { A3F m with At := m.At }
  else if m.Kind = 5 then { A3F m with At := m.At, Total := m.Total, Data := m.Data }
  else if m.Kind = 7 then { A3F m with Hop := m.Hop, Seq := m.Seq, Have := m.Have, Need := m.Need }
  else if m.Kind = 8 then { A3F m with Index := m.Index, Entry := m.Entry }
  else A3F m
end Go.Gp
