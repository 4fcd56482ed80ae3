/- What the statements say, of the plain functions. -/
import Derived.Test.YtploijfgnnkddaaDefs
import Derived.Test.YtploijfgnnkddaaLe
import Derived.Test.YtploijfgnnkddaaThInts
import Derived.Test.YtploijfgnnkddaaThPack
import Derived.Test.YtploijfgnnkddaaThMesg
import Derived.Test.YtploijfgnnkddaaThMesg2
import Derived.Test.YtploijfgnnkddaaThMesg3
import Derived.Test.YtploijfgnnkddaaThMesg4
import Derived.Test.YtploijfgnnkddaaThMesg5
import Derived.Test.YtploijfgnnkddaaThMesg6
import Derived.Test.YtploijfgnnkddaaThMsg
import Derived.Test.YtploijfgnnkddaaThMesg7
import Derived.Test.YtploijfgnnkddaaThMesg8
import Derived.Test.YtploijfgnnkddaaThMesgS
import Derived.Test.YtploijfgnnkddaaGpCrc
import Derived.Test.YtploijfgnnkddaaThCrc
import Derived.Test.YtploijfgnnkddaaThFram
import Derived.Test.YtploijfgnnkddaaThPack1
import Derived.Test.YtploijfgnnkddaaThMesg9
import Derived.Test.YtploijfgnnkddaaThMesg10
import Derived.Test.YtploijfgnnkddaaThRows
import Derived.Test.YtploijfgnnkddaaThMach
import Derived.Test.YtploijfgnnkddaaThMach2
import Derived.Test.YtploijfgnnkddaaThMach3
import Derived.Test.YtploijfgnnkddaaThMach4
import Derived.Test.YtploijfgnnkddaaThBlob
import Derived.Test.YtploijfgnnkddaaThBlob2
/- The machine that entries of numbers come to: it may be. -/
namespace Go.Gp
open Go
/-! ### results, and what they are of -/
def OkRes (r : api_Result) : Prop := (0 ≤ r.Err ∧ r.Err ≤ 10) ∧ (-1 ≤ r.N ∧ r.N ≤ 1073741824) ∧ r.Val.length ≤ 16
structure OkO (o : api_Objects) : Prop where
  ob : OkObj o
  l : o.Lock.Nodup
  p : o.Map.Pairwise (fun a b => slt a.Key b.Key = true)
def OkQ (q : List (List UInt8)) : Prop := (q.length : Int) ≤ 8 ∧ ∀ x ∈ q, x.length ≤ 16
structure OkL (l : List Int) : Prop where
  n : (l.length : Int) ≤ 5
  r : ∀ x ∈ l, 0 ≤ x ∧ x ≤ 999
  d : l.Nodup
structure OkMp (l : List api_Pair) : Prop where
  n : (l.length : Int) ≤ 8
  r : ∀ x ∈ l, OkPair x
  d : l.Pairwise (fun a b => slt a.Key b.Key = true)
structure OkT (t : List api_Last) : Prop where
  n : (t.length : Int) ≤ 8
  r : ∀ x ∈ t, OkLast x
  s : ∀ x ∈ t, 1 ≤ x.Sess ∧ 1 ≤ x.Seq
  d : t.Pairwise (fun a b => a.Sess < b.Sess)
/-- A call that is new has its place, or there is room for one. -/
def Fits (t : List api_Last) (s : Int) : Prop := (t.length : Int) < 8 ∨ ∃ (i : Nat) (h : i < t.length), (∀ p ∈ t.take i, p.Sess < s) ∧ (t[i]'h).Sess = s
structure OkM' (m : api_Machine) : Prop where
  o : OkO m.Objects
  t : OkT m.Table
theorem okM_rd {m : api_Machine} (h : OkM' m) : OkRd m ∧ RightM m := ⟨⟨h.o.ob, h.t.n, h.t.r⟩, h.o.l, h.t.s, h.o.p, h.t.d⟩
theorem zmach_ok : OkM' zmach := ⟨⟨⟨by simp [zmach], ⟨by simp [zmach], by simp [zmach]⟩, ⟨by simp [zmach], by simp [zmach]⟩, by simp [zmach], by simp [zmach]⟩, by simp [zmach], by simp [zmach]⟩, ⟨by simp [zmach], by simp [zmach], by simp [zmach], by simp [zmach]⟩⟩
end Go.Gp
