/- What the statements say, of the plain functions. -/
import Derived.Test.YtploijfgnnkddaaGreatDefs
import Derived.Test.YtploijfgnnkddaaGreatLe
import Derived.Test.YtploijfgnnkddaaGreatThInts
import Derived.Test.YtploijfgnnkddaaGreatThPack
import Derived.Test.YtploijfgnnkddaaGreatThMesg
import Derived.Test.YtploijfgnnkddaaGreatThMesg2
/- Messages: the reading of a whole one. -/
namespace Go.Gp
open Go
def A4E : C3 := ⟨0, 0, 0, 0, 0, 0, false, 0, 0, 0, 0, ([] : List UInt8), 0, 0, ([] : List Int), ([] : List Int), 0, (⟨0, 0, (⟨0, 0, ([] : List UInt8), ([] : List UInt8), ([] : List UInt8)⟩ : L6)⟩ : B8)⟩
def A5p (m : C3) (p : List UInt8 × Bool) : C3 × Bool := (m, if p.2 = true then false else ((p.1.length : Int) == 0))
def B2r (z : C3) (p : List UInt8 × Bool) : C3 × Bool :=
  if z.Kind = 2 then
    let a := H6 far p.1 p.2
    let c := H6 far a.2.1 a.2.2
    let d := H6 1 c.2.1 c.2.2
    A5p { z with Inst := a.1, Len := c.1, Has := d.1 == 1 } d.2
  else if z.Kind = 3 then
    let a := H6 127 p.1 p.2
    let c := H6 6 a.2.1 a.2.2
    let d := H6 far c.2.1 c.2.2
    A5p { z with Members := a.1, Source := c.1, Len := d.1 } d.2
  else if z.Kind = 4 then
    let a := H6 far p.1 p.2
    A5p { z with At := a.1 } a.2
  else if z.Kind = 5 then
    let a := H6 far p.1 p.2
    let c := H6 far a.2.1 a.2.2
    let d := J0 64 c.2.1 c.2.2
    A5p { z with At := a.1, Total := c.1, Data := d.1 } d.2
  else if z.Kind = 7 then
    let a := H6 far p.1 p.2
    let c := H6 far a.2.1 a.2.2
    let n := H6 7 c.2.1 c.2.2
    let d := A7b n.1.toNat n.2.1 n.2.2
    let o := H6 8 d.2.1 d.2.2
    let e := A7b o.1.toNat o.2.1 o.2.2
    A5p { z with Hop := a.1, Seq := c.1, Have := d.1, Need := e.1 } e.2
  else if z.Kind = 8 then
    let a := H6 far p.1 p.2
    let c := A0n a.2.1 a.2.2
    A5p { z with Index := a.1, Entry := c.1 } c.2
  else (A4E, false)
def A5b (b : List UInt8) : C3 × List UInt8 × Bool :=
  let k := H6 8 b false
  let f := H6 6 k.2.1 k.2.2
  let t := H6 6 f.2.1 f.2.2
  let v := H6 far t.2.1 t.2.2
  (⟨k.1, f.1, t.1, v.1, 0, 0, false, 0, 0, 0, 0, ([] : List UInt8), 0, 0, ([] : List Int), ([] : List Int), 0, (⟨0, 0, (⟨0, 0, ([] : List UInt8), ([] : List UInt8), ([] : List UInt8)⟩ : L6)⟩ : B8)⟩, v.2.1, v.2.2)
def B0E (b : List UInt8) : C3 × Bool :=
  if (A5b b).1.Kind = 1 ∨ (A5b b).1.Kind = 6 then A5p (A5b b).1 (A5b b).2 else B2r (A5b b).1 (A5b b).2
end Go.Gp
