/- What the statements say, of the plain functions. -/
import Derived.Test.YtploijfgnnkddaaDefs
import Derived.Test.YtploijfgnnkddaaLe
import Derived.Test.YtploijfgnnkddaaThInts
import Derived.Test.YtploijfgnnkddaaThPack
import Derived.Test.YtploijfgnnkddaaThMesg
import Derived.Test.YtploijfgnnkddaaThMesg2
/- Messages: the reading of a whole one. -/
namespace Go.Gp
open Go
def zmsg : api_Msg := ⟨0, 0, 0, 0, 0, 0, false, 0, 0, 0, 0, ([] : List UInt8), 0, 0, ([] : List Int), ([] : List Int), 0, (⟨0, 0, (⟨0, 0, ([] : List UInt8), ([] : List UInt8), ([] : List UInt8)⟩ : api_Cmd)⟩ : api_Entry)⟩
def finM (m : api_Msg) (p : List UInt8 × Bool) : api_Msg × Bool := (m, if p.2 = true then false else ((p.1.length : Int) == 0))
/-- What stands behind the head. -/
def restM (z : api_Msg) (p : List UInt8 × Bool) : api_Msg × Bool :=
  if z.Kind = 2 then
    let a := rnum far p.1 p.2
    let c := rnum far a.2.1 a.2.2
    let d := rnum 1 c.2.1 c.2.2
    finM { z with Inst := a.1, Len := c.1, Has := d.1 == 1 } d.2
  else if z.Kind = 3 then
    let a := rnum 127 p.1 p.2
    let c := rnum 6 a.2.1 a.2.2
    let d := rnum far c.2.1 c.2.2
    finM { z with Members := a.1, Source := c.1, Len := d.1 } d.2
  else if z.Kind = 4 then
    let a := rnum far p.1 p.2
    finM { z with At := a.1 } a.2
  else if z.Kind = 5 then
    let a := rnum far p.1 p.2
    let c := rnum far a.2.1 a.2.2
    let d := rbytes 64 c.2.1 c.2.2
    finM { z with At := a.1, Total := c.1, Data := d.1 } d.2
  else if z.Kind = 7 then
    let a := rnum far p.1 p.2
    let c := rnum far a.2.1 a.2.2
    let n := rnum 7 c.2.1 c.2.2
    let d := rnums n.1.toNat n.2.1 n.2.2
    let o := rnum 8 d.2.1 d.2.2
    let e := rnums o.1.toNat o.2.1 o.2.2
    finM { z with Hop := a.1, Seq := c.1, Have := d.1, Need := e.1 } e.2
  else if z.Kind = 8 then
    let a := rnum far p.1 p.2
    let c := getE a.2.1 a.2.2
    finM { z with Index := a.1, Entry := c.1 } c.2
  else (zmsg, false)
def headM (b : List UInt8) : api_Msg × List UInt8 × Bool :=
  let k := rnum 8 b false
  let f := rnum 6 k.2.1 k.2.2
  let t := rnum 6 f.2.1 f.2.2
  let v := rnum far t.2.1 t.2.2
  (⟨k.1, f.1, t.1, v.1, 0, 0, false, 0, 0, 0, 0, ([] : List UInt8), 0, 0, ([] : List Int), ([] : List Int), 0, (⟨0, 0, (⟨0, 0, ([] : List UInt8), ([] : List UInt8), ([] : List UInt8)⟩ : api_Cmd)⟩ : api_Entry)⟩, v.2.1, v.2.2)
def readM (b : List UInt8) : api_Msg × Bool :=
  if (headM b).1.Kind = 1 ∨ (headM b).1.Kind = 6 then finM (headM b).1 (headM b).2 else restM (headM b).1 (headM b).2
end Go.Gp
