/- What the statements say, of the plain functions. -/
import Derived.Test.YtploijfgnnkddaaGreatDefs
import Derived.Test.YtploijfgnnkddaaGreatLe
import Derived.Test.YtploijfgnnkddaaGreatThInts
import Derived.Test.YtploijfgnnkddaaGreatThPack
import Derived.Test.YtploijfgnnkddaaGreatThMesg
import Derived.Test.YtploijfgnnkddaaGreatThMesg2
/- Messages: the reading of a whole one. -/
namespace Go.Gp
open Go
def zmsg : api_Msg := ⟨0, 0, 0, 0, 0, 0, false, 0, 0, 0, 0, ([] : List UInt8), 0, 0, ([] : List Int), ([] : List Int), 0, (⟨0, 0, (⟨0, 0, ([] : List UInt8), ([] : List UInt8), ([] : List UInt8)⟩ : api_Cmd)⟩ : api_Entry)⟩
def finM (m : api_Msg) (p : List UInt8 × Bool) : api_Msg × Bool := (m, if p.2 = true then false else ((p.1.length : Int) == 0))
def restM (z : api_Msg) (p : List UInt8 × Bool) : api_Msg × Bool :=
  if z.Kind = 2 then
    let a := rnum far p.1 p.2
    let c := rnum far a.2.1 a.2.2
    let d := rnum 1 c.2.1 c.2.2
    finM { z with Inst := a.1, Len := c.1, Has := d.1 == 1 } d.2
  else if z.Kind = 3 then
    let a := rnum 127 p.1 p.2
    let c := rnum 6 a.2.1 a.2.2
    let d := rnum far c.2.1 c.2.2
    finM { z with Members := a.1, Source := c.1, Len := d.1 } d.2
  else if z.Kind = 4 then
    let a := rnum far p.1 p.2
    finM { z with At := a.1 } a.2
  else if z.Kind = 5 then
    let a := rnum far p.1 p.2
    let c := rnum far a.2.1 a.2.2
    let d := rbytes 64 c.2.1 c.2.2
    finM { z with At := a.1, Total := c.1, Data := d.1 } d.2
  else if z.Kind = 7 then
    let a := rnum far p.1 p.2
    let c := rnum far a.2.1 a.2.2
    let n := rnum 7 c.2.1 c.2.2
    let d := rnums n.1.toNat n.2.1 n.2.2
    let o := rnum 8 d.2.1 d.2.2
    let e := rnums o.1.toNat o.2.1 o.2.2
    finM { z with Hop := a.1, Seq := c.1, Have := d.1, Need := e.1 } e.2
  else if z.Kind = 8 then
    let a := rnum far p.1 p.2
    let c := getE a.2.1 a.2.2
    finM { z with Index := a.1, Entry := c.1 } c.2
  else (zmsg, false)
def headM (b : List UInt8) : api_Msg × List UInt8 × Bool :=
  let k := rnum 8 b false
  let f := rnum 6 k.2.1 k.2.2
  let t := rnum 6 f.2.1 f.2.2
  let v := rnum far t.2.1 t.2.2
  (⟨k.1, f.1, t.1, v.1, 0, 0, false, 0, 0, 0, 0, ([] : List UInt8), 0, 0, ([] : List Int), ([] : List Int), 0, (⟨0, 0, (⟨0, 0, ([] : List UInt8), ([] : List UInt8), ([] : List UInt8)⟩ : api_Cmd)⟩ : api_Entry)⟩, v.2.1, v.2.2)
def readM (b : List UInt8) : api_Msg × Bool :=
  if (headM b).1.Kind = 1 ∨ (headM b).1.Kind = 6 then finM (headM b).1 (headM b).2 else restM (headM b).1 (headM b).2
theorem fin_eq (m : api_Msg) (p : List UInt8 × Bool) : mesg_read.J1 2000000 ⟨p.1, p.2⟩ m = some (finM m p) := by
  unfold mesg_read.J1 pack_Reader_End.f finM
  cases h : p.2 <;> simp
theorem rest_eq {k f t v : Int × List UInt8 × Bool} (hb : v.2.1.length ≤ 10000000) : mesg_read.J2 2000000 v k f t false = some (restM ⟨k.1, f.1, t.1, v.1, 0, 0, false, 0, 0, 0, 0, ([] : List UInt8), 0, 0, ([] : List Int), ([] : List Int), 0, (⟨0, 0, (⟨0, 0, ([] : List UInt8), ([] : List UInt8), ([] : List UInt8)⟩ : api_Cmd)⟩ : api_Entry)⟩ v.2) := by
  unfold mesg_read.J2 restM
  rw [if_neg (by simp)]
  have fz : (1099511627776 : Int) = far := rfl
  rw [fz]
  simp only
  have s1 := rnum_shrinks far v.2.1 v.2.2
  have s2 := rnum_shrinks far (rnum far v.2.1 v.2.2).2.1 (rnum far v.2.1 v.2.2).2.2
  by_cases k2 : k.1 = 2
  · rw [if_pos k2, if_pos k2, rnum_eq (by decide) (by omega)]
    simp only [Option.bind_some]
    rw [rnum_eq (by decide) (by omega)]
    simp only [Option.bind_some]
    rw [rnum_eq (by decide) (by omega)]
    exact fin_eq _ _
  rw [if_neg k2, if_neg k2]
  by_cases k3 : k.1 = 3
  · have s3 := rnum_shrinks 127 v.2.1 v.2.2
    have s4 := rnum_shrinks 6 (rnum 127 v.2.1 v.2.2).2.1 (rnum 127 v.2.1 v.2.2).2.2
    rw [if_pos k3, if_pos k3, rnum_eq (by decide) (by omega)]
    simp only [Option.bind_some]
    rw [rnum_eq (by decide) (by omega)]
    simp only [Option.bind_some]
    rw [rnum_eq (by decide) (by omega)]
    exact fin_eq _ _
  rw [if_neg k3, if_neg k3]
  by_cases k4 : k.1 = 4
  · rw [if_pos k4, if_pos k4, rnum_eq (by decide) (by omega)]
    exact fin_eq _ _
  rw [if_neg k4, if_neg k4]
  by_cases k5 : k.1 = 5
  · rw [if_pos k5, if_pos k5, rnum_eq (by decide) (by omega)]
    simp only [Option.bind_some]
    rw [rnum_eq (by decide) (by omega)]
    simp only [Option.bind_some]
    rw [rbytes_eq (by decide) (by omega)]
    exact fin_eq _ _
  rw [if_neg k5, if_neg k5]
  by_cases k7 : k.1 = 7
  · rw [if_pos k7, if_pos k7, rnum_eq (by decide) (by omega)]
    simp only [Option.bind_some]
    rw [rnum_eq (by decide) (by omega)]
    simp only [Option.bind_some]
    generalize rnum far (rnum far v.2.1 v.2.2).2.1 (rnum far v.2.1 v.2.2).2.2 = c at *
    have s3 := rnum_shrinks 7 c.2.1 c.2.2
    rw [numbers_eq (by omega) _ (by decide)]
    simp only [Option.bind_some]
    have s4 := (rnums_len (rnum 7 c.2.1 c.2.2).1.toNat (rnum 7 c.2.1 c.2.2).2.1 (rnum 7 c.2.1 c.2.2).2.2).2
    rw [numbers_eq (by omega) _ (by decide)]
    exact fin_eq _ _
  rw [if_neg k7, if_neg k7]
  by_cases k8 : k.1 = 8
  · rw [if_pos k8, if_pos k8, rnum_eq (by decide) (by omega)]
    simp only [Option.bind_some]
    rw [getEntry_eq (by omega)]
    exact fin_eq _ _
  · rw [if_neg k8, if_neg k8]
    rfl
theorem readM_eq {b : List UInt8} (hb : b.length ≤ 10000000) : mesg_read.f 2000000 b = some (readM b) := by
  unfold mesg_read.f
  have fz : (1099511627776 : Int) = far := rfl
  rw [fz, read_eq (by omega)]
  simp only [Option.bind_some]
  have s1 := rnum_shrinks 8 b false
  rw [rnum_eq (by decide) (by omega)]
  simp only [Option.bind_some]
  have s2 := rnum_shrinks 6 (rnum 8 b false).2.1 (rnum 8 b false).2.2
  rw [rnum_eq (by decide) (by omega)]
  simp only [Option.bind_some]
  unfold readM headM
  simp only
  generalize rnum 8 b false = k at *
  generalize rnum 6 k.2.1 k.2.2 = f at *
  have s3 := rnum_shrinks 6 f.2.1 f.2.2
  rw [rnum_eq (by decide) (by omega)]
  simp only [Option.bind_some]
  generalize rnum 6 f.2.1 f.2.2 = t at *
  have s4 := rnum_shrinks far t.2.1 t.2.2
  rw [rnum_eq (by decide) (by omega)]
  simp only [Option.bind_some]
  generalize rnum far t.2.1 t.2.2 = v at *
  by_cases k1 : k.1 = 1
  · rw [if_pos k1, if_pos (.inl k1)]
    unfold mesg_read.J2
    rw [if_pos (by simp [k1])]
    exact fin_eq _ _
  rw [if_neg k1]
  by_cases k6 : k.1 = 6
  · rw [if_pos (.inr k6)]
    unfold mesg_read.J2
    rw [if_pos (by simp [k6])]
    exact fin_eq _ _
  · rw [if_neg (by rintro (h | h) <;> contradiction), show (k.1 == 6) = false by simpa using k6]
    exact rest_eq (by omega)
end Go.Gp
