/- What the statements say, of the plain functions. -/
import Derived.Test.YtploijfgnnkddaaDefs
import Derived.Test.YtploijfgnnkddaaLe
import Derived.Test.YtploijfgnnkddaaThInts
import Derived.Test.YtploijfgnnkddaaThPack
import Derived.Test.YtploijfgnnkddaaThMesg
import Derived.Test.YtploijfgnnkddaaThMesg2
import Derived.Test.YtploijfgnnkddaaThMesg3
import Derived.Test.YtploijfgnnkddaaThMesg4
import Derived.Test.YtploijfgnnkddaaThMesg5
import Derived.Test.YtploijfgnnkddaaThMesg6
import Derived.Test.YtploijfgnnkddaaThMsg
import Derived.Test.YtploijfgnnkddaaThMesg7
import Derived.Test.YtploijfgnnkddaaThMesg8
import Derived.Test.YtploijfgnnkddaaThMesgS
import Derived.Test.YtploijfgnnkddaaGpCrc
import Derived.Test.YtploijfgnnkddaaThCrc
/- Frames. -/
namespace Go.Gp
open Go
open Classical in
/-- A message's frame; none: it may not be. -/
noncomputable def wrapM (m : api_Msg) : List UInt8 := if OkM m then sealB (wire m) else []
theorem u32_le4 (a b c d : UInt8) (s : UInt32) : ((((((toU32 (a.toNat : Int)) ||| (toU32 (((toU32 (b.toNat : Int)).toNat : Int) * 2 ^ (min (8 : Int).toNat 32)))) ||| (toU32 (((toU32 (c.toNat : Int)).toNat : Int) * 2 ^ (min (16 : Int).toNat 32)))) ||| (toU32 (((toU32 (d.toNat : Int)).toNat : Int) * 2 ^ (min (24 : Int).toNat 32)))).toNat : Int) == (s.toNat : Int)) = decide ([a, b, c, d] = le4 s) := by
  have ha := a.toNat_lt
  have hb := b.toNat_lt
  have hc := c.toNat_lt
  have hd := d.toNat_lt
  have hs := s.toNat_lt
  have e0 : ∀ x : UInt8, (toU32 (x.toNat : Int)).toNat = x.toNat := fun x => by have := toU32_toNat (x.toNat : Int); have := x.toNat_lt; omega
  have e1 : (toU32 (((toU32 (b.toNat : Int)).toNat : Int) * 2 ^ (min (8 : Int).toNat 32))).toNat = 2 ^ 8 * b.toNat := by
    have := toU32_toNat (((toU32 (b.toNat : Int)).toNat : Int) * 2 ^ (min (8 : Int).toNat 32))
    rw [e0] at *
    rw [show (2 : Int) ^ (min (8 : Int).toNat 32) = 256 from rfl] at *
    omega
  have e2 : (toU32 (((toU32 (c.toNat : Int)).toNat : Int) * 2 ^ (min (16 : Int).toNat 32))).toNat = 2 ^ 16 * c.toNat := by
    have := toU32_toNat (((toU32 (c.toNat : Int)).toNat : Int) * 2 ^ (min (16 : Int).toNat 32))
    rw [e0] at *
    rw [show (2 : Int) ^ (min (16 : Int).toNat 32) = 65536 from rfl] at *
    omega
  have e3 : (toU32 (((toU32 (d.toNat : Int)).toNat : Int) * 2 ^ (min (24 : Int).toNat 32))).toNat = 2 ^ 24 * d.toNat := by
    have := toU32_toNat (((toU32 (d.toNat : Int)).toNat : Int) * 2 ^ (min (24 : Int).toNat 32))
    rw [e0] at *
    rw [show (2 : Int) ^ (min (24 : Int).toNat 32) = 16777216 from rfl] at *
    omega
  rw [UInt32.toNat_or, UInt32.toNat_or, UInt32.toNat_or, e0, e1, e2, e3]
  have o1 : a.toNat ||| 2 ^ 8 * b.toNat = 2 ^ 8 * b.toNat + a.toNat := by rw [Nat.or_comm, Nat.two_pow_add_eq_or_of_lt (by omega)]
  have o2 : (2 ^ 8 * b.toNat + a.toNat) ||| 2 ^ 16 * c.toNat = 2 ^ 16 * c.toNat + (2 ^ 8 * b.toNat + a.toNat) := by rw [Nat.or_comm]; exact (Nat.two_pow_add_eq_or_of_lt (by omega) _).symm
  have o3 : (2 ^ 16 * c.toNat + (2 ^ 8 * b.toNat + a.toNat)) ||| 2 ^ 24 * d.toNat = 2 ^ 24 * d.toNat + (2 ^ 16 * c.toNat + (2 ^ 8 * b.toNat + a.toNat)) := by rw [Nat.or_comm]; exact (Nat.two_pow_add_eq_or_of_lt (by omega) _).symm
  rw [o1, o2, o3]
  have nat : ∀ (x : UInt8) (n : Nat), n < 256 → (x = UInt8.ofNat n ↔ x.toNat = n) := fun x n hn => by
    rw [← UInt8.toNat_inj, UInt8.toNat_ofNat']
    omega
  have key : [a, b, c, d] = le4 s ↔ 2 ^ 24 * d.toNat + (2 ^ 16 * c.toNat + (2 ^ 8 * b.toNat + a.toNat)) = s.toNat := by
    unfold le4
    rw [four4, nat _ _ (by omega), nat _ _ (by omega), nat _ _ (by omega), nat _ _ (by omega)]
    omega
  rw [Bool.eq_iff_iff, beq_iff_eq, decide_eq_true_eq, key]
  omega
def openM (b : List UInt8) : api_Msg × Bool := match unsealB b with | some x => decM x | none => (zmsg, false)
end Go.Gp
