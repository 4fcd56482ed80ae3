/- What the statements say, of the plain functions. -/
import Derived.Test.YtploijfgnnkddaaGreatDefs
import Derived.Test.YtploijfgnnkddaaGreatLe
import Derived.Test.YtploijfgnnkddaaGreatThInts
import Derived.Test.YtploijfgnnkddaaGreatThPack
import Derived.Test.YtploijfgnnkddaaGreatThMesg
import Derived.Test.YtploijfgnnkddaaGreatThMesg2
import Derived.Test.YtploijfgnnkddaaGreatThMesg3
import Derived.Test.YtploijfgnnkddaaGreatThMesg4
import Derived.Test.YtploijfgnnkddaaGreatThMesg5
import Derived.Test.YtploijfgnnkddaaGreatThMesg6
import Derived.Test.YtploijfgnnkddaaGreatThMsg
import Derived.Test.YtploijfgnnkddaaGreatThMesg7
import Derived.Test.YtploijfgnnkddaaGreatThMesg8
import Derived.Test.YtploijfgnnkddaaGreatThMesgS
import Derived.Test.YtploijfgnnkddaaGreatGpCrc
import Derived.Test.YtploijfgnnkddaaGreatThCrc
/- Frames. -/
namespace Go.Gp
open Go
open Classical in
theorem B0M (a b c d : UInt8) (s : UInt32) : ((((((C2 (a.toNat : Int)) ||| (C2 (((C2 (b.toNat : Int)).toNat : Int) * 2 ^ (min (8 : Int).toNat 32)))) ||| (C2 (((C2 (c.toNat : Int)).toNat : Int) * 2 ^ (min (16 : Int).toNat 32)))) ||| (C2 (((C2 (d.toNat : Int)).toNat : Int) * 2 ^ (min (24 : Int).toNat 32)))).toNat : Int) == (s.toNat : Int)) = decide ([a, b, c, d] = le4 s) := by
  have ha := a.toNat_lt; have hb := b.toNat_lt; have hc := c.toNat_lt; have hd := d.toNat_lt; have hs := s.toNat_lt; have e0 : ∀ x : UInt8, (C2 (x.toNat : Int)).toNat = x.toNat := fun x => by have := A0R (x.toNat : Int); have := x.toNat_lt; omega
  have e1 : (C2 (((C2 (b.toNat : Int)).toNat : Int) * 2 ^ (min (8 : Int).toNat 32))).toNat = 2 ^ 8 * b.toNat := by
    have := A0R (((C2 (b.toNat : Int)).toNat : Int) * 2 ^ (min (8 : Int).toNat 32)); rw [e0] at *; rw [show (2 : Int) ^ (min (8 : Int).toNat 32) = 256 from rfl] at *; omega
  have e2 : (C2 (((C2 (c.toNat : Int)).toNat : Int) * 2 ^ (min (16 : Int).toNat 32))).toNat = 2 ^ 16 * c.toNat := by
    have := A0R (((C2 (c.toNat : Int)).toNat : Int) * 2 ^ (min (16 : Int).toNat 32)); rw [e0] at *; rw [show (2 : Int) ^ (min (16 : Int).toNat 32) = 65536 from rfl] at *; omega
  have e3 : (C2 (((C2 (d.toNat : Int)).toNat : Int) * 2 ^ (min (24 : Int).toNat 32))).toNat = 2 ^ 24 * d.toNat := by
    have := A0R (((C2 (d.toNat : Int)).toNat : Int) * 2 ^ (min (24 : Int).toNat 32)); rw [e0] at *; rw [show (2 : Int) ^ (min (24 : Int).toNat 32) = 16777216 from rfl] at *; omega
  rw [UInt32.toNat_or, UInt32.toNat_or, UInt32.toNat_or, e0, e1, e2, e3]; have o1 : a.toNat ||| 2 ^ 8 * b.toNat = 2 ^ 8 * b.toNat + a.toNat := by rw [Nat.or_comm, Nat.two_pow_add_eq_or_of_lt (by omega)]
  have o2 : (2 ^ 8 * b.toNat + a.toNat) ||| 2 ^ 16 * c.toNat = 2 ^ 16 * c.toNat + (2 ^ 8 * b.toNat + a.toNat) := by rw [Nat.or_comm]; exact (Nat.two_pow_add_eq_or_of_lt (by omega) _).symm
  have o3 : (2 ^ 16 * c.toNat + (2 ^ 8 * b.toNat + a.toNat)) ||| 2 ^ 24 * d.toNat = 2 ^ 24 * d.toNat + (2 ^ 16 * c.toNat + (2 ^ 8 * b.toNat + a.toNat)) := by rw [Nat.or_comm]; exact (Nat.two_pow_add_eq_or_of_lt (by omega) _).symm
  rw [o1, o2, o3]; have nat : ∀ (x : UInt8) (n : Nat), n < 256 → (x = UInt8.ofNat n ↔ x.toNat = n) := fun x n hn => by
    rw [← UInt8.toNat_inj, UInt8.toNat_ofNat']; omega
  have key : [a, b, c, d] = le4 s ↔ 2 ^ 24 * d.toNat + (2 ^ 16 * c.toNat + (2 ^ 8 * b.toNat + a.toNat)) = s.toNat := by
    unfold le4; rw [B0F, nat _ _ (by omega), nat _ _ (by omega), nat _ _ (by omega), nat _ _ (by omega)]; omega
  rw [Bool.eq_iff_iff, beq_iff_eq, decide_eq_true_eq, key]; omega
def B2P (b : List UInt8) : C3 × Bool := match A0e b with | some x => B2J x | none => (A4E, false)
end Go.Gp
