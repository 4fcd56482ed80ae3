/- Plain words and laws. -/
/- A sum of bytes, in plain words: what one byte turned, or four in a row, does to it. -/
namespace Go.Gp
/-- One bit's step. -/
def stp (c : UInt32) : UInt32 := if c &&& 1 = 1 then (c >>> 1) ^^^ 0xEDB88320 else c >>> 1
def stp8 (c : UInt32) : UInt32 := stp (stp (stp (stp (stp (stp (stp (stp c)))))))
def nxt (c : UInt32) (b : UInt8) : UInt32 := stp8 (c ^^^ b.toUInt32)
def crcF (c : UInt32) (l : List UInt8) : UInt32 := l.foldl nxt c
def crc (l : List UInt8) : UInt32 := crcF 0xFFFFFFFF l ^^^ 0xFFFFFFFF
/-- The step over bits. -/
def stpB (c : BitVec 32) : BitVec 32 := (c >>> 1) ^^^ (if c.getLsbD 0 then 0xEDB88320#32 else 0#32)
/-! ### four bytes in a row -/
def stpB8 (c : BitVec 32) : BitVec 32 := stpB (stpB (stpB (stpB (stpB (stpB (stpB (stpB c)))))))
/-! ### four bytes of a sum -/
def le4 (c : UInt32) : List UInt8 := [UInt8.ofNat (c.toNat % 256), UInt8.ofNat (c.toNat / 256 % 256), UInt8.ofNat (c.toNat / 65536 % 256), UInt8.ofNat (c.toNat / 16777216 % 256)]
theorem le4_len (c : UInt32) : (le4 c).length = 4 := rfl
end Go.Gp
