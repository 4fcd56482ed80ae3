/- Plain words and laws. -/
/- A sum of bytes, in plain words: what one byte turned, or four in a row, does to it. -/
namespace Go.Gp
def stp (c : UInt32) : UInt32 := if c &&& 1 = 1 then (c >>> 1) ^^^ 0xEDB88320 else c >>> 1
def B1D (c : UInt32) : UInt32 := stp (stp (stp (stp (stp (stp (stp (stp c)))))))
def nxt (c : UInt32) (b : UInt8) : UInt32 := B1D (c ^^^ b.toUInt32)
def B2f (c : UInt32) (l : List UInt8) : UInt32 := l.foldl nxt c
def crc (l : List UInt8) : UInt32 := B2f 0xFFFFFFFF l ^^^ 0xFFFFFFFF
def A4I (c : BitVec 32) : BitVec 32 := (c >>> 1) ^^^ (if c.getLsbD 0 then 0xEDB88320#32 else 0#32)
def B2O (c : BitVec 32) : BitVec 32 := A4I (A4I (A4I (A4I (A4I (A4I (A4I (A4I c)))))))
def le4 (c : UInt32) : List UInt8 := [UInt8.ofNat (c.toNat % 256), UInt8.ofNat (c.toNat / 256 % 256), UInt8.ofNat (c.toNat / 65536 % 256), UInt8.ofNat (c.toNat / 16777216 % 256)]
theorem A5a (c : UInt32) : (le4 c).length = 4 := rfl
end Go.Gp
