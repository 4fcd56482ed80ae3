/- Plain words and laws. -/
/- A sum of bytes, in plain words: what one byte turned, or four in a row, does to it. -/
namespace Go.Gp
/-- One bit's step. -/
def stp (c : UInt32) : UInt32 := if c &&& 1 = 1 then (c >>> 1) ^^^ 0xEDB88320 else c >>> 1
def stp8 (c : UInt32) : UInt32 := stp (stp (stp (stp (stp (stp (stp (stp c)))))))
def nxt (c : UInt32) (b : UInt8) : UInt32 := stp8 (c ^^^ b.toUInt32)
def crcF (c : UInt32) (l : List UInt8) : UInt32 := l.foldl nxt c
def crc (l : List UInt8) : UInt32 := crcF 0xFFFFFFFF l ^^^ 0xFFFFFFFF
/-- The step over bits. -/
def stpB (c : BitVec 32) : BitVec 32 := (c >>> 1) ^^^ (if c.getLsbD 0 then 0xEDB88320#32 else 0#32)
theorem and1 (c : BitVec 32) : (c &&& 1#32 = 1#32) ↔ c.getLsbD 0 = true := by
  constructor
  · intro h
    have := congrArg (fun x : BitVec 32 => x.getLsbD 0) h
    simpa using this
  · intro h
    apply BitVec.eq_of_getLsbD_eq
    intro i hi
    rw [BitVec.getLsbD_and]
    by_cases h0 : i = 0
    · subst h0; simp [h]
    · have : (1#32).getLsbD i = false := by
        rw [BitVec.getLsbD_one]; simp [h0]
      rw [this]; simp
theorem stp_bits (c : UInt32) : (stp c).toBitVec = stpB c.toBitVec := by
  unfold stp stpB
  have e : (c &&& 1 = 1) ↔ c.toBitVec.getLsbD 0 = true := by
    rw [← and1, ← UInt32.toBitVec_inj]
    rfl
  by_cases h : c &&& 1 = 1
  · rw [if_pos h, if_pos (e.1 h)]
    rfl
  · rw [if_neg h, if_neg (fun h2 => h (e.2 h2))]
    simp
theorem stpB_inj {a b : BitVec 32} (h : stpB a = stpB b) : a = b := by
  unfold stpB at h
  have h31 := congrArg (fun x : BitVec 32 => x.getLsbD 31) h
  simp only [BitVec.getLsbD_xor, BitVec.getLsbD_ushiftRight] at h31
  have hp : (0xEDB88320#32).getLsbD 31 = true := by decide
  have hz : (0#32).getLsbD 31 = false := by decide
  have ha : ∀ c : BitVec 32, c.getLsbD (1 + 31) = false := fun c => BitVec.getLsbD_of_ge c _ (by omega)
  rw [ha, ha] at h31
  have h0 : a.getLsbD 0 = b.getLsbD 0 := by
    cases h1 : a.getLsbD 0 <;> cases h2 : b.getLsbD 0 <;> simp_all
  rw [h0] at h
  have h2 : a >>> 1 = b >>> 1 := by
    have := congrArg (fun x => x ^^^ (if b.getLsbD 0 then 0xEDB88320#32 else 0#32)) h
    simpa [BitVec.xor_assoc] using this
  apply BitVec.eq_of_getLsbD_eq
  intro i hi
  cases i with
  | zero => exact h0
  | succ i =>
    have := congrArg (fun x : BitVec 32 => x.getLsbD i) h2
    simp only [BitVec.getLsbD_ushiftRight] at this
    rwa [Nat.add_comm] at this
theorem stp_inj {a b : UInt32} (h : stp a = stp b) : a = b := by
  have := congrArg UInt32.toBitVec h
  rw [stp_bits, stp_bits] at this
  exact UInt32.toBitVec_inj.1 (stpB_inj this)
theorem stp8_inj {a b : UInt32} (h : stp8 a = stp8 b) : a = b := by
  unfold stp8 at h
  exact stp_inj (stp_inj (stp_inj (stp_inj (stp_inj (stp_inj (stp_inj (stp_inj h)))))))
theorem xor_right_inj {a b c : UInt32} (h : a ^^^ c = b ^^^ c) : a = b := by
  have := congrArg (· ^^^ c) h
  simpa [UInt32.xor_assoc] using this
theorem xor_left_inj {a b c : UInt32} (h : c ^^^ a = c ^^^ b) : a = b := by
  rw [UInt32.xor_comm c a, UInt32.xor_comm c b] at h
  exact xor_right_inj h
theorem toUInt32_inj {a b : UInt8} (h : a.toUInt32 = b.toUInt32) : a = b := by
  have := congrArg UInt32.toNat h
  rw [UInt8.toNat_toUInt32, UInt8.toNat_toUInt32] at this
  exact UInt8.toNat_inj.1 this
theorem nxt_inj {a b : UInt32} {x : UInt8} (h : nxt a x = nxt b x) : a = b := xor_right_inj (stp8_inj h)
theorem nxt_byte {a : UInt32} {x y : UInt8} (h : nxt a x = nxt a y) : x = y := toUInt32_inj (xor_left_inj (stp8_inj h))
theorem crcF_inj {a b : UInt32} (l : List UInt8) (h : crcF a l = crcF b l) : a = b := by
  induction l generalizing a b with
  | nil => exact h
  | cons x l ih => exact nxt_inj (ih h)
theorem crcF_append (c : UInt32) (l r : List UInt8) : crcF c (l ++ r) = crcF (crcF c l) r := by
  unfold crcF; rw [List.foldl_append]
theorem crc_inj {l r : List UInt8} (h : crc l = crc r) : crcF 0xFFFFFFFF l = crcF 0xFFFFFFFF r := xor_right_inj h
/-- One byte turned: another sum. -/
theorem crc_set {l : List UInt8} {i : Nat} {y : UInt8} (hi : i < l.length) (hne : l[i] ≠ y) : crc (l.set i y) ≠ crc l := by
  intro h
  have h := crc_inj h
  have e1 : l = l.take i ++ l[i] :: l.drop (i + 1) := by
    rw [← List.drop_eq_getElem_cons hi, List.take_append_drop]
  have e2 : l.set i y = l.take i ++ y :: l.drop (i + 1) := by
    rw [List.set_eq_take_append_cons_drop, if_pos hi]
  rw [e2] at h
  conv at h => rhs; rw [e1]
  rw [crcF_append, crcF_append] at h
  have h2 := crcF_inj (l.drop (i + 1)) (show crcF (nxt _ y) _ = crcF (nxt _ l[i]) _ from h)
  exact hne (nxt_byte h2).symm
/-! ### four bytes in a row -/
def stpB8 (c : BitVec 32) : BitVec 32 := stpB (stpB (stpB (stpB (stpB (stpB (stpB (stpB c)))))))
/-! ### four bytes of a sum -/
def le4 (c : UInt32) : List UInt8 := [UInt8.ofNat (c.toNat % 256), UInt8.ofNat (c.toNat / 256 % 256), UInt8.ofNat (c.toNat / 65536 % 256), UInt8.ofNat (c.toNat / 16777216 % 256)]
theorem le4_len (c : UInt32) : (le4 c).length = 4 := rfl
theorem le4_inj {a b : UInt32} (h : le4 a = le4 b) : a = b := by
  unfold le4 at h
  simp only [List.cons.injEq, and_true] at h
  obtain ⟨h0, h1, h2, h3⟩ := h
  have f : ∀ n m : Nat, n < 256 → m < 256 → UInt8.ofNat n = UInt8.ofNat m → n = m := fun n m hn hm h => by
    have := congrArg UInt8.toNat h
    rw [UInt8.toNat_ofNat', UInt8.toNat_ofNat'] at this
    omega
  have e0 := f _ _ (by omega) (by omega) h0
  have e1 := f _ _ (by omega) (by omega) h1
  have e2 := f _ _ (by omega) (by omega) h2
  have e3 := f _ _ (by omega) (by omega) h3
  apply UInt32.toNat_inj.1
  have := a.toNat_lt
  have := b.toNat_lt
  omega
end Go.Gp
