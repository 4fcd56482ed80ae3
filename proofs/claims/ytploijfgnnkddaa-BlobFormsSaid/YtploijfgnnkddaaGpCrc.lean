/- Plain words and laws. -/
/- A sum of bytes, in plain words: what one byte turned, or four in a row, does to it. -/
namespace Go.Gp
/-- One bit's step. -/
def stp (c : UInt32) : UInt32 := if c &&& 1 = 1 then (c >>> 1) ^^^ 0xEDB88320 else c >>> 1
def stp8 (c : UInt32) : UInt32 := stp (stp (stp (stp (stp (stp (stp (stp c)))))))
def nxt (c : UInt32) (b : UInt8) : UInt32 := stp8 (c ^^^ b.toUInt32)
def crcF (c : UInt32) (l : List UInt8) : UInt32 := l.foldl nxt c
def crc (l : List UInt8) : UInt32 := crcF 0xFFFFFFFF l ^^^ 0xFFFFFFFF
/-- The step over bits. -/
def stpB (c : BitVec 32) : BitVec 32 := (c >>> 1) ^^^ (if c.getLsbD 0 then 0xEDB88320#32 else 0#32)
theorem and1 (c : BitVec 32) : (c &&& 1#32 = 1#32) ↔ c.getLsbD 0 = true := by
  constructor
  · intro h
    have := congrArg (fun x : BitVec 32 => x.getLsbD 0) h
    simpa using this
  · intro h
    apply BitVec.eq_of_getLsbD_eq
    intro i hi
    rw [BitVec.getLsbD_and]
    by_cases h0 : i = 0
    · subst h0; simp [h]
    · have : (1#32).getLsbD i = false := by
        rw [BitVec.getLsbD_one]; simp [h0]
      rw [this]; simp
theorem stp_bits (c : UInt32) : (stp c).toBitVec = stpB c.toBitVec := by
  unfold stp stpB
  have e : (c &&& 1 = 1) ↔ c.toBitVec.getLsbD 0 = true := by
    rw [← and1, ← UInt32.toBitVec_inj]
    rfl
  by_cases h : c &&& 1 = 1
  · rw [if_pos h, if_pos (e.1 h)]
    rfl
  · rw [if_neg h, if_neg (fun h2 => h (e.2 h2))]
    simp
theorem stpB_inj {a b : BitVec 32} (h : stpB a = stpB b) : a = b := by
  unfold stpB at h
  have h31 := congrArg (fun x : BitVec 32 => x.getLsbD 31) h
  simp only [BitVec.getLsbD_xor, BitVec.getLsbD_ushiftRight] at h31
  have hp : (0xEDB88320#32).getLsbD 31 = true := by decide
  have hz : (0#32).getLsbD 31 = false := by decide
  have ha : ∀ c : BitVec 32, c.getLsbD (1 + 31) = false := fun c => BitVec.getLsbD_of_ge c _ (by omega)
  rw [ha, ha] at h31
  have h0 : a.getLsbD 0 = b.getLsbD 0 := by
    cases h1 : a.getLsbD 0 <;> cases h2 : b.getLsbD 0 <;> simp_all
  rw [h0] at h
  have h2 : a >>> 1 = b >>> 1 := by
    have := congrArg (fun x => x ^^^ (if b.getLsbD 0 then 0xEDB88320#32 else 0#32)) h
    simpa [BitVec.xor_assoc] using this
  apply BitVec.eq_of_getLsbD_eq
  intro i hi
  cases i with
  | zero => exact h0
  | succ i =>
    have := congrArg (fun x : BitVec 32 => x.getLsbD i) h2
    simp only [BitVec.getLsbD_ushiftRight] at this
    rwa [Nat.add_comm] at this
theorem stp_inj {a b : UInt32} (h : stp a = stp b) : a = b := by
  have := congrArg UInt32.toBitVec h
  rw [stp_bits, stp_bits] at this
  exact UInt32.toBitVec_inj.1 (stpB_inj this)
theorem stp8_inj {a b : UInt32} (h : stp8 a = stp8 b) : a = b := by
  unfold stp8 at h
  exact stp_inj (stp_inj (stp_inj (stp_inj (stp_inj (stp_inj (stp_inj (stp_inj h)))))))
theorem xor_right_inj {a b c : UInt32} (h : a ^^^ c = b ^^^ c) : a = b := by
  have := congrArg (· ^^^ c) h
  simpa [UInt32.xor_assoc] using this
theorem xor_left_inj {a b c : UInt32} (h : c ^^^ a = c ^^^ b) : a = b := by
  rw [UInt32.xor_comm c a, UInt32.xor_comm c b] at h
  exact xor_right_inj h
theorem toUInt32_inj {a b : UInt8} (h : a.toUInt32 = b.toUInt32) : a = b := by
  have := congrArg UInt32.toNat h
  rw [UInt8.toNat_toUInt32, UInt8.toNat_toUInt32] at this
  exact UInt8.toNat_inj.1 this
theorem nxt_inj {a b : UInt32} {x : UInt8} (h : nxt a x = nxt b x) : a = b := xor_right_inj (stp8_inj h)
theorem nxt_byte {a : UInt32} {x y : UInt8} (h : nxt a x = nxt a y) : x = y := toUInt32_inj (xor_left_inj (stp8_inj h))
theorem crcF_inj {a b : UInt32} (l : List UInt8) (h : crcF a l = crcF b l) : a = b := by
  induction l generalizing a b with
  | nil => exact h
  | cons x l ih => exact nxt_inj (ih h)
theorem crcF_append (c : UInt32) (l r : List UInt8) : crcF c (l ++ r) = crcF (crcF c l) r := by
  unfold crcF; rw [List.foldl_append]
theorem crc_inj {l r : List UInt8} (h : crc l = crc r) : crcF 0xFFFFFFFF l = crcF 0xFFFFFFFF r := xor_right_inj h
/-- One byte turned: another sum. -/
theorem crc_set {l : List UInt8} {i : Nat} {y : UInt8} (hi : i < l.length) (hne : l[i] ≠ y) : crc (l.set i y) ≠ crc l := by
  intro h
  have h := crc_inj h
  have e1 : l = l.take i ++ l[i] :: l.drop (i + 1) := by
    rw [← List.drop_eq_getElem_cons hi, List.take_append_drop]
  have e2 : l.set i y = l.take i ++ y :: l.drop (i + 1) := by
    rw [List.set_eq_take_append_cons_drop, if_pos hi]
  rw [e2] at h
  conv at h => rhs; rw [e1]
  rw [crcF_append, crcF_append] at h
  have h2 := crcF_inj (l.drop (i + 1)) (show crcF (nxt _ y) _ = crcF (nxt _ l[i]) _ from h)
  exact hne (nxt_byte h2).symm
/-! ### four bytes in a row -/
theorem stpB_xor (a b : BitVec 32) : stpB (a ^^^ b) = stpB a ^^^ stpB b := by
  unfold stpB
  apply BitVec.eq_of_getLsbD_eq
  intro i hi
  simp only [BitVec.getLsbD_xor, BitVec.getLsbD_ushiftRight]
  cases a.getLsbD 0 <;> cases b.getLsbD 0 <;> simp <;> cases a.getLsbD (1 + i) <;> cases b.getLsbD (1 + i) <;> cases (0xEDB88320#32).getLsbD i <;> simp
theorem stp_xor (a b : UInt32) : stp (a ^^^ b) = stp a ^^^ stp b := by
  apply UInt32.toBitVec_inj.1
  rw [stp_bits, UInt32.toBitVec_xor, UInt32.toBitVec_xor, stpB_xor, stp_bits, stp_bits]
theorem stp8_xor (a b : UInt32) : stp8 (a ^^^ b) = stp8 a ^^^ stp8 b := by
  unfold stp8
  simp only [stp_xor]
theorem stp8_zero : stp8 0 = 0 := by decide
theorem stp_even (x : BitVec 32) (h : x.getLsbD 0 = false) : stpB x = x >>> 1 := by
  unfold stpB; rw [h]; simp
def stpB8 (c : BitVec 32) : BitVec 32 := stpB (stpB (stpB (stpB (stpB (stpB (stpB (stpB c)))))))
theorem stp8_bits (c : UInt32) : (stp8 c).toBitVec = stpB8 c.toBitVec := by
  unfold stp8 stpB8
  simp only [stp_bits]
theorem stpB8_low (x : BitVec 32) (h : ∀ i, i < 8 → x.getLsbD i = false) : stpB8 x = x >>> 8 := by
  have step : ∀ (y : BitVec 32) (k : Nat), (∀ i, i < k + 1 → y.getLsbD i = false) → stpB y = y >>> 1 ∧ ∀ i, i < k → (y >>> 1).getLsbD i = false := fun y k hy =>
    ⟨stp_even y (hy 0 (by omega)), fun i hi => by rw [BitVec.getLsbD_ushiftRight]; exact hy _ (by omega)⟩
  obtain ⟨e1, h1⟩ := step x 7 h
  obtain ⟨e2, h2⟩ := step _ 6 h1
  obtain ⟨e3, h3⟩ := step _ 5 h2
  obtain ⟨e4, h4⟩ := step _ 4 h3
  obtain ⟨e5, h5⟩ := step _ 3 h4
  obtain ⟨e6, h6⟩ := step _ 2 h5
  obtain ⟨e7, h7⟩ := step _ 1 h6
  obtain ⟨e8, h8⟩ := step _ 0 h7
  unfold stpB8
  rw [e1, e2, e3, e4, e5, e6, e7, e8]
  apply BitVec.eq_of_getLsbD_eq
  intro i hi
  simp only [BitVec.getLsbD_ushiftRight]
  congr 1
  omega
/-- Bytes that turn nothing are none. -/
theorem stp8_shl {v : BitVec 32} (h : ∀ i, 24 ≤ i → v.getLsbD i = false) : stpB8 (v <<< 8) = v := by
  rw [stpB8_low _ (fun i hi => by rw [BitVec.getLsbD_shiftLeft]; simp; omega)]
  apply BitVec.eq_of_getLsbD_eq
  intro i hi
  rw [BitVec.getLsbD_ushiftRight, BitVec.getLsbD_shiftLeft]
  by_cases h24 : 24 ≤ i
  · rw [h i h24]; simp; omega
  · have e : 8 + i - 8 = i := by omega
    rw [e]
    have h1 : decide (8 + i < 32) = true := decide_eq_true (by omega)
    have h2 : decide (8 + i < 8) = false := decide_eq_false (by omega)
    rw [h1, h2]; simp
theorem stpB8_inj {a b : BitVec 32} (h : stpB8 a = stpB8 b) : a = b := by
  unfold stpB8 at h
  exact stpB_inj (stpB_inj (stpB_inj (stpB_inj (stpB_inj (stpB_inj (stpB_inj (stpB_inj h)))))))
theorem back1 {s v : BitVec 32} (h : stpB8 s = v) (hv : ∀ i, 24 ≤ i → v.getLsbD i = false) : s = v <<< 8 := stpB8_inj (h.trans (stp8_shl hv).symm)
theorem byte_hi (t : UInt8) (i : Nat) (h : 8 ≤ i) : t.toUInt32.toBitVec.getLsbD i = false := by
  rw [UInt8.toBitVec_toUInt32]
  rw [BitVec.getLsbD_setWidth]
  rw [BitVec.getLsbD_of_ge _ _ h]
  simp
theorem bytes4 {t0 t1 t2 t3 : UInt8} (h : crcF 0 [t0, t1, t2, t3] = 0) : t0 = 0 ∧ t1 = 0 ∧ t2 = 0 ∧ t3 = 0 := by
  obtain ⟨b0, hb0⟩ : ∃ b, b = t0.toUInt32.toBitVec := ⟨_, rfl⟩
  obtain ⟨b1, hb1⟩ : ∃ b, b = t1.toUInt32.toBitVec := ⟨_, rfl⟩
  obtain ⟨b2, hb2⟩ : ∃ b, b = t2.toUInt32.toBitVec := ⟨_, rfl⟩
  obtain ⟨b3, hb3⟩ : ∃ b, b = t3.toUInt32.toBitVec := ⟨_, rfl⟩
  have g0 : ∀ i, 8 ≤ i → b0.getLsbD i = false := fun i hi => by rw [hb0]; exact byte_hi _ _ hi
  have g1 : ∀ i, 8 ≤ i → b1.getLsbD i = false := fun i hi => by rw [hb1]; exact byte_hi _ _ hi
  have g2 : ∀ i, 8 ≤ i → b2.getLsbD i = false := fun i hi => by rw [hb2]; exact byte_hi _ _ hi
  have g3 : ∀ i, 8 ≤ i → b3.getLsbD i = false := fun i hi => by rw [hb3]; exact byte_hi _ _ hi
  have h' : stpB8 (stpB8 (stpB8 (stpB8 (0#32 ^^^ b0) ^^^ b1) ^^^ b2) ^^^ b3) = 0#32 := by
    have := congrArg UInt32.toBitVec h
    unfold crcF nxt at this
    simp only [List.foldl_cons, List.foldl_nil, stp8_bits, UInt32.toBitVec_xor] at this
    rw [← hb0, ← hb1, ← hb2, ← hb3] at this
    exact this
  have cancel : ∀ (s b v : BitVec 32), s ^^^ b = v → s = v ^^^ b := fun s b v h => by
    rw [← h, BitVec.xor_assoc, BitVec.xor_self, BitVec.xor_zero]
  have k3 := cancel _ _ _ (back1 h' (fun i _ => by simp))
  have k3' : stpB8 (stpB8 (stpB8 (0#32 ^^^ b0) ^^^ b1) ^^^ b2) = b3 := by rw [k3]; simp
  have k2 := cancel _ _ _ (back1 k3' (fun i hi => g3 i (by omega)))
  have k2h : ∀ i, 24 ≤ i → (b3 <<< 8 ^^^ b2).getLsbD i = false := fun i hi => by
    rw [BitVec.getLsbD_xor, BitVec.getLsbD_shiftLeft, g2 i (by omega), g3 (i - 8) (by omega)]; simp
  have k1 := cancel _ _ _ (back1 k2 k2h)
  have k1h : ∀ i, 24 ≤ i → ((b3 <<< 8 ^^^ b2) <<< 8 ^^^ b1).getLsbD i = false := fun i hi => by
    rw [BitVec.getLsbD_xor, BitVec.getLsbD_shiftLeft, BitVec.getLsbD_xor, BitVec.getLsbD_shiftLeft, g1 i (by omega), g2 (i - 8) (by omega), g3 (i - 8 - 8) (by omega)]; simp
  have k0 := cancel _ _ _ (back1 k1 k1h)
  have bit : ∀ i, i < 32 → (((b3 <<< 8 ^^^ b2) <<< 8 ^^^ b1) <<< 8 ^^^ b0).getLsbD i = false := fun i hi => by
    rw [← k0]; simp
  have z : ∀ (t : UInt8) (b : BitVec 32), b = t.toUInt32.toBitVec → (∀ i, i < 8 → b.getLsbD i = false) → t = 0 := fun t b hb hz => by
    apply UInt8.toBitVec_inj.1
    apply BitVec.eq_of_getLsbD_eq
    intro i hi
    have := hz i hi
    rw [hb, UInt8.toBitVec_toUInt32, BitVec.getLsbD_setWidth] at this
    have h32 : decide (i < 32) = true := decide_eq_true (by omega)
    rw [h32] at this
    simpa using this
  refine ⟨z t0 b0 hb0 (fun i hi => ?_), z t1 b1 hb1 (fun i hi => ?_), z t2 b2 hb2 (fun i hi => ?_), z t3 b3 hb3 (fun i hi => ?_)⟩
  · have := bit i (by omega)
    simp only [BitVec.getLsbD_xor, BitVec.getLsbD_shiftLeft] at this
    simpa [hi] using this
  · have := bit (i + 8) (by omega)
    simp only [BitVec.getLsbD_xor, BitVec.getLsbD_shiftLeft] at this
    rw [g0 (i + 8) (by omega)] at this
    have e1 : decide (i + 8 < 32) = true := decide_eq_true (by omega)
    have e2 : decide (i + 8 - 8 < 32) = true := decide_eq_true (by omega)
    simpa [hi, e1, e2] using this
  · have := bit (i + 16) (by omega)
    simp only [BitVec.getLsbD_xor, BitVec.getLsbD_shiftLeft] at this
    rw [g0 (i + 16) (by omega), g1 (i + 16 - 8) (by omega)] at this
    have e0 : i + 16 - 8 = i + 8 := by omega
    have e3 : i + 8 - 8 = i := by omega
    rw [e0, e3] at this
    have e1 : decide (i + 16 < 32) = true := decide_eq_true (by omega)
    have e2 : decide (i + 8 < 32) = true := decide_eq_true (by omega)
    have e4 : decide (i < 32) = true := decide_eq_true (by omega)
    simpa [hi, e1, e2, e4] using this
  · have := bit (i + 24) (by omega)
    simp only [BitVec.getLsbD_xor, BitVec.getLsbD_shiftLeft] at this
    rw [g0 (i + 24) (by omega), g1 (i + 24 - 8) (by omega), g2 (i + 24 - 8 - 8) (by omega)] at this
    have e0 : i + 24 - 8 = i + 16 := by omega
    have e3 : i + 16 - 8 = i + 8 := by omega
    have e5 : i + 8 - 8 = i := by omega
    rw [e0, e3, e5] at this
    have e1 : decide (i + 24 < 32) = true := decide_eq_true (by omega)
    have e2 : decide (i + 16 < 32) = true := decide_eq_true (by omega)
    have e4 : decide (i + 8 < 32) = true := decide_eq_true (by omega)
    have e6 : decide (i < 32) = true := decide_eq_true (by omega)
    simpa [hi, e1, e2, e4, e6] using this
theorem crcF_xor4 (a b : UInt32) (x0 x1 x2 x3 y0 y1 y2 y3 : UInt8) : crcF a [x0, x1, x2, x3] ^^^ crcF b [y0, y1, y2, y3] = crcF (a ^^^ b) [x0 ^^^ y0, x1 ^^^ y1, x2 ^^^ y2, x3 ^^^ y3] := by
  have e : ∀ (p q : UInt32) (x y : UInt8), nxt p x ^^^ nxt q y = nxt (p ^^^ q) (x ^^^ y) := fun p q x y => by
    unfold nxt
    rw [← stp8_xor, UInt8.toUInt32_xor]
    congr 1
    apply UInt32.toBitVec_inj.1
    simp only [UInt32.toBitVec_xor]
    ac_rfl
  unfold crcF
  simp only [List.foldl_cons, List.foldl_nil, e]
/-- Four bytes in a row turned: another sum. -/
theorem crc_four {l r : List UInt8} {x0 x1 x2 x3 t0 t1 t2 t3 : UInt8} (h : crc (l ++ [x0 ^^^ t0, x1 ^^^ t1, x2 ^^^ t2, x3 ^^^ t3] ++ r) = crc (l ++ [x0, x1, x2, x3] ++ r)) : t0 = 0 ∧ t1 = 0 ∧ t2 = 0 ∧ t3 = 0 := by
  have h := crc_inj h
  rw [List.append_assoc, List.append_assoc, crcF_append, crcF_append, crcF_append, crcF_append] at h
  have h := crcF_inj r h
  have h2 : crcF (crcF 0xFFFFFFFF l) [x0 ^^^ t0, x1 ^^^ t1, x2 ^^^ t2, x3 ^^^ t3] ^^^ crcF (crcF 0xFFFFFFFF l) [x0, x1, x2, x3] = 0 := by rw [h]; simp
  rw [crcF_xor4] at h2
  have e : ∀ x t : UInt8, x ^^^ t ^^^ x = t := fun x t => by
    rw [UInt8.xor_comm x t, UInt8.xor_assoc]; simp
  rw [e, e, e, e] at h2
  rw [show crcF 0xFFFFFFFF l ^^^ crcF 0xFFFFFFFF l = 0 by simp] at h2
  exact bytes4 h2
/-! ### four bytes of a sum -/
def le4 (c : UInt32) : List UInt8 := [UInt8.ofNat (c.toNat % 256), UInt8.ofNat (c.toNat / 256 % 256), UInt8.ofNat (c.toNat / 65536 % 256), UInt8.ofNat (c.toNat / 16777216 % 256)]
theorem le4_len (c : UInt32) : (le4 c).length = 4 := rfl
theorem le4_inj {a b : UInt32} (h : le4 a = le4 b) : a = b := by
  unfold le4 at h
  simp only [List.cons.injEq, and_true] at h
  obtain ⟨h0, h1, h2, h3⟩ := h
  have f : ∀ n m : Nat, n < 256 → m < 256 → UInt8.ofNat n = UInt8.ofNat m → n = m := fun n m hn hm h => by
    have := congrArg UInt8.toNat h
    rw [UInt8.toNat_ofNat', UInt8.toNat_ofNat'] at this
    omega
  have e0 := f _ _ (by omega) (by omega) h0
  have e1 := f _ _ (by omega) (by omega) h1
  have e2 := f _ _ (by omega) (by omega) h2
  have e3 := f _ _ (by omega) (by omega) h3
  apply UInt32.toNat_inj.1
  have := a.toNat_lt
  have := b.toNat_lt
  omega
end Go.Gp
