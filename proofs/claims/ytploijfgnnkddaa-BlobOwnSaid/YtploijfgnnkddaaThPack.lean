/- What the statements say, of the plain functions. -/
import Derived.Test.YtploijfgnnkddaaDefs
import Derived.Test.YtploijfgnnkddaaLe
import Derived.Test.YtploijfgnnkddaaThInts
/- Numbers as bytes, in plain words: what both packages tell. -/
namespace Go.Gp
open Go
theorem clone_u8 {x : List UInt8} (h : x.length ≤ 140737488355328) : slices_Clone_sbyte_byte.f x = some x := by
  unfold slices_Clone_sbyte_byte.f; rw [app_eq (by simpa using h)]; simp
theorem ofInt_nat (n : Nat) (h : n < 2 ^ 64) : (BitVec.ofInt 64 (n : Int)).toNat = n := by
  rw [BitVec.toNat_ofInt]
  have : ((2 ^ 64 : Nat) : Int) = 2 ^ 64 := by norm_cast
  rw [this]
  omega
theorem or_disj (a s c : Nat) (ha : a < 2 ^ s) (hb : a + 2 ^ s * c < 2 ^ 64) : (BitVec.ofInt 64 (a : Int) ||| BitVec.ofInt 64 ((2 ^ s * c : Nat) : Int)).toNat = a + 2 ^ s * c := by
  rw [BitVec.toNat_or, ofInt_nat _ (by omega), ofInt_nat _ (by omega), Nat.or_comm, ← Nat.two_pow_add_eq_or_of_lt ha, Nat.add_comm]
theorem bor_disj (a s c : Nat) (ha : a < 2 ^ s) (hb : a + 2 ^ s * c < 2 ^ 63) : bor .i64 (a : Int) ((2 ^ s * c : Nat) : Int) = ((a + 2 ^ s * c : Nat) : Int) := by
  unfold bor
  show w64 _ = _
  rw [show IntKind.i64.bits = 64 from rfl, or_disj a s c ha (by omega)]
  exact w64_id (by omega)
theorem shr7 (x : Nat) : shr .i64 (x : Int) 7 = ((x / 128 : Nat) : Int) := by
  unfold shr
  rw [show (2 : Int) ^ min (7 : Int).toNat IntKind.i64.bits = 128 from rfl, Int.fdiv_eq_ediv_of_nonneg _ (by decide)]
  omega
theorem and127 (c : UInt8) : ((c &&& 127).toNat : Int) = ((c.toNat % 128 : Nat) : Int) := by
  rw [UInt8.toNat_and, show (127 : UInt8).toNat = 2 ^ 7 - 1 from rfl, Nat.and_two_pow_sub_one_eq_mod]
theorem pow7 (i : Nat) : (128 : Nat) ^ i = 2 ^ (7 * i) := by rw [Nat.pow_mul]
theorem pow128_le {i : Nat} (h : i ≤ 8) : (128 : Nat) ^ i ≤ 72057594037927936 := Nat.le_trans (Nat.pow_le_pow_right (by decide) h) (by decide)
theorem shl7 (c i : Nat) (hi : i ≤ 8) (h : 2 ^ (7 * i) * c < 2 ^ 63) : shl .i64 (c : Int) (w64 (7 * (i : Int))) = ((2 ^ (7 * i) * c : Nat) : Int) := by
  unfold shl
  have e : w64 (7 * (i : Int)) = ((7 * i : Nat) : Int) := by rw [w64_id (by omega)]; omega
  rw [e, Int.toNat_natCast, show IntKind.i64.bits = 64 from rfl, Nat.min_eq_left (by omega)]
  have e2 : (c : Int) * 2 ^ (7 * i) = ((2 ^ (7 * i) * c : Nat) : Int) := by rw [Int.natCast_mul, Int.natCast_pow]; exact Int.mul_comm _ _
  rw [e2]
  exact w64_id (by omega)
/-- A number's bytes. -/
def enc (n : Nat) : List UInt8 := if h : 128 ≤ n then UInt8.ofNat (n % 128 + 128) :: enc (n / 128) else [UInt8.ofNat n]
termination_by n
decreasing_by omega
theorem enc_ge {n : Nat} (h : 128 ≤ n) : enc n = UInt8.ofNat (n % 128 + 128) :: enc (n / 128) := by rw [enc, dif_pos h]
theorem enc_lt {n : Nat} (h : n < 128) : enc n = [UInt8.ofNat n] := by rw [enc, dif_neg (by omega)]
theorem enc_len : ∀ (k n : Nat), n < 128 ^ (k + 1) → (enc n).length ≤ k + 1
  | 0, n, h => by rw [enc_lt (by simpa using h)]; simp
  | k + 1, n, h => by
    by_cases h1 : 128 ≤ n
    · rw [enc_ge h1, List.length_cons]
      have := enc_len k (n / 128) (by rw [Nat.pow_succ] at h; omega)
      omega
    · rw [enc_lt (by omega)]; simp
theorem enc_pos (n : Nat) : 0 < (enc n).length := by
  by_cases h : 128 ≤ n
  · rw [enc_ge h]; simp
  · rw [enc_lt (by omega)]; simp
/-- A number within bounds. -/
def held2 (n : Int) : Nat := (min (max n 0) 4611686018427387904).toNat
theorem held2_le (n : Int) : held2 n ≤ 4611686018427387904 := by unfold held2; omega
theorem held2_nat (n : Nat) (h : n ≤ 4611686018427387904) : held2 (n : Int) = n := by unfold held2; omega
theorem held_eq (n : Int) : pack_held.f n = some (held2 n : Int) := by
  unfold pack_held.f held2
  rw [mx_eq, mn_eq]
  congr 1
  omega
theorem mnmx (n : Int) : mn (mx n 0) 4611686018427387904 = (held2 n : Int) := by rw [mx_eq, mn_eq]; unfold held2; omega
theorem enc_len9 {n : Nat} (h : n ≤ 4611686018427387904) : (enc n).length ≤ 9 := enc_len 8 n (by have : (128 : Nat) ^ (8 + 1) = 9223372036854775808 := by decide
                                                                                                 omega)
theorem enc_held (n : Int) : (enc (held2 n)).length ≤ 9 := enc_len9 (held2_le n)
theorem num_byte (m : Nat) : toU8 (bor .i64 (band .i64 (m : Int) 127) 128) = UInt8.ofNat (m % 128 + 128) := by
  have e1 : band .i64 (m : Int) 127 = ((m % 128 : Nat) : Int) := by rw [show (127 : Int) = 2 ^ 7 - 1 from rfl, band_mask _ 7 (by decide)]; omega
  rw [e1, show (128 : Int) = ((2 ^ 7 * 1 : Nat) : Int) from rfl, bor_disj _ _ _ (by omega) (by omega)]
  unfold toU8
  congr 1
  omega
theorem num_byte0 (m : Nat) (h : m < 128) : toU8 (m : Int) = UInt8.ofNat m := by unfold toU8; congr 1; omega
/-- What a number's writing does: any body that does so. -/
theorem num_iter {f : (Int × List UInt8 → Option (List UInt8)) → Int × List UInt8 → Option (List UInt8)}
    (hge : ∀ ag (m : Nat) b, 128 ≤ m → b.length ≤ 100000000000 → f ag ((m : Int), b) = ag (((m / 128 : Nat) : Int), b ++ [UInt8.ofNat (m % 128 + 128)]))
    (hlt : ∀ ag (m : Nat) b, m < 128 → b.length ≤ 100000000000 → f ag ((m : Int), b) = some (b ++ [UInt8.ofNat m])) :
    ∀ (K m : Nat) (b : List UInt8), (enc m).length < K → b.length + (enc m).length ≤ 100000000000 → iter f K ((m : Int), b) = some (b ++ enc m) := by
  intro K
  induction K with
  | zero => intro m b h; omega
  | succ K ih =>
    intro m b h hb
    rw [iter_succ]
    by_cases h1 : 128 ≤ m
    · rw [enc_ge h1, List.length_cons] at h hb
      rw [hge _ _ _ h1 (by omega), ih _ _ (by omega) (by simp; omega), enc_ge h1]
      simp
    · rw [hlt _ _ _ (by omega) (by omega), enc_lt (by omega)]
theorem num_eq {K : Nat} (hK : 20 ≤ K) {b : List UInt8} (hb : b.length ≤ 10000000000) (n : Int) : pack_Num.f K b n = some (b ++ enc (held2 n)) := by
  unfold pack_Num.f
  rw [clone_u8 (by omega), held_eq]
  simp only [Option.bind_some]
  have h9 := enc_held n
  refine num_iter (f := fun again v => pack_Num.B1 K (fun v => pack_Num.J1 K v.1 v.2) again v.1 v.2) (fun ag m b h1 h2 => ?_) (fun ag m b h1 h2 => ?_) K _ _ (by omega) (by omega)
  · unfold pack_Num.B1
    rw [if_pos (by simp only; omega)]
    simp only
    rw [num_byte, app_eq (by simp; omega), shr7]
    rfl
  · unfold pack_Num.B1 pack_Num.J1
    rw [if_neg (by simp only; omega)]
    simp only
    rw [num_byte0 _ h1, app_eq (by simp; omega)]
    rfl
theorem bytes_eq {K : Nat} (hK : 20 ≤ K) {b x : List UInt8} (hb : b.length ≤ 10000000000) (hx : x.length ≤ 10000000000) : pack_Bytes.f K b x = some (b ++ enc x.length ++ x) := by
  unfold pack_Bytes.f
  rw [num_eq hK hb]
  simp only [Option.bind_some]
  have e : held2 (x.length : Int) = x.length := held2_nat _ (by omega)
  have hl := enc_len9 (n := x.length) (by omega)
  rw [e, app_eq (by simp; omega)]
  rfl
theorem num1_eq {K : Nat} (hK : 20 ≤ K) {b : List UInt8} (hb : b.length ≤ 10000000000) (n : Int) : hocketref1_Num.f K b n = some (b ++ enc (held2 n)) := by
  unfold hocketref1_Num.f
  rw [app_eq (by simp; omega), mnmx]
  simp only [Option.bind_some, List.nil_append]
  have h9 := enc_held n
  refine num_iter (f := fun again v => hocketref1_Num.B1 K (fun v => hocketref1_Num.J1 K v.1 v.2) again v.1 v.2) (fun ag m b h1 h2 => ?_) (fun ag m b h1 h2 => ?_) K _ _ (by omega) (by omega)
  · unfold hocketref1_Num.B1
    rw [if_pos (by simp only; omega)]
    simp only
    rw [num_byte, app_eq (by simp; omega), shr7]
    rfl
  · unfold hocketref1_Num.B1 hocketref1_Num.J1
    rw [if_neg (by simp only; omega)]
    simp only
    rw [num_byte0 _ h1, app_eq (by simp; omega)]
    rfl
theorem bytes1_eq {K : Nat} (hK : 20 ≤ K) {b x : List UInt8} (hb : b.length ≤ 10000000000) (hx : x.length ≤ 10000000000) : hocketref1_Bytes.f K b x = some (b ++ enc x.length ++ x) := by
  unfold hocketref1_Bytes.f
  rw [num1_eq hK hb]
  simp only [Option.bind_some]
  have e : held2 (x.length : Int) = x.length := held2_nat _ (by omega)
  have hl := enc_len9 (n := x.length) (by omega)
  rw [e, app_eq (by simp; omega)]
  rfl
/-! ### reading -/
/-- A number that stands at the head, i of its bytes being read. -/
def rdA : Nat → List UInt8 → Option (Nat × List UInt8)
  | _, [] => none
  | i, c :: t => if 8 < i ∨ (c.toNat = 0 ∧ 0 < i) then none else if 128 ≤ c.toNat then (rdA (i + 1) t).map fun p => (c.toNat % 128 + 128 * p.1, p.2) else some (c.toNat, t)
theorem rdA_lt : ∀ (t : List UInt8) (i q : Nat) (r : List UInt8), rdA i t = some (q, r) → i ≤ 8 ∧ q < 128 ^ (9 - i) ∧ (0 < i → 0 < q)
  | [], i, q, r, h => by cases h
  | c :: t, i, q, r, h => by
    unfold rdA at h
    split at h
    · cases h
    · rename_i h0
      have hi : i ≤ 8 := by omega
      split at h
      · rename_i h1
        cases hr : rdA (i + 1) t with
        | none => rw [hr] at h; cases h
        | some p =>
          rw [hr] at h
          obtain ⟨q', r'⟩ := p
          simp only [Option.map_some, Option.some.injEq, Prod.mk.injEq] at h
          obtain ⟨h2, h3, h4⟩ := rdA_lt t (i + 1) q' r' hr
          have e : 9 - i = (9 - (i + 1)) + 1 := by omega
          rw [e, Nat.pow_succ]
          omega
      · simp only [Option.some.injEq, Prod.mk.injEq] at h
        have e : 9 - i = (8 - i) + 1 := by omega
        have hp : 0 < 128 ^ (8 - i) := Nat.pow_pos (by decide)
        rw [e, Nat.pow_succ]
        omega
theorem rdA_canon : ∀ (t : List UInt8) (i q : Nat) (r : List UInt8), rdA i t = some (q, r) → t = enc q ++ r
  | [], i, q, r, h => by cases h
  | c :: t, i, q, r, h => by
    unfold rdA at h
    split at h
    · cases h
    · split at h
      · rename_i h1
        cases hr : rdA (i + 1) t with
        | none => rw [hr] at h; cases h
        | some p =>
          rw [hr] at h
          obtain ⟨q', r'⟩ := p
          simp only [Option.map_some, Option.some.injEq, Prod.mk.injEq] at h
          obtain ⟨h2, h3⟩ := h
          subst h2 h3
          have h4 := (rdA_lt t (i + 1) q' r' hr).2.2 (by omega)
          have h5 := c.toNat_lt
          rw [enc_ge (by omega), rdA_canon t (i + 1) q' r' hr]
          have e1 : (c.toNat % 128 + 128 * q') % 128 + 128 = c.toNat := by omega
          have e2 : (c.toNat % 128 + 128 * q') / 128 = q' := by omega
          rw [e1, e2, UInt8.ofNat_toNat]
          rfl
      · simp only [Option.some.injEq, Prod.mk.injEq] at h
        obtain ⟨h2, h3⟩ := h
        subst h2 h3
        rw [enc_lt (by omega), UInt8.ofNat_toNat]
        rfl
theorem rdA_enc : ∀ (k i m : Nat) (rest : List UInt8), i + k = 8 → m < 128 ^ (k + 1) → (0 < i → 0 < m) → rdA i (enc m ++ rest) = some (m, rest) := by
  intro k
  induction k with
  | zero =>
    intro i m rest hi hm h0
    have hm : m < 128 := by simpa using hm
    rw [enc_lt hm]
    show rdA i (UInt8.ofNat m :: rest) = _
    have e : (UInt8.ofNat m).toNat = m := by rw [UInt8.toNat_ofNat']; omega
    unfold rdA
    rw [e, if_neg (by omega), if_neg (by omega)]
  | succ k ih =>
    intro i m rest hi hm h0
    by_cases h1 : 128 ≤ m
    · rw [enc_ge h1]
      show rdA i (UInt8.ofNat (m % 128 + 128) :: (enc (m / 128) ++ rest)) = _
      have e : (UInt8.ofNat (m % 128 + 128)).toNat = m % 128 + 128 := by rw [UInt8.toNat_ofNat']; omega
      unfold rdA
      rw [e, if_neg (by omega), if_pos (by omega), ih (i + 1) (m / 128) rest (by omega) (by rw [Nat.pow_succ] at hm; omega) (by omega)]
      simp only [Option.map_some]
      congr 2
      omega
    · rw [enc_lt (by omega)]
      show rdA i (UInt8.ofNat m :: rest) = _
      have e : (UInt8.ofNat m).toNat = m := by rw [UInt8.toNat_ofNat']; omega
      unfold rdA
      rw [e, if_neg (by omega), if_neg (by omega)]
/-- A number that is read, up to a bound. -/
def rd (top : Int) (b : List UInt8) : Option (Nat × List UInt8) :=
  match rdA 0 b with
  | some p => if p.1 ≤ held2 top then some p else none
  | none => none
theorem rd_enc {m : Nat} {top : Int} {rest : List UInt8} (hm : m ≤ held2 top) : rd top (enc m ++ rest) = some (m, rest) := by
  have h := held2_le top
  unfold rd
  rw [rdA_enc 8 0 m rest rfl (by have : (128 : Nat) ^ (8 + 1) = 9223372036854775808 := by decide
                                 omega) (by omega)]
  simp [hm]
theorem rd_some {top : Int} {b r : List UInt8} {n : Nat} (h : rd top b = some (n, r)) : n ≤ held2 top ∧ b = enc n ++ r := by
  unfold rd at h
  split at h
  · rename_i p hp
    split at h
    · rename_i hle
      simp only [Option.some.injEq] at h
      subst h
      exact ⟨hle, rdA_canon _ _ _ _ hp⟩
    · cases h
  · cases h
theorem rd_len {top : Int} {b r : List UInt8} {n : Nat} (h : rd top b = some (n, r)) : r.length < b.length := by
  obtain ⟨_, rfl⟩ := rd_some h
  have := enc_pos n
  rw [List.length_append]; omega
/-- Bytes that are read, up to a bound. -/
def rdB (top : Int) (b : List UInt8) : Option (List UInt8 × List UInt8) :=
  match rd top b with
  | some p => if p.1 ≤ p.2.length then some (p.2.take p.1, p.2.drop p.1) else none
  | none => none
theorem rdB_enc {x rest : List UInt8} {top : Int} (h : x.length ≤ held2 top) : rdB top (enc x.length ++ (x ++ rest)) = some (x, rest) := by
  unfold rdB
  rw [rd_enc h]
  simp
theorem rdB_some {top : Int} {b x r : List UInt8} (h : rdB top b = some (x, r)) : x.length ≤ held2 top ∧ b = enc x.length ++ (x ++ r) := by
  unfold rdB at h
  split at h
  · rename_i p hp
    split at h
    · rename_i hle
      obtain ⟨n, s⟩ := p
      obtain ⟨h1, h2⟩ := rd_some hp
      simp only [Option.some.injEq, Prod.mk.injEq] at h
      obtain ⟨rfl, rfl⟩ := h
      have e : (s.take n).length = n := by rw [List.length_take]; simp only at hle; omega
      rw [e, List.take_append_drop]
      exact ⟨h1, h2⟩
    · cases h
  · cases h
theorem rdB_len {top : Int} {b x r : List UInt8} (h : rdB top b = some (x, r)) : r.length < b.length := by
  obtain ⟨_, rfl⟩ := rdB_some h
  have := enc_pos x.length
  simp only [List.length_append]; omega
/-- A loop that reads a number's bytes: any body that does so. -/
theorem rd_iter {β : Type} {f : (Int × Int → Option β) → Int × Int → Option β} {b : List UInt8} {good : Nat → List UInt8 → Option β} {no : Option β}
    (hend : ∀ ag (x i : Nat), b.length ≤ i → i ≤ 9 → f ag ((x : Int), (i : Int)) = no)
    (hbad : ∀ ag (x i : Nat) (c : UInt8) t, b.drop i = c :: t → i < b.length → i ≤ 9 → (8 < i ∨ (c.toNat = 0 ∧ 0 < i)) → f ag ((x : Int), (i : Int)) = no)
    (hmore : ∀ ag (x i : Nat) (c : UInt8) t, b.drop i = c :: t → i < b.length → i ≤ 8 → x < 2 ^ (7 * i) → x + 2 ^ (7 * i) * (c.toNat % 128) < 2 ^ 63 → ¬(c.toNat = 0 ∧ 0 < i) → 128 ≤ c.toNat → f ag ((x : Int), (i : Int)) = ag (((x + 2 ^ (7 * i) * (c.toNat % 128) : Nat) : Int), ((i + 1 : Nat) : Int)))
    (hlast : ∀ ag (x i : Nat) (c : UInt8) t, b.drop i = c :: t → i < b.length → i ≤ 8 → x < 2 ^ (7 * i) → x + 2 ^ (7 * i) * (c.toNat % 128) < 2 ^ 63 → ¬(c.toNat = 0 ∧ 0 < i) → c.toNat < 128 → f ag ((x : Int), (i : Int)) = good (x + 2 ^ (7 * i) * (c.toNat % 128)) t) :
    ∀ (K i x : Nat), i ≤ 9 → 10 - i < K → x < 2 ^ (7 * i) → iter f K ((x : Int), (i : Int)) = match rdA i (b.drop i) with | some p => good (x + 2 ^ (7 * i) * p.1) p.2 | none => no := by
  intro K
  induction K with
  | zero => intro i x _ hk; omega
  | succ K ih =>
    intro i x hi hk hx
    rw [iter_succ]
    by_cases hl : i < b.length
    · obtain ⟨c, t, hc⟩ : ∃ c t, b.drop i = c :: t := by
        rw [List.drop_eq_getElem_cons hl]; exact ⟨_, _, rfl⟩
      have ht : b.drop (i + 1) = t := by
        have := congrArg List.tail hc
        simpa [List.tail_drop] using this
      rw [hc]
      unfold rdA
      by_cases h0 : 8 < i ∨ (c.toNat = 0 ∧ 0 < i)
      · rw [if_pos h0]
        exact hbad _ _ _ _ _ hc hl hi h0
      · rw [if_neg h0]
        have hi8 : i ≤ 8 := by omega
        have hp8 := pow128_le hi8
        rw [pow7] at hp8
        have hc7 : c.toNat % 128 ≤ 127 := by omega
        have hmul : 2 ^ (7 * i) * (c.toNat % 128) ≤ 72057594037927936 * 127 := Nat.mul_le_mul hp8 hc7
        have hsum : x + 2 ^ (7 * i) * (c.toNat % 128) < 2 ^ 63 := by omega
        by_cases h1 : 128 ≤ c.toNat
        · rw [if_pos h1, hmore _ _ _ _ _ hc hl hi8 hx hsum (fun h => h0 (.inr h)) h1]
          have hx' : x + 2 ^ (7 * i) * (c.toNat % 128) < 2 ^ (7 * (i + 1)) := by
            have e : 2 ^ (7 * (i + 1)) = 2 ^ (7 * i) * 128 := by rw [Nat.mul_add, Nat.pow_add]
            have : 2 ^ (7 * i) * (c.toNat % 128) ≤ 2 ^ (7 * i) * 127 := Nat.mul_le_mul_left _ hc7
            omega
          rw [ih (i + 1) _ (by omega) (by omega) hx', ht]
          cases rdA (i + 1) t with
          | none => rfl
          | some p =>
            simp only [Option.map_some]
            congr 1
            have e : 2 ^ (7 * (i + 1)) = 2 ^ (7 * i) * 128 := by rw [Nat.mul_add, Nat.pow_add]
            rw [e, Nat.mul_add, Nat.mul_assoc, Nat.add_assoc]
        · rw [if_neg h1, hlast _ _ _ _ _ hc hl hi8 hx hsum (fun h => h0 (.inr h)) (by omega)]
          simp only
          congr 2
          congr 1
          omega
    · rw [hend _ _ _ (by omega) hi, List.drop_eq_nil_of_le (by omega)]
      rfl
/-- What a number's reading gives. -/
def rnum (top : Int) (b : List UInt8) (bad : Bool) : Int × List UInt8 × Bool :=
  match rd top b with
  | some p => ((p.1 : Int), p.2, bad)
  | none => (0, [], true)
theorem ix_head {b t : List UInt8} {c : UInt8} {i : Nat} (h : b.drop i = c :: t) : ix b (i : Int) = some c := by
  refine ix_eq (by omega) ?_
  rw [Int.toNat_natCast]
  have := congrArg (fun l => l[0]?) h
  simpa [List.getElem?_drop] using this
theorem cut_head {b t : List UInt8} {c : UInt8} {i : Nat} (h : b.drop i = c :: t) (hi : i < b.length) : cut b ((i + 1 : Nat) : Int) (b.length : Int) = some t := by
  rw [cut_eq ⟨by omega, by omega, by omega⟩]
  rw [Int.toNat_natCast, Int.toNat_natCast, List.take_length]
  have := congrArg List.tail h
  rw [List.tail_drop] at this
  rw [this]
  rfl
theorem rnum_eq {K : Nat} (hK : 20 ≤ K) {b : List UInt8} (_hb : b.length ≤ 140737488355328) (bad : Bool) (top : Int) : pack_Reader_Num.f K b bad top = some (rnum top b bad) := by
  unfold pack_Reader_Num.f
  have hs : ∀ i : Nat, i ≤ 8 → w64 ((i : Int) + 1) = ((i + 1 : Nat) : Int) := fun i h => by rw [w64_id (by omega)]; omega
  have h7 : ∀ i : Nat, i ≤ 8 → must (0 ≤ w64 (7 * (i : Int))) = some () := fun i h => must_eq (by rw [w64_id (by omega)]; omega)
  have key : ∀ ag (x i : Nat) (c : UInt8) t, b.drop i = c :: t → i < b.length → i ≤ 8 → ¬(c.toNat = 0 ∧ 0 < i) → pack_Reader_Num.B1 K b top bad (fun v => pack_Reader_Num.J1 K b bad) ag (x : Int) (i : Int) = pack_Reader_Num.J2 K (fun v => pack_Reader_Num.J1 K b bad) i c ag (x : Int) top b bad false := fun ag x i c t hc hl hi h0 => by
    unfold pack_Reader_Num.B1
    rw [if_pos (by omega), ix_head hc]
    simp only [Option.bind_some]
    rw [if_neg (by omega)]
    split
    · rename_i hz
      have hz : c.toNat = 0 := by simpa using hz
      have : decide ((i : Int) > 0) = false := decide_eq_false (by omega)
      rw [this]
    · rfl
  have := rd_iter (f := fun again v => pack_Reader_Num.B1 K b top bad (fun v => pack_Reader_Num.J1 K b bad) again v.1 v.2) (b := b) (good := fun n t => if n ≤ held2 top then some ((n : Int), t, bad) else some (0, [], true)) (no := some (0, [], true))
    (fun ag x i hi _ => by
      simp only
      unfold pack_Reader_Num.B1
      rw [if_neg (by omega)]
      rfl)
    (fun ag x i c t hc hl hi h0 => by
      simp only
      unfold pack_Reader_Num.B1
      rw [if_pos (by omega), ix_head hc]
      simp only [Option.bind_some]
      by_cases h8 : (i : Int) > 8
      · rw [if_pos h8]; rfl
      · rw [if_neg h8]
        have hz : c.toNat = 0 ∧ 0 < i := by omega
        rw [if_pos (by rw [hz.1]; rfl), decide_eq_true (by omega)]
        rfl)
    (fun ag x i c t hc hl hi hx hsum h0 h1 => by
      simp only
      rw [key ag x i c t hc hl hi h0]
      unfold pack_Reader_Num.J2
      rw [if_neg (by simp), h7 i hi]
      simp only [Option.bind_some]
      rw [if_pos (by rw [show (128 : UInt8).toNat = 128 from rfl]; omega), and127, shl7 _ _ hi (by omega), bor_disj _ _ _ hx hsum, hs i hi])
    (fun ag x i c t hc hl hi hx hsum h0 h1 => by
      simp only
      rw [key ag x i c t hc hl hi h0]
      unfold pack_Reader_Num.J2
      rw [if_neg (by simp), h7 i hi]
      simp only [Option.bind_some]
      rw [if_neg (by rw [show (128 : UInt8).toNat = 128 from rfl]; omega), held_eq]
      simp only [Option.bind_some]
      rw [and127, shl7 _ _ hi (by omega), bor_disj _ _ _ hx hsum]
      by_cases hle : x + 2 ^ (7 * i) * (c.toNat % 128) ≤ held2 top
      · rw [if_neg (by omega), if_pos hle, hs i hi, cut_head hc hl]
        rfl
      · rw [if_pos (by omega), if_neg hle]
        rfl) K 0 0 (by omega) (by omega) (by simp)
  refine Eq.trans ?_ (this.trans ?_)
  · rfl
  · unfold rnum rd
    rw [List.drop_zero]
    cases rdA 0 b with
    | none => rfl
    | some p =>
      simp only [Nat.mul_zero, Nat.pow_zero, Nat.one_mul, Nat.zero_add]
      by_cases hle : p.1 ≤ held2 top
      · rw [if_pos hle, if_pos hle]
      · rw [if_neg hle, if_neg hle]
/-- What bytes' reading gives. -/
def rbytes (top : Int) (b : List UInt8) (bad : Bool) : List UInt8 × List UInt8 × Bool :=
  match rdB top b with
  | some p => (p.1, p.2, bad)
  | none => ([], [], true)
theorem rbytes_eq {K : Nat} (hK : 20 ≤ K) {b : List UInt8} (hb : b.length ≤ 140737488355328) (bad : Bool) (top : Int) : pack_Reader_Bytes.f K b bad top = some (rbytes top b bad) := by
  unfold pack_Reader_Bytes.f rbytes rdB
  rw [rnum_eq hK hb]
  simp only [Option.bind_some]
  unfold rnum
  cases hr : rd top b with
  | none => rfl
  | some p =>
    obtain ⟨n, r⟩ := p
    have hl := rd_len hr
    simp only
    by_cases h : n ≤ r.length
    · rw [if_neg (by omega), if_pos h, cut_eq ⟨by omega, by omega, by omega⟩]
      simp only [Option.bind_some, Int.toNat_natCast, Int.toNat_zero, List.drop_zero]
      rw [clone_u8 (by rw [List.length_take]; omega)]
      simp only [Option.bind_some]
      rw [cut_eq ⟨by omega, by omega, by omega⟩]
      simp only [Option.bind_some, Int.toNat_natCast, List.take_length]
    · rw [if_pos (by omega), if_neg h]
      rfl
theorem read_eq {b : List UInt8} (hb : b.length ≤ 140737488355328) : pack_Read.f b = some (b, false) := by
  unfold pack_Read.f
  rw [clone_u8 hb]; rfl
end Go.Gp
