/- What the statements say, of the plain functions. -/
import Derived.Test.YtploijfgnnkddaaGreatDefs
import Derived.Test.YtploijfgnnkddaaGreatLe
import Derived.Test.YtploijfgnnkddaaGreatThInts
/- Numbers as bytes, in plain words: what both packages tell. -/
namespace Go.Gp
open Go
theorem A4y {x : List UInt8} (h : x.length ≤ 140737488355328) : L9.f x = some x := by
  unfold L9.f; rw [R6 (by simpa using h)]; simp
theorem A4b {n : Int} (h : 0 ≤ n ∧ n ≤ 18446744073709551615) : R7 n = n := by
  show (if (false && decide (n % 18446744073709551616 ≥ 9223372036854775808)) = true then n % 18446744073709551616 - 18446744073709551616 else n % 18446744073709551616) = n; simp only [Bool.false_and, Bool.false_eq_true, if_false]; omega
theorem A6E (n : Nat) (h : n < 2 ^ 64) : (BitVec.ofInt 64 (n : Int)).toNat = n := by
  rw [BitVec.toNat_ofInt]; have : ((2 ^ 64 : Nat) : Int) = 2 ^ 64 := by norm_cast
  rw [this]; omega
theorem A8n (a s c : Nat) (ha : a < 2 ^ s) (hb : a + 2 ^ s * c < 2 ^ 64) : (BitVec.ofInt 64 (a : Int) ||| BitVec.ofInt 64 ((2 ^ s * c : Nat) : Int)).toNat = a + 2 ^ s * c := by
  rw [BitVec.toNat_or, A6E _ (by omega), A6E _ (by omega), Nat.or_comm, ← Nat.two_pow_add_eq_or_of_lt ha, Nat.add_comm]
theorem A5s (a s c : Nat) (ha : a < 2 ^ s) (hb : a + 2 ^ s * c < 2 ^ 63) : bor .i64 (a : Int) ((2 ^ s * c : Nat) : Int) = ((a + 2 ^ s * c : Nat) : Int) := by
  unfold bor; show w64 _ = _; rw [show IntKind.i64.bits = 64 from rfl, A8n a s c ha (by omega)]; exact T9 (by omega)
theorem A4V (a s c : Nat) (ha : a < 2 ^ s) (hb : a + 2 ^ s * c < 2 ^ 64) : bor .u64 (a : Int) ((2 ^ s * c : Nat) : Int) = ((a + 2 ^ s * c : Nat) : Int) := by
  unfold bor; show R7 _ = _; rw [show IntKind.u64.bits = 64 from rfl, A8n a s c ha (by omega)]; exact A4b (by omega)
theorem B1E (x : Nat) : shr .i64 (x : Int) 7 = ((x / 128 : Nat) : Int) := by
  unfold shr; rw [show (2 : Int) ^ min (7 : Int).toNat IntKind.i64.bits = 128 from rfl, Int.fdiv_eq_ediv_of_nonneg _ (by decide)]; omega
theorem A7O (c : UInt8) : ((c &&& 127).toNat : Int) = ((c.toNat % 128 : Nat) : Int) := by
  rw [UInt8.toNat_and, show (127 : UInt8).toNat = 2 ^ 7 - 1 from rfl, Nat.and_two_pow_sub_one_eq_mod]
theorem B2G (i : Nat) : (128 : Nat) ^ i = 2 ^ (7 * i) := by rw [Nat.pow_mul]
theorem A9y {i : Nat} (h : i ≤ 8) : (128 : Nat) ^ i ≤ 72057594037927936 := Nat.le_trans (Nat.pow_le_pow_right (by decide) h) (by decide)
theorem B1F (c i : Nat) (hi : i ≤ 8) (h : 2 ^ (7 * i) * c < 2 ^ 63) : shl .i64 (c : Int) (w64 (7 * (i : Int))) = ((2 ^ (7 * i) * c : Nat) : Int) := by
  unfold shl; have e : w64 (7 * (i : Int)) = ((7 * i : Nat) : Int) := by rw [T9 (by omega)]; omega
  rw [e, Int.toNat_natCast, show IntKind.i64.bits = 64 from rfl, Nat.min_eq_left (by omega)]; have e2 : (c : Int) * 2 ^ (7 * i) = ((2 ^ (7 * i) * c : Nat) : Int) := by rw [Int.natCast_mul, Int.natCast_pow]; exact Int.mul_comm _ _
  rw [e2]; exact T9 (by omega)
theorem A8z (c i : Nat) (hi : i ≤ 8) (h : 2 ^ (7 * i) * c < 2 ^ 64) : shl .u64 (c : Int) (R7 (w64 (7 * (i : Int)))) = ((2 ^ (7 * i) * c : Nat) : Int) := by
  unfold shl; have e : R7 (w64 (7 * (i : Int))) = ((7 * i : Nat) : Int) := by rw [T9 (by omega), A4b (by omega)]; omega
  rw [e, Int.toNat_natCast, show IntKind.u64.bits = 64 from rfl, Nat.min_eq_left (by omega)]; have e2 : (c : Int) * 2 ^ (7 * i) = ((2 ^ (7 * i) * c : Nat) : Int) := by rw [Int.natCast_mul, Int.natCast_pow]; exact Int.mul_comm _ _
  rw [e2]; exact A4b (by omega)
def enc (n : Nat) : List UInt8 := if h : 128 ≤ n then UInt8.ofNat (n % 128 + 128) :: enc (n / 128) else [UInt8.ofNat n]
termination_by n
decreasing_by omega
theorem A4i {n : Nat} (h : 128 ≤ n) : enc n = UInt8.ofNat (n % 128 + 128) :: enc (n / 128) := by rw [enc, dif_pos h]
theorem A3j {n : Nat} (h : n < 128) : enc n = [UInt8.ofNat n] := by rw [enc, dif_neg (by omega)]
theorem A8u : ∀ (k n : Nat), n < 128 ^ (k + 1) → (enc n).length ≤ k + 1
  | 0, n, h => by rw [A3j (by simpa using h)]; simp
  | k + 1, n, h => by
    by_cases h1 : 128 ≤ n
    · rw [A4i h1, List.length_cons]; have := A8u k (n / 128) (by rw [Nat.pow_succ] at h; omega); omega
    · rw [A3j (by omega)]; simp
theorem A6l (n : Nat) : 0 < (enc n).length := by
  by_cases h : 128 ≤ n
  · rw [A4i h]; simp
  · rw [A3j (by omega)]; simp
def I8 (n : Int) : Nat := (min (max n 0) 4611686018427387904).toNat
theorem A5o (n : Int) : I8 n ≤ 4611686018427387904 := by unfold I8; omega
theorem A2k (n : Nat) (h : n ≤ 4611686018427387904) : I8 (n : Int) = n := by unfold I8; omega
theorem A8s (n : Int) : A1F.f n = some (I8 n : Int) := by
  unfold A1F.f I8; rw [A8Q, A7c]
  congr 1
  omega
theorem B1Y (n : Int) : mn (mx n 0) 4611686018427387904 = (I8 n : Int) := by rw [A8Q, A7c]; unfold I8; omega
theorem Z8 {n : Nat} (h : n ≤ 4611686018427387904) : (enc n).length ≤ 9 := A8u 8 n (by have : (128 : Nat) ^ (8 + 1) = 9223372036854775808 := (by decide); omega)
theorem A2l (n : Int) : (enc (I8 n)).length ≤ 9 := Z8 (A5o n)
theorem A7u (m : Nat) : T1 (bor .i64 (F0 .i64 (m : Int) 127) 128) = UInt8.ofNat (m % 128 + 128) := by
  have e1 : F0 .i64 (m : Int) 127 = ((m % 128 : Nat) : Int) := by rw [show (127 : Int) = 2 ^ 7 - 1 from rfl, A6R _ 7 (by decide)]; omega
  rw [e1, show (128 : Int) = ((2 ^ 7 * 1 : Nat) : Int) from rfl, A5s _ _ _ (by omega) (by omega)]; unfold T1
  congr 1
  omega
theorem A6F (m : Nat) (h : m < 128) : T1 (m : Int) = UInt8.ofNat m := by unfold T1; congr 1; omega
theorem A7t {f : (Int × List UInt8 → Option (List UInt8)) → Int × List UInt8 → Option (List UInt8)}
    (hge : ∀ ag (m : Nat) b, 128 ≤ m → b.length ≤ 100000000000 → f ag ((m : Int), b) = ag (((m / 128 : Nat) : Int), b ++ [UInt8.ofNat (m % 128 + 128)]))
    (hlt : ∀ ag (m : Nat) b, m < 128 → b.length ≤ 100000000000 → f ag ((m : Int), b) = some (b ++ [UInt8.ofNat m])) :
    ∀ (K m : Nat) (b : List UInt8), (enc m).length < K → b.length + (enc m).length ≤ 100000000000 → S4 f K ((m : Int), b) = some (b ++ enc m) := by
  intro K
  induction K with
  | zero => intro m b h; omega
  | succ K ih =>
    intro m b h hb; rw [X5]
    by_cases h1 : 128 ≤ m
    · rw [A4i h1, List.length_cons] at h hb; rw [hge _ _ _ h1 (by omega), ih _ _ (by omega) (by simp; omega), A4i h1]; simp
    · rw [hlt _ _ _ (by omega) (by omega), A3j (by omega)]
theorem B1X {K : Nat} (hK : 20 ≤ K) {b : List UInt8} (hb : b.length ≤ 10000000000) (n : Int) : T6.f K b n = some (b ++ enc (I8 n)) := by
  unfold T6.f; rw [A4y (by omega), A8s]; simp only [Option.bind_some]; have h9 := A2l n; refine A7t (f := fun again v => T6.B1 K (fun v => T6.J1 K v.1 v.2) again v.1 v.2) (fun ag m b h1 h2 => ?_) (fun ag m b h1 h2 => ?_) K _ _ (by omega) (by omega)
  · unfold T6.B1; rw [if_pos (by simp only; omega)]; simp only; rw [A7u, R6 (by simp; omega), B1E]
    rfl
  · unfold T6.B1 T6.J1; rw [if_neg (by simp only; omega)]; simp only; rw [A6F _ h1, R6 (by simp; omega)]
    rfl
theorem A3y {K : Nat} (hK : 20 ≤ K) {b : List UInt8} (hb : b.length ≤ 10000000000) (n : Int) : C9.f K b n = some (b ++ enc (I8 n)) := by
  unfold C9.f; rw [R6 (by simp; omega), B1Y]; simp only [Option.bind_some, List.nil_append]; have h9 := A2l n; refine A7t (f := fun again v => C9.B1 K (fun v => C9.J1 K v.1 v.2) again v.1 v.2) (fun ag m b h1 h2 => ?_) (fun ag m b h1 h2 => ?_) K _ _ (by omega) (by omega)
  · unfold C9.B1; rw [if_pos (by simp only; omega)]; simp only; rw [A7u, R6 (by simp; omega), B1E]
    rfl
  · unfold C9.B1 C9.J1; rw [if_neg (by simp only; omega)]; simp only; rw [A6F _ h1, R6 (by simp; omega)]
    rfl
theorem A3W {K : Nat} (hK : 20 ≤ K) {b x : List UInt8} (hb : b.length ≤ 10000000000) (hx : x.length ≤ 10000000000) : K5.f K b x = some (b ++ enc x.length ++ x) := by
  unfold K5.f; rw [A3y hK hb]; simp only [Option.bind_some]; have e : I8 (x.length : Int) = x.length := A2k _ (by omega); have hl := Z8 (n := x.length) (by omega); rw [e, R6 (by simp; omega)]
  rfl
def rdA : Nat → List UInt8 → Option (Nat × List UInt8)
  | _, [] => none
  | i, c :: t => if 8 < i ∨ (c.toNat = 0 ∧ 0 < i) then none else if 128 ≤ c.toNat then (rdA (i + 1) t).map fun p => (c.toNat % 128 + 128 * p.1, p.2) else some (c.toNat, t)
theorem A9w : ∀ (t : List UInt8) (i q : Nat) (r : List UInt8), rdA i t = some (q, r) → i ≤ 8 ∧ q < 128 ^ (9 - i) ∧ (0 < i → 0 < q)
  | [], i, q, r, h => by cases h
  | c :: t, i, q, r, h => by
    unfold rdA at h; split at h
    · cases h
    · rename_i h0
      have hi : i ≤ 8 := by omega
      split at h
      · rename_i h1
        cases hr : rdA (i + 1) t with
        | none => rw [hr] at h; cases h
        | some p =>
          rw [hr] at h; obtain ⟨q', r'⟩ := p; simp only [Option.map_some, Option.some.injEq, Prod.mk.injEq] at h; obtain ⟨h2, h3, h4⟩ := A9w t (i + 1) q' r' hr; have e : 9 - i = (9 - (i + 1)) + 1 := by omega
          rw [e, Nat.pow_succ]; omega
      · simp only [Option.some.injEq, Prod.mk.injEq] at h; have e : 9 - i = (8 - i) + 1 := by omega
        have hp : 0 < 128 ^ (8 - i) := Nat.pow_pos (by decide); rw [e, Nat.pow_succ]; omega
theorem A6z : ∀ (t : List UInt8) (i q : Nat) (r : List UInt8), rdA i t = some (q, r) → t = enc q ++ r
  | [], i, q, r, h => by cases h
  | c :: t, i, q, r, h => by
    unfold rdA at h; split at h
    · cases h
    · split at h
      · rename_i h1
        cases hr : rdA (i + 1) t with
        | none => rw [hr] at h; cases h
        | some p =>
          rw [hr] at h; obtain ⟨q', r'⟩ := p; simp only [Option.map_some, Option.some.injEq, Prod.mk.injEq] at h; obtain ⟨h2, h3⟩ := h; subst h2 h3; have h4 := (A9w t (i + 1) q' r' hr).2.2 (by omega); have h5 := c.toNat_lt; rw [A4i (by omega), A6z t (i + 1) q' r' hr]; have e1 : (c.toNat % 128 + 128 * q') % 128 + 128 = c.toNat := by omega
          have e2 : (c.toNat % 128 + 128 * q') / 128 = q' := by omega
          rw [e1, e2, UInt8.ofNat_toNat]
          rfl
      · simp only [Option.some.injEq, Prod.mk.injEq] at h; obtain ⟨h2, h3⟩ := h; subst h2 h3; rw [A3j (by omega), UInt8.ofNat_toNat]
        rfl
theorem B1a : ∀ (k i m : Nat) (rest : List UInt8), i + k = 8 → m < 128 ^ (k + 1) → (0 < i → 0 < m) → rdA i (enc m ++ rest) = some (m, rest) := by
  intro k
  induction k with
  | zero =>
    intro i m rest hi hm h0; have hm : m < 128 := by simpa using hm
    rw [A3j hm]; show rdA i (UInt8.ofNat m :: rest) = _; have e : (UInt8.ofNat m).toNat = m := by rw [UInt8.toNat_ofNat']; omega
    unfold rdA; rw [e, if_neg (by omega), if_neg (by omega)]
  | succ k ih =>
    intro i m rest hi hm h0
    by_cases h1 : 128 ≤ m
    · rw [A4i h1]; show rdA i (UInt8.ofNat (m % 128 + 128) :: (enc (m / 128) ++ rest)) = _; have e : (UInt8.ofNat (m % 128 + 128)).toNat = m % 128 + 128 := by rw [UInt8.toNat_ofNat']; omega
      unfold rdA; rw [e, if_neg (by omega), if_pos (by omega), ih (i + 1) (m / 128) rest (by omega) (by rw [Nat.pow_succ] at hm; omega) (by omega)]; simp only [Option.map_some]
      congr 2
      omega
    · rw [A3j (by omega)]; show rdA i (UInt8.ofNat m :: rest) = _; have e : (UInt8.ofNat m).toNat = m := by rw [UInt8.toNat_ofNat']; omega
      unfold rdA; rw [e, if_neg (by omega), if_neg (by omega)]
def rd (top : Int) (b : List UInt8) : Option (Nat × List UInt8) :=
  match rdA 0 b with
  | some p => if p.1 ≤ I8 top then some p else none
  | none => none
theorem A7o {m : Nat} {top : Int} {rest : List UInt8} (hm : m ≤ I8 top) : rd top (enc m ++ rest) = some (m, rest) := by
  have h := A5o top; unfold rd; rw [B1a 8 0 m rest rfl (by have : (128 : Nat) ^ (8 + 1) = 9223372036854775808 := (by decide); omega) (by omega)]; simp [hm]
theorem A2T {top : Int} {b r : List UInt8} {n : Nat} (h : rd top b = some (n, r)) : n ≤ I8 top ∧ b = enc n ++ r := by
  unfold rd at h; split at h
  · rename_i p hp
    split at h
    · rename_i hle
      simp only [Option.some.injEq] at h; subst h; exact ⟨hle, A6z _ _ _ _ hp⟩
    · cases h
  · cases h
theorem A4L {top : Int} {b r : List UInt8} {n : Nat} (h : rd top b = some (n, r)) : r.length < b.length := by
  obtain ⟨_, rfl⟩ := A2T h; have := A6l n; rw [List.length_append]; omega
def rdB (top : Int) (b : List UInt8) : Option (List UInt8 × List UInt8) :=
  match rd top b with
  | some p => if p.1 ≤ p.2.length then some (p.2.take p.1, p.2.drop p.1) else none
  | none => none
theorem A8l {x rest : List UInt8} {top : Int} (h : x.length ≤ I8 top) : rdB top (enc x.length ++ (x ++ rest)) = some (x, rest) := by
  unfold rdB; rw [A7o h]; simp
theorem A2y {top : Int} {b x r : List UInt8} (h : rdB top b = some (x, r)) : x.length ≤ I8 top ∧ b = enc x.length ++ (x ++ r) := by
  unfold rdB at h; split at h
  · rename_i p hp
    split at h
    · rename_i hle
      obtain ⟨n, s⟩ := p; obtain ⟨h1, h2⟩ := A2T hp; simp only [Option.some.injEq, Prod.mk.injEq] at h; obtain ⟨rfl, rfl⟩ := h; have e : (s.take n).length = n := by rw [List.length_take]; simp only at hle; omega
      rw [e, List.take_append_drop]; exact ⟨h1, h2⟩
    · cases h
  · cases h
theorem B0Z {top : Int} {b x r : List UInt8} (h : rdB top b = some (x, r)) : r.length < b.length := by
  obtain ⟨_, rfl⟩ := A2y h; have := A6l x.length; simp only [List.length_append]; omega
theorem A8j {β : Type} {f : (Int × Int → Option β) → Int × Int → Option β} {b : List UInt8} {good : Nat → List UInt8 → Option β} {no : Option β}
    (hend : ∀ ag (x i : Nat), b.length ≤ i → i ≤ 9 → f ag ((x : Int), (i : Int)) = no)
    (hbad : ∀ ag (x i : Nat) (c : UInt8) t, b.drop i = c :: t → i < b.length → i ≤ 9 → (8 < i ∨ (c.toNat = 0 ∧ 0 < i)) → f ag ((x : Int), (i : Int)) = no)
    (hmore : ∀ ag (x i : Nat) (c : UInt8) t, b.drop i = c :: t → i < b.length → i ≤ 8 → x < 2 ^ (7 * i) → x + 2 ^ (7 * i) * (c.toNat % 128) < 2 ^ 63 → ¬(c.toNat = 0 ∧ 0 < i) → 128 ≤ c.toNat → f ag ((x : Int), (i : Int)) = ag (((x + 2 ^ (7 * i) * (c.toNat % 128) : Nat) : Int), ((i + 1 : Nat) : Int)))
    (hlast : ∀ ag (x i : Nat) (c : UInt8) t, b.drop i = c :: t → i < b.length → i ≤ 8 → x < 2 ^ (7 * i) → x + 2 ^ (7 * i) * (c.toNat % 128) < 2 ^ 63 → ¬(c.toNat = 0 ∧ 0 < i) → c.toNat < 128 → f ag ((x : Int), (i : Int)) = good (x + 2 ^ (7 * i) * (c.toNat % 128)) t) :
    ∀ (K i x : Nat), i ≤ 9 → 10 - i < K → x < 2 ^ (7 * i) → S4 f K ((x : Int), (i : Int)) = match rdA i (b.drop i) with | some p => good (x + 2 ^ (7 * i) * p.1) p.2 | none => no := by
  intro K
  induction K with
  | zero => intro i x _ hk; omega
  | succ K ih =>
    intro i x hi hk hx; rw [X5]
    by_cases hl : i < b.length
    · obtain ⟨c, t, hc⟩ : ∃ c t, b.drop i = c :: t := by
        rw [List.drop_eq_getElem_cons hl]; exact ⟨_, _, rfl⟩
      have ht : b.drop (i + 1) = t := by
        have := congrArg List.tail hc
        simpa [List.tail_drop] using this
      rw [hc]; unfold rdA
      by_cases h0 : 8 < i ∨ (c.toNat = 0 ∧ 0 < i)
      · rw [if_pos h0]; exact hbad _ _ _ _ _ hc hl hi h0
      · rw [if_neg h0]; have hi8 : i ≤ 8 := by omega
        have hp8 := A9y hi8; rw [B2G] at hp8; have hc7 : c.toNat % 128 ≤ 127 := by omega
        have hmul : 2 ^ (7 * i) * (c.toNat % 128) ≤ 72057594037927936 * 127 := Nat.mul_le_mul hp8 hc7; have hsum : x + 2 ^ (7 * i) * (c.toNat % 128) < 2 ^ 63 := by omega
        by_cases h1 : 128 ≤ c.toNat
        · rw [if_pos h1, hmore _ _ _ _ _ hc hl hi8 hx hsum (fun h => h0 (.inr h)) h1]; have hx' : x + 2 ^ (7 * i) * (c.toNat % 128) < 2 ^ (7 * (i + 1)) := by
            have e : 2 ^ (7 * (i + 1)) = 2 ^ (7 * i) * 128 := by rw [Nat.mul_add, Nat.pow_add]
            have : 2 ^ (7 * i) * (c.toNat % 128) ≤ 2 ^ (7 * i) * 127 := Nat.mul_le_mul_left _ hc7; omega
          rw [ih (i + 1) _ (by omega) (by omega) hx', ht]
          cases rdA (i + 1) t with
          | none => rfl
          | some p =>
            simp only [Option.map_some]
            congr 1
            have e : 2 ^ (7 * (i + 1)) = 2 ^ (7 * i) * 128 := by rw [Nat.mul_add, Nat.pow_add]
            rw [e, Nat.mul_add, Nat.mul_assoc, Nat.add_assoc]
        · rw [if_neg h1, hlast _ _ _ _ _ hc hl hi8 hx hsum (fun h => h0 (.inr h)) (by omega)]; simp only
          congr 2
          congr 1
          omega
    · rw [hend _ _ _ (by omega) hi, List.drop_eq_nil_of_le (by omega)]
      rfl
def H6 (top : Int) (b : List UInt8) (bad : Bool) : Int × List UInt8 × Bool :=
  match rd top b with
  | some p => ((p.1 : Int), p.2, bad)
  | none => (0, [], true)
theorem A4h {b t : List UInt8} {c : UInt8} {i : Nat} (h : b.drop i = c :: t) : ix b (i : Int) = some c := by
  refine A7d (by omega) ?_; rw [Int.toNat_natCast]; have := congrArg (fun l => l[0]?) h
  simpa [List.getElem?_drop] using this
theorem A7I {b t : List UInt8} {c : UInt8} {i : Nat} (h : b.drop i = c :: t) (hi : i < b.length) : cut b ((i + 1 : Nat) : Int) (b.length : Int) = some t := by
  rw [A1f ⟨by omega, by omega, by omega⟩]; rw [Int.toNat_natCast, Int.toNat_natCast, List.take_length]; have := congrArg List.tail h; rw [List.tail_drop] at this; rw [this]
  rfl
theorem Z0 {K : Nat} (hK : 20 ≤ K) {b : List UInt8} (_hb : b.length ≤ 140737488355328) (bad : Bool) (top : Int) : B0.f K b bad top = some (H6 top b bad) := by
  unfold B0.f; have hs : ∀ i : Nat, i ≤ 8 → w64 ((i : Int) + 1) = ((i + 1 : Nat) : Int) := fun i h => by rw [T9 (by omega)]; omega
  have h7 : ∀ i : Nat, i ≤ 8 → A3D (0 ≤ w64 (7 * (i : Int))) = some () := fun i h => A2U (by rw [T9 (by omega)]; omega); have key : ∀ ag (x i : Nat) (c : UInt8) t, b.drop i = c :: t → i < b.length → i ≤ 8 → ¬(c.toNat = 0 ∧ 0 < i) → B0.B1 K b top bad (fun v => B0.J1 K b bad) ag (x : Int) (i : Int) = B0.J2 K (fun v => B0.J1 K b bad) i c ag (x : Int) top b bad false := fun ag x i c t hc hl hi h0 => by
    unfold B0.B1; rw [if_pos (by omega), A4h hc]; simp only [Option.bind_some]; rw [if_neg (by omega)]; split
    · rename_i hz
      have hz : c.toNat = 0 := by simpa using hz
      have : decide ((i : Int) > 0) = false := decide_eq_false (by omega); rw [this]
    · rfl
  have := A8j (f := fun again v => B0.B1 K b top bad (fun v => B0.J1 K b bad) again v.1 v.2) (b := b) (good := fun n t => if n ≤ I8 top then some ((n : Int), t, bad) else some (0, [], true)) (no := some (0, [], true))
    (fun ag x i hi _ => by
      simp only; unfold B0.B1; rw [if_neg (by omega)]
      rfl)
    (fun ag x i c t hc hl hi h0 => by
      simp only; unfold B0.B1; rw [if_pos (by omega), A4h hc]; simp only [Option.bind_some]
      by_cases h8 : (i : Int) > 8
      · rw [if_pos h8]; rfl
      · rw [if_neg h8]; have hz : c.toNat = 0 ∧ 0 < i := by omega
        rw [if_pos (by rw [hz.1]; rfl), decide_eq_true (by omega)]
        rfl)
    (fun ag x i c t hc hl hi hx hsum h0 h1 => by
      simp only; rw [key ag x i c t hc hl hi h0]; unfold B0.J2; rw [if_neg (by simp), h7 i hi]; simp only [Option.bind_some]; rw [if_pos (by rw [show (128 : UInt8).toNat = 128 from rfl]; omega), A7O, B1F _ _ hi (by omega), A5s _ _ _ hx hsum, hs i hi])
    (fun ag x i c t hc hl hi hx hsum h0 h1 => by
      simp only; rw [key ag x i c t hc hl hi h0]; unfold B0.J2; rw [if_neg (by simp), h7 i hi]; simp only [Option.bind_some]; rw [if_neg (by rw [show (128 : UInt8).toNat = 128 from rfl]; omega), A8s]; simp only [Option.bind_some]; rw [A7O, B1F _ _ hi (by omega), A5s _ _ _ hx hsum]
      by_cases hle : x + 2 ^ (7 * i) * (c.toNat % 128) ≤ I8 top
      · rw [if_neg (by omega), if_pos hle, hs i hi, A7I hc hl]
        rfl
      · rw [if_pos (by omega), if_neg hle]
        rfl) K 0 0 (by omega) (by omega) (by simp)
  refine Eq.trans ?_ (this.trans ?_)
  · rfl
  · unfold H6 rd; rw [List.drop_zero]
    cases rdA 0 b with
    | none => rfl
    | some p =>
      simp only [Nat.mul_zero, Nat.pow_zero, Nat.one_mul, Nat.zero_add]
      by_cases hle : p.1 ≤ I8 top
      · rw [if_pos hle, if_pos hle]
      · rw [if_neg hle, if_neg hle]
def J0 (top : Int) (b : List UInt8) (bad : Bool) : List UInt8 × List UInt8 × Bool :=
  match rdB top b with
  | some p => (p.1, p.2, bad)
  | none => ([], [], true)
theorem A1D {K : Nat} (hK : 20 ≤ K) {b : List UInt8} (hb : b.length ≤ 140737488355328) (bad : Bool) (top : Int) : H7.f K b bad top = some (J0 top b bad) := by
  unfold H7.f J0 rdB; rw [Z0 hK hb]; simp only [Option.bind_some]; unfold H6
  cases hr : rd top b with
  | none => rfl
  | some p =>
    obtain ⟨n, r⟩ := p; have hl := A4L hr; simp only
    by_cases h : n ≤ r.length
    · rw [if_neg (by omega), if_pos h, A1f ⟨by omega, by omega, by omega⟩]; simp only [Option.bind_some, Int.toNat_natCast, Int.toNat_zero, List.drop_zero]; rw [A4y (by rw [List.length_take]; omega)]; simp only [Option.bind_some]; rw [A1f ⟨by omega, by omega, by omega⟩]; simp only [Option.bind_some, Int.toNat_natCast, List.take_length]
    · rw [if_pos (by omega), if_neg h]
      rfl
theorem A5X {b : List UInt8} (hb : b.length ≤ 140737488355328) : A0V.f b = some (b, false) := by
  unfold A0V.f; rw [A4y hb]; rfl
end Go.Gp
