/- What the statements say, of the plain functions. -/
import Derived.Test.YtploijfgnnkddaaGreatDefs
import Derived.Test.YtploijfgnnkddaaGreatLe
import Derived.Test.YtploijfgnnkddaaGreatThInts
import Derived.Test.YtploijfgnnkddaaGreatThPack
import Derived.Test.YtploijfgnnkddaaGreatThMesg
import Derived.Test.YtploijfgnnkddaaGreatThMesg2
import Derived.Test.YtploijfgnnkddaaGreatThMesg3
import Derived.Test.YtploijfgnnkddaaGreatThMesg4
import Derived.Test.YtploijfgnnkddaaGreatThMesg5
import Derived.Test.YtploijfgnnkddaaGreatThMesg6
import Derived.Test.YtploijfgnnkddaaGreatThMsg
import Derived.Test.YtploijfgnnkddaaGreatThMesg7
import Derived.Test.YtploijfgnnkddaaGreatThMesg8
import Derived.Test.YtploijfgnnkddaaGreatThMesgS
import Derived.Test.YtploijfgnnkddaaGreatGpCrc
/- Sums of bytes, in plain words: what both packages tell. -/
namespace Go.Gp
open Go
theorem A6v (c : UInt32) (k : Nat) (hk : k ≤ 32) : (C2 (shr .u32 (c.toNat : Int) (k : Int))).toNat = c.toNat / 2 ^ k := by
  have h2 : shr .u32 (c.toNat : Int) (k : Int) = ((c.toNat / 2 ^ k : Nat) : Int) := by
    unfold shr; rw [Int.toNat_natCast, show IntKind.u32.bits = 32 from rfl, Nat.min_eq_left hk, Int.fdiv_eq_ediv_of_nonneg _ (Int.le_of_lt (Int.pow_pos (by decide)))]
    norm_cast
  have h3 : c.toNat / 2 ^ k ≤ c.toNat := Nat.div_le_self _ _; rw [h2]; have := c.toNat_lt; generalize c.toNat / 2 ^ k = q at h3 ⊢; have h1 := A0R (q : Int); omega
theorem A8h (c : UInt32) : C2 (shr .u32 (c.toNat : Int) 1) = c >>> 1 := by
  apply UInt32.toNat_inj.1; have := A6v c 1 (by decide); rw [show ((1 : Nat) : Int) = 1 from rfl] at this; rw [this, UInt32.toNat_shiftRight]
  rfl
theorem A5z (b : UInt8) : C2 (b.toNat : Int) = b.toUInt32 := by
  apply UInt32.toNat_inj.1; have := A0R (b.toNat : Int); have := b.toNat_lt; rw [UInt8.toNat_toUInt32]; omega
theorem A5S (c : UInt32) (k : Nat) (hk : k ≤ 32) : T1 ((C2 (shr .u32 (c.toNat : Int) (k : Int))).toNat : Int) = UInt8.ofNat (c.toNat / 2 ^ k % 256) := by
  rw [A6v c k hk]; unfold T1
  congr 1
theorem A4w (c : UInt32) : ([T1 (c.toNat : Int), T1 ((C2 (shr .u32 (c.toNat : Int) 8)).toNat : Int), T1 ((C2 (shr .u32 (c.toNat : Int) 16)).toNat : Int), T1 ((C2 (shr .u32 (c.toNat : Int) 24)).toNat : Int)] : List UInt8) = le4 c := by
  have e8 := A5S c 8 (by decide); have e16 := A5S c 16 (by decide); have e24 := A5S c 24 (by decide); rw [show ((8 : Nat) : Int) = 8 from rfl] at e8; rw [show ((16 : Nat) : Int) = 16 from rfl] at e16; rw [show ((24 : Nat) : Int) = 24 from rfl] at e24; rw [e8, e16, e24]; unfold le4 T1
  rfl
theorem A6H {f : (UInt32 × Int → Option UInt32) → UInt32 × Int → Option UInt32} (h : ∀ ag (c : UInt32) (i : Nat), i < 8 → f ag (c, (i : Int)) = ag (stp c, ((i + 1 : Nat) : Int))) (he : ∀ ag c, f ag (c, 8) = some c) {K : Nat} (hK : 20 ≤ K) (c : UInt32) : S4 f K (c, 0) = some (B1D c) := by
  obtain ⟨k, rfl⟩ : ∃ k, K = k + 9 := ⟨K - 9, by omega⟩; have e : ∀ (k i : Nat) (c : UInt32), i < 8 → S4 f (k + 1) (c, (i : Int)) = S4 f k (stp c, ((i + 1 : Nat) : Int)) := fun k i c hi => by rw [X5, h _ _ _ hi]
  have e0 := e (k + 8) 0 c (by decide); rw [show ((0 : Nat) : Int) = 0 from rfl] at e0; rw [show k + 9 = k + 8 + 1 from rfl, e0, e _ _ _ (by decide), e _ _ _ (by decide), e _ _ _ (by decide), e _ _ _ (by decide), e _ _ _ (by decide), e _ _ _ (by decide), e _ _ _ (by decide), X5]; exact he _ _
theorem A6G (c : UInt32) : (if ((c &&& (1 : UInt32)).toNat : Int) = ((1 : UInt32).toNat : Int) then (c >>> 1) ^^^ (3988292384 : UInt32) else c >>> 1) = stp c := by
  unfold stp; have : (((c &&& (1 : UInt32)).toNat : Int) = ((1 : UInt32).toNat : Int)) ↔ c &&& 1 = 1 := by
    rw [← UInt32.toNat_inj]; omega
  by_cases h : c &&& 1 = 1
  · rw [if_pos h, if_pos (this.2 h)]
  · rw [if_neg h, if_neg (fun x => h (this.1 x))]
theorem A8Y {K : Nat} (hK : 20 ≤ K) (c : UInt32) (b : UInt8) : S7.f K c b = some (nxt c b) := by
  unfold S7.f; rw [A5z]; refine A6H (f := fun again v => S7.B1 K (fun v => S7.J1 K v) again v.1 v.2) (fun ag c i hi => ?_) (fun ag c => ?_) hK _
  · dsimp only; unfold S7.B1; rw [if_pos (by omega), A8h, ← A6G, A2w (by omega) (by omega)]; split <;> rfl
  · dsimp only; unfold S7.B1; rw [if_neg (by decide)]
    rfl
theorem A8F {K : Nat} (hK : 20 ≤ K) (c : UInt32) (b : UInt8) : J8.f K c b = some (nxt c b) := by
  unfold J8.f; rw [A5z]; refine A6H (f := fun again v => J8.B1 K (fun v => J8.J1 K v) again v.1 v.2) (fun ag c i hi => ?_) (fun ag c => ?_) hK _
  · dsimp only; unfold J8.B1; rw [if_pos (by omega), A8h, ← A6G, A2w (by omega) (by omega)]; split <;> rfl
  · dsimp only; unfold J8.B1; rw [if_neg (by decide)]
    rfl
theorem A7l {b : List UInt8} {f : (UInt32 × Int → Option UInt32) → UInt32 × Int → Option UInt32} (h : ∀ ag (c : UInt32) (i : Nat) (hi : i < b.length), f ag (c, (i : Int)) = ag (nxt c b[i], ((i + 1 : Nat) : Int))) (he : ∀ ag c, f ag (c, (b.length : Int)) = some (c ^^^ 0xFFFFFFFF)) :
    ∀ (n i : Nat) (c : UInt32) (K : Nat), i + n = b.length → n < K → S4 f K (c, (i : Int)) = some (B2f c (b.drop i) ^^^ 0xFFFFFFFF) := by
  intro n
  induction n with
  | zero =>
    intro i c K hi hK; obtain ⟨k, rfl⟩ : ∃ k, K = k + 1 := ⟨K - 1, by omega⟩; rw [X5, show i = b.length by omega, he, List.drop_length]
    rfl
  | succ n ih =>
    intro i c K hi hK; obtain ⟨k, rfl⟩ : ∃ k, K = k + 1 := ⟨K - 1, by omega⟩; have hl : i < b.length := by omega
    rw [X5, h _ _ _ hl, ih (i + 1) _ k (by omega) (by omega), List.drop_eq_getElem_cons hl]
    rfl
theorem B1C {K : Nat} {b : List UInt8} (hK : 20 ≤ K) (hb : b.length < K) (hb2 : b.length ≤ 140737488355328) : U2.f K b = some (crc b) := by
  unfold U2.f; refine (A7l (b := b) (f := fun again v => U2.B1 K b (fun v => U2.J1 K v) again v.1 v.2) (fun ag c i hi => ?_) (fun ag c => ?_) b.length 0 _ K (by omega) hb)
  · dsimp only; unfold U2.B1; rw [if_pos (by omega), O7 (by omega) (by simpa using hi)]; simp only [Option.bind_some, Int.toNat_natCast]; rw [A8Y hK]; simp only [Option.bind_some]; rw [A2w (by omega) (by omega)]
    rfl
  · dsimp only; unfold U2.B1; rw [if_neg (by omega)]
    rfl
theorem A8f {K : Nat} {b : List UInt8} (hK : 20 ≤ K) (hb : b.length < K) (hb2 : b.length ≤ 140737488355328) : J7.f K b = some (crc b) := by
  unfold J7.f; refine (A7l (b := b) (f := fun again v => J7.B1 K b (fun v => J7.J1 K v) again v.1 v.2) (fun ag c i hi => ?_) (fun ag c => ?_) b.length 0 _ K (by omega) hb)
  · dsimp only; unfold J7.B1; rw [if_pos (by omega), O7 (by omega) (by simpa using hi)]; simp only [Option.bind_some, Int.toNat_natCast]; rw [A8F hK]; simp only [Option.bind_some]; rw [A2w (by omega) (by omega)]
    rfl
  · dsimp only; unfold J7.B1; rw [if_neg (by omega)]
    rfl
def A1K (b : List UInt8) : List UInt8 := le4 (crc b) ++ b
theorem A3N (b : List UInt8) : (A1K b).length = b.length + 4 := by unfold A1K; rw [List.length_append, A5a]; omega
theorem B1o {K : Nat} {b : List UInt8} (hK : 20 ≤ K) (hb : b.length < K) (hb2 : b.length ≤ 1000000000) : A0B.f K b = some (A1K b) := by
  unfold A0B.f; rw [A8f hK hb (by omega)]; simp only [Option.bind_some]; rw [A4w, R6 (by rw [A5a]; omega)]
  rfl
def A0e (b : List UInt8) : Option (List UInt8) := if 4 ≤ b.length ∧ b.take 4 = le4 (crc (b.drop 4)) then some (b.drop 4) else none
theorem A6S (b : List UInt8) : A0e (A1K b) = some b := by
  unfold A0e; have e1 : (A1K b).take 4 = le4 (crc b) := by unfold A1K; exact List.take_left' (A5a _)
  have e2 : (A1K b).drop 4 = b := by unfold A1K; exact List.drop_left' (A5a _)
  rw [e1, e2, if_pos ⟨by rw [A3N]; omega, rfl⟩]
theorem A4G {b x : List UInt8} (h : A0e b = some x) : b = A1K x := by
  unfold A0e at h; split at h
  · rename_i h1
    cases h; unfold A1K; rw [← h1.2, List.take_append_drop]
  · cases h
theorem B0B {b : List UInt8} (h : 4 ≤ b.length) : b.take 4 = [b[0], b[1], b[2], b[3]] := by
  match b, h with
  | x0 :: x1 :: x2 :: x3 :: r, _ => rfl
theorem B0F {a b c d e f g h : UInt8} : [a, b, c, d] = [e, f, g, h] ↔ a = e ∧ b = f ∧ c = g ∧ d = h := by simp
theorem A9g {K : Nat} {b : List UInt8} (hK : 20 ≤ K) (hb : b.length < K) (hb2 : b.length ≤ 1000000000) : O2.f K b = some (match A0e b with | some x => (x, true) | none => ([], false)) := by
  unfold O2.f A0e
  by_cases h4 : b.length < 4
  · rw [if_pos (by omega), if_neg (by omega)]
  · rw [if_neg (by omega)]; have hcut : cut b 4 (b.length : Int) = some (b.drop 4) := by
      rw [A1f ⟨by omega, by omega, by omega⟩, Int.toNat_natCast, List.take_length]
      rfl
    rw [hcut]; simp only [Option.bind_some]; rw [A8f hK (by rw [List.length_drop]; omega) (by rw [List.length_drop]; omega)]; simp only [Option.bind_some]; obtain ⟨c, hc⟩ : ∃ c, c = crc (b.drop 4) := ⟨_, rfl⟩; rw [← hc]; have e0 := O7 (xs := b) (i := 0) (by omega) (by simp; omega); have e1 := O7 (xs := b) (i := 1) (by omega) (by simp; omega); have e2 := O7 (xs := b) (i := 2) (by omega) (by simp; omega); have e3 := O7 (xs := b) (i := 3) (by omega) (by simp; omega); have ht : b.take 4 = [b[0], b[1], b[2], b[3]] := B0B (by omega)
    have hj : ∀ q : Bool, (q = false → b.take 4 = le4 c) → (q = true → b.take 4 ≠ le4 c) → O2.J1 K b q = some (match if 4 ≤ b.length ∧ b.take 4 = le4 c then some (b.drop 4) else none with | some x => (x, true) | none => ([], false)) := fun q h1 h2 => by
      unfold O2.J1
      cases q with
      | true => rw [if_pos rfl, if_neg (fun h => h2 rfl h.2)]
      | false =>
        rw [if_neg (by simp), if_pos ⟨by omega, h1 rfl⟩, hcut]; simp only [Option.bind_some]; rw [R6 (by simp; omega)]
        rfl
    rw [ht] at hj; rw [← A4w] at hj; rw [← A4w, ht]; rw [e0]; simp only [Option.bind_some, Int.toNat_zero, List.cons.injEq, and_true]; have nat : ∀ x y : UInt8, ((x.toNat : Int) = (y.toNat : Int)) ↔ x = y := fun x y => by rw [← UInt8.toNat_inj]; omega
    simp only [ne_eq, B0F] at hj
    by_cases q0 : b[0] = T1 (c.toNat : Int)
    · rw [if_pos ((nat _ _).2 q0), e1]; simp only [Option.bind_some, Int.toNat_one]
      by_cases q1 : b[1] = T1 ((C2 (shr .u32 (c.toNat : Int) 8)).toNat : Int)
      · rw [if_pos ((nat _ _).2 q1), e2]; simp only [Option.bind_some]
        by_cases q2 : b[2] = T1 ((C2 (shr .u32 (c.toNat : Int) 16)).toNat : Int)
        · rw [if_pos (by rw [nat]; exact q2), e3]; simp only [Option.bind_some]; refine hj _ (fun h => ⟨q0, q1, q2, ?_⟩) (fun h h2 => ?_)
          · exact (nat _ _).1 (by simpa using h)
          · have := (nat b[3] _).2 h2.2.2.2; rw [bne_iff_ne] at h; exact h this
        · rw [if_neg (by rw [nat]; exact q2)]; exact hj true (fun h => by cases h) (fun _ h => q2 h.2.2.1)
      · rw [if_neg (by rw [nat]; exact q1)]; exact hj true (fun h => by cases h) (fun _ h => q1 h.2.1)
    · rw [if_neg (by rw [nat]; exact q0)]; exact hj true (fun h => by cases h) (fun _ h => q0 h.1)
end Go.Gp
