/- What the statements say, of the plain functions. -/
import Derived.Test.YtploijfgnnkddaaDefs
import Derived.Test.YtploijfgnnkddaaLe
import Derived.Test.YtploijfgnnkddaaThInts
import Derived.Test.YtploijfgnnkddaaThPack
import Derived.Test.YtploijfgnnkddaaThMesg
import Derived.Test.YtploijfgnnkddaaThMesg2
import Derived.Test.YtploijfgnnkddaaThMesg3
import Derived.Test.YtploijfgnnkddaaThMesg4
import Derived.Test.YtploijfgnnkddaaThMesg5
import Derived.Test.YtploijfgnnkddaaThMesg6
import Derived.Test.YtploijfgnnkddaaThMsg
import Derived.Test.YtploijfgnnkddaaThMesg7
import Derived.Test.YtploijfgnnkddaaThMesg8
import Derived.Test.YtploijfgnnkddaaThMesgS
import Derived.Test.YtploijfgnnkddaaGpCrc
/- Sums of bytes, in plain words: what both packages tell. -/
namespace Go.Gp
open Go
theorem shr_toNat (c : UInt32) (k : Nat) (hk : k ≤ 32) : (toU32 (shr .u32 (c.toNat : Int) (k : Int))).toNat = c.toNat / 2 ^ k := by
  have h2 : shr .u32 (c.toNat : Int) (k : Int) = ((c.toNat / 2 ^ k : Nat) : Int) := by
    unfold shr
    rw [Int.toNat_natCast, show IntKind.u32.bits = 32 from rfl, Nat.min_eq_left hk, Int.fdiv_eq_ediv_of_nonneg _ (Int.le_of_lt (Int.pow_pos (by decide)))]
    norm_cast
  have h3 : c.toNat / 2 ^ k ≤ c.toNat := Nat.div_le_self _ _
  rw [h2]
  have := c.toNat_lt
  generalize c.toNat / 2 ^ k = q at h3 ⊢
  have h1 := toU32_toNat (q : Int)
  omega
theorem shr_one (c : UInt32) : toU32 (shr .u32 (c.toNat : Int) 1) = c >>> 1 := by
  apply UInt32.toNat_inj.1
  have := shr_toNat c 1 (by decide)
  rw [show ((1 : Nat) : Int) = 1 from rfl] at this
  rw [this, UInt32.toNat_shiftRight]
  rfl
theorem toU32_byte (b : UInt8) : toU32 (b.toNat : Int) = b.toUInt32 := by
  apply UInt32.toNat_inj.1
  have := toU32_toNat (b.toNat : Int)
  have := b.toNat_lt
  rw [UInt8.toNat_toUInt32]
  omega
theorem toU8_of (c : UInt32) (k : Nat) (hk : k ≤ 32) : toU8 ((toU32 (shr .u32 (c.toNat : Int) (k : Int))).toNat : Int) = UInt8.ofNat (c.toNat / 2 ^ k % 256) := by
  rw [shr_toNat c k hk]
  unfold toU8
  congr 1
theorem four_bytes (c : UInt32) : ([toU8 (c.toNat : Int), toU8 ((toU32 (shr .u32 (c.toNat : Int) 8)).toNat : Int), toU8 ((toU32 (shr .u32 (c.toNat : Int) 16)).toNat : Int), toU8 ((toU32 (shr .u32 (c.toNat : Int) 24)).toNat : Int)] : List UInt8) = le4 c := by
  have e8 := toU8_of c 8 (by decide)
  have e16 := toU8_of c 16 (by decide)
  have e24 := toU8_of c 24 (by decide)
  rw [show ((8 : Nat) : Int) = 8 from rfl] at e8
  rw [show ((16 : Nat) : Int) = 16 from rfl] at e16
  rw [show ((24 : Nat) : Int) = 24 from rfl] at e24
  rw [e8, e16, e24]
  unfold le4 toU8
  rfl
theorem next_iter {f : (UInt32 × Int → Option UInt32) → UInt32 × Int → Option UInt32} (h : ∀ ag (c : UInt32) (i : Nat), i < 8 → f ag (c, (i : Int)) = ag (stp c, ((i + 1 : Nat) : Int))) (he : ∀ ag c, f ag (c, 8) = some c) {K : Nat} (hK : 20 ≤ K) (c : UInt32) : iter f K (c, 0) = some (stp8 c) := by
  obtain ⟨k, rfl⟩ : ∃ k, K = k + 9 := ⟨K - 9, by omega⟩
  have e : ∀ (k i : Nat) (c : UInt32), i < 8 → iter f (k + 1) (c, (i : Int)) = iter f k (stp c, ((i + 1 : Nat) : Int)) := fun k i c hi => by rw [iter_succ, h _ _ _ hi]
  have e0 := e (k + 8) 0 c (by decide)
  rw [show ((0 : Nat) : Int) = 0 from rfl] at e0
  rw [show k + 9 = k + 8 + 1 from rfl, e0, e _ _ _ (by decide), e _ _ _ (by decide), e _ _ _ (by decide), e _ _ _ (by decide), e _ _ _ (by decide), e _ _ _ (by decide), e _ _ _ (by decide), iter_succ]
  exact he _ _
theorem next_step (c : UInt32) : (if ((c &&& (1 : UInt32)).toNat : Int) = ((1 : UInt32).toNat : Int) then (c >>> 1) ^^^ (3988292384 : UInt32) else c >>> 1) = stp c := by
  unfold stp
  have : (((c &&& (1 : UInt32)).toNat : Int) = ((1 : UInt32).toNat : Int)) ↔ c &&& 1 = 1 := by
    rw [← UInt32.toNat_inj]; omega
  by_cases h : c &&& 1 = 1
  · rw [if_pos h, if_pos (this.2 h)]
  · rw [if_neg h, if_neg (fun x => h (this.1 x))]
theorem crcNext_eq {K : Nat} (hK : 20 ≤ K) (c : UInt32) (b : UInt8) : crcs_Next.f K c b = some (nxt c b) := by
  unfold crcs_Next.f
  rw [toU32_byte]
  refine next_iter (f := fun again v => crcs_Next.B1 K (fun v => crcs_Next.J1 K v) again v.1 v.2) (fun ag c i hi => ?_) (fun ag c => ?_) hK _
  · dsimp only
    unfold crcs_Next.B1
    rw [if_pos (by omega), shr_one, ← next_step, w64_succ (by omega) (by omega)]
    split <;> rfl
  · dsimp only
    unfold crcs_Next.B1
    rw [if_neg (by decide)]
    rfl
theorem refNext_eq {K : Nat} (hK : 20 ≤ K) (c : UInt32) (b : UInt8) : hocketref1_Next.f K c b = some (nxt c b) := by
  unfold hocketref1_Next.f
  rw [toU32_byte]
  refine next_iter (f := fun again v => hocketref1_Next.B1 K (fun v => hocketref1_Next.J1 K v) again v.1 v.2) (fun ag c i hi => ?_) (fun ag c => ?_) hK _
  · dsimp only
    unfold hocketref1_Next.B1
    rw [if_pos (by omega), shr_one, ← next_step, w64_succ (by omega) (by omega)]
    split <;> rfl
  · dsimp only
    unfold hocketref1_Next.B1
    rw [if_neg (by decide)]
    rfl
theorem sum_iter {b : List UInt8} {f : (UInt32 × Int → Option UInt32) → UInt32 × Int → Option UInt32} (h : ∀ ag (c : UInt32) (i : Nat) (hi : i < b.length), f ag (c, (i : Int)) = ag (nxt c b[i], ((i + 1 : Nat) : Int))) (he : ∀ ag c, f ag (c, (b.length : Int)) = some (c ^^^ 0xFFFFFFFF)) :
    ∀ (n i : Nat) (c : UInt32) (K : Nat), i + n = b.length → n < K → iter f K (c, (i : Int)) = some (crcF c (b.drop i) ^^^ 0xFFFFFFFF) := by
  intro n
  induction n with
  | zero =>
    intro i c K hi hK
    obtain ⟨k, rfl⟩ : ∃ k, K = k + 1 := ⟨K - 1, by omega⟩
    rw [iter_succ, show i = b.length by omega, he, List.drop_length]
    rfl
  | succ n ih =>
    intro i c K hi hK
    obtain ⟨k, rfl⟩ : ∃ k, K = k + 1 := ⟨K - 1, by omega⟩
    have hl : i < b.length := by omega
    rw [iter_succ, h _ _ _ hl, ih (i + 1) _ k (by omega) (by omega), List.drop_eq_getElem_cons hl]
    rfl
theorem sum_eq {K : Nat} {b : List UInt8} (hK : 20 ≤ K) (hb : b.length < K) (hb2 : b.length ≤ 140737488355328) : crcs_Sum.f K b = some (crc b) := by
  unfold crcs_Sum.f
  refine (sum_iter (b := b) (f := fun again v => crcs_Sum.B1 K b (fun v => crcs_Sum.J1 K v) again v.1 v.2) (fun ag c i hi => ?_) (fun ag c => ?_) b.length 0 _ K (by omega) hb)
  · dsimp only
    unfold crcs_Sum.B1
    rw [if_pos (by omega), ix_get (by omega) (by simpa using hi)]
    simp only [Option.bind_some, Int.toNat_natCast]
    rw [crcNext_eq hK]
    simp only [Option.bind_some]
    rw [w64_succ (by omega) (by omega)]
    rfl
  · dsimp only
    unfold crcs_Sum.B1
    rw [if_neg (by omega)]
    rfl
theorem sum1_eq {K : Nat} {b : List UInt8} (hK : 20 ≤ K) (hb : b.length < K) (hb2 : b.length ≤ 140737488355328) : hocketref1_Sum.f K b = some (crc b) := by
  unfold hocketref1_Sum.f
  refine (sum_iter (b := b) (f := fun again v => hocketref1_Sum.B1 K b (fun v => hocketref1_Sum.J1 K v) again v.1 v.2) (fun ag c i hi => ?_) (fun ag c => ?_) b.length 0 _ K (by omega) hb)
  · dsimp only
    unfold hocketref1_Sum.B1
    rw [if_pos (by omega), ix_get (by omega) (by simpa using hi)]
    simp only [Option.bind_some, Int.toNat_natCast]
    rw [refNext_eq hK]
    simp only [Option.bind_some]
    rw [w64_succ (by omega) (by omega)]
    rfl
  · dsimp only
    unfold hocketref1_Sum.B1
    rw [if_neg (by omega)]
    rfl
/-- Bytes with their sum ahead. -/
def sealB (b : List UInt8) : List UInt8 := le4 (crc b) ++ b
theorem sealB_len (b : List UInt8) : (sealB b).length = b.length + 4 := by unfold sealB; rw [List.length_append, le4_len]; omega
theorem four_eq {K : Nat} {b : List UInt8} (hK : 20 ≤ K) (hb : b.length < K) (hb2 : b.length ≤ 1000000000) : hocketref1_Four.f K b = some (sealB b) := by
  unfold hocketref1_Four.f
  rw [sum1_eq hK hb (by omega)]
  simp only [Option.bind_some]
  rw [four_bytes, app_eq (by rw [le4_len]; omega)]
  rfl
/-- What stands behind a right sum. -/
def unsealB (b : List UInt8) : Option (List UInt8) := if 4 ≤ b.length ∧ b.take 4 = le4 (crc (b.drop 4)) then some (b.drop 4) else none
theorem unsealB_sealB (b : List UInt8) : unsealB (sealB b) = some b := by
  unfold unsealB
  have e1 : (sealB b).take 4 = le4 (crc b) := by unfold sealB; exact List.take_left' (le4_len _)
  have e2 : (sealB b).drop 4 = b := by unfold sealB; exact List.drop_left' (le4_len _)
  rw [e1, e2, if_pos ⟨by rw [sealB_len]; omega, rfl⟩]
theorem unsealB_some {b x : List UInt8} (h : unsealB b = some x) : b = sealB x := by
  unfold unsealB at h
  split at h
  · rename_i h1
    cases h
    unfold sealB
    rw [← h1.2, List.take_append_drop]
  · cases h
theorem take4 {b : List UInt8} (h : 4 ≤ b.length) : b.take 4 = [b[0], b[1], b[2], b[3]] := by
  match b, h with
  | x0 :: x1 :: x2 :: x3 :: r, _ => rfl
theorem four4 {a b c d e f g h : UInt8} : [a, b, c, d] = [e, f, g, h] ↔ a = e ∧ b = f ∧ c = g ∧ d = h := by simp
end Go.Gp
