/- What the statements say, of the plain functions. -/
import Derived.Test.YtploijfgnnkddaaDefs
import Derived.Test.YtploijfgnnkddaaLe
import Derived.Test.YtploijfgnnkddaaThInts
import Derived.Test.YtploijfgnnkddaaThPack
import Derived.Test.YtploijfgnnkddaaThMesg
import Derived.Test.YtploijfgnnkddaaThMesg2
import Derived.Test.YtploijfgnnkddaaThMesg3
import Derived.Test.YtploijfgnnkddaaThMesg4
import Derived.Test.YtploijfgnnkddaaThMesg5
import Derived.Test.YtploijfgnnkddaaThMesg6
import Derived.Test.YtploijfgnnkddaaThMsg
import Derived.Test.YtploijfgnnkddaaThMesg7
import Derived.Test.YtploijfgnnkddaaThMesg8
import Derived.Test.YtploijfgnnkddaaThMesgS
import Derived.Test.YtploijfgnnkddaaGpCrc
import Derived.Test.YtploijfgnnkddaaThCrc
import Derived.Test.YtploijfgnnkddaaThFram
/- Numbers as bytes, in plain words: what the document's reader tells. -/
namespace Go.Gp
open Go
def rnum1 (top : Int) (b : List UInt8) (bad : Bool) : Int × List UInt8 × Bool :=
  if bad = true then (0, b, true) else match rd top b with
  | some p => ((p.1 : Int), p.2, false)
  | none => (0, b, true)
theorem rnum1_eq {K : Nat} (hK : 20 ≤ K) {b : List UInt8} (_hb : b.length ≤ 140737488355328) (bad : Bool) (top : Int) : hocketref1_Reader_Num.f K b bad top = some (rnum1 top b bad) := by
  unfold hocketref1_Reader_Num.f
  cases bad with
  | true =>
    unfold hocketref1_Reader_Num.L1
    obtain ⟨k, rfl⟩ : ∃ k, K = k + 1 := ⟨K - 1, by omega⟩
    rw [iter_succ]
    unfold hocketref1_Reader_Num.B1
    rw [if_pos rfl]
    rfl
  | false =>
  have hs : ∀ i : Nat, i ≤ 8 → w64 ((i : Int) + 1) = ((i + 1 : Nat) : Int) := fun i h => by rw [w64_id (by omega)]; omega
  have hc7 : ∀ c : UInt8, wu64 ((c &&& 127).toNat : Int) = ((c.toNat % 128 : Nat) : Int) := fun c => by rw [and127, wu64_id (by omega)]
  have hm : wu64 (mn (mx top 0) 4611686018427387904) = (held2 top : Int) := by
    have := held2_le top
    rw [mnmx, wu64_id (by omega)]
  have hgo : ∀ ag (x i : Nat) (c : UInt8) t, b.drop i = c :: t → i < b.length → i ≤ 8 → hocketref1_Reader_Num.B1 K false b top (fun v => hocketref1_Reader_Num.J1 K b v) ag (x : Int) (i : Int) = hocketref1_Reader_Num.J2 K (fun v => hocketref1_Reader_Num.J1 K b v) b i x false top ag false := fun ag x i c t hc hl hi => by
    unfold hocketref1_Reader_Num.B1
    rw [if_neg (by simp), if_neg (by omega), decide_eq_false (by omega)]
  have := rd_iter (f := fun again v => hocketref1_Reader_Num.B1 K false b top (fun v => hocketref1_Reader_Num.J1 K b v) again v.1 v.2) (b := b) (good := fun n t => if n ≤ held2 top then some ((n : Int), t, false) else some (0, b, true)) (no := some (0, b, true))
    (fun ag x i hi h9 => by
      simp only
      unfold hocketref1_Reader_Num.B1
      rw [if_neg (by simp), if_pos (by omega)]
      rfl)
    (fun ag x i c t hc hl hi h0 => by
      simp only
      by_cases h8 : 8 < i
      · unfold hocketref1_Reader_Num.B1
        rw [if_neg (by simp), if_neg (by omega), decide_eq_true (by omega)]
        rfl
      · rw [hgo ag x i c t hc hl (by omega)]
        have hz : c.toNat = 0 ∧ 0 < i := by omega
        unfold hocketref1_Reader_Num.J2
        rw [if_neg (by simp), ix_head hc]
        simp only [Option.bind_some]
        rw [if_pos (by rw [hz.1]; decide), if_pos (by rw [hz.1]; rfl), hs i (by omega), if_pos (by omega)]
        rfl)
    (fun ag x i c t hc hl hi hx hsum h0 h1 => by
      simp only
      rw [hgo ag x i c t hc hl hi]
      unfold hocketref1_Reader_Num.J2
      rw [if_neg (by simp), ix_head hc]
      simp only [Option.bind_some]
      rw [if_neg (by rw [show (128 : UInt8).toNat = 128 from rfl]; omega), hc7, shl7u _ _ hi (by omega), bor_disju _ _ _ hx (by omega), hs i hi])
    (fun ag x i c t hc hl hi hx hsum h0 h1 => by
      simp only
      rw [hgo ag x i c t hc hl hi]
      unfold hocketref1_Reader_Num.J2
      rw [if_neg (by simp), ix_head hc]
      simp only [Option.bind_some]
      rw [if_pos (by rw [show (128 : UInt8).toNat = 128 from rfl]; omega), hc7, shl7u _ _ hi (by omega), bor_disju _ _ _ hx (by omega), hm, hs i hi]
      have hj : ∀ q : Bool, q = decide (((x + 2 ^ (7 * i) * (c.toNat % 128) : Nat) : Int) > (held2 top : Int)) → hocketref1_Reader_Num.J3 K (fun v => hocketref1_Reader_Num.J1 K b v) b i x c false q = (if x + 2 ^ (7 * i) * (c.toNat % 128) ≤ held2 top then some (((x + 2 ^ (7 * i) * (c.toNat % 128) : Nat) : Int), t, false) else some (0, b, true)) := fun q hq => by
        unfold hocketref1_Reader_Num.J3
        by_cases hle : x + 2 ^ (7 * i) * (c.toNat % 128) ≤ held2 top
        · rw [hq, decide_eq_false (by omega), if_neg (by simp), if_pos hle, hs i hi, cut_head hc hl]
          simp only [Option.bind_some]
          rw [hc7, shl7u _ _ hi (by omega), bor_disju _ _ _ hx (by omega), w64_id (by omega)]
        · rw [hq, decide_eq_true (by omega), if_pos rfl, if_neg hle]
          rfl
      by_cases hz : c.toNat = 0
      · rw [if_pos (by rw [hz]; rfl), if_neg (by omega)]
        exact hj _ rfl
      · rw [if_neg (by rw [show (0 : UInt8).toNat = 0 from rfl]; omega)]
        exact hj _ rfl) K 0 0 (by omega) (by omega) (by simp)
  refine Eq.trans ?_ (this.trans ?_)
  · rfl
  · unfold rnum1 rd
    rw [List.drop_zero, if_neg (by simp)]
    cases rdA 0 b with
    | none => rfl
    | some p =>
      simp only [Nat.mul_zero, Nat.pow_zero, Nat.one_mul, Nat.zero_add]
      by_cases hle : p.1 ≤ held2 top
      · rw [if_pos hle, if_pos hle]
      · rw [if_neg hle, if_neg hle]
def rbytes1 (top : Int) (b : List UInt8) (bad : Bool) : List UInt8 × List UInt8 × Bool :=
  if bad = true then ([], b, true) else match rdB top b with
  | some p => (p.1, p.2, false)
  | none => ([], b, true)
theorem rbytes1_eq {K : Nat} (hK : 20 ≤ K) {b : List UInt8} (hb : b.length ≤ 140737488355328) (bad : Bool) (top : Int) : hocketref1_Reader_Bytes.f K b bad top = some (rbytes1 top b bad) := by
  unfold hocketref1_Reader_Bytes.f rbytes1 rdB
  rw [rnum1_eq hK hb]
  simp only [Option.bind_some]
  unfold rnum1
  cases bad with
  | true => rfl
  | false =>
  cases hr : rd top b with
  | none => rfl
  | some p =>
    obtain ⟨n, r⟩ := p
    have hl := rd_len hr
    simp only [Bool.false_eq_true, if_false]
    show hocketref1_Reader_Bytes.J1 K b ((n : Int), r, false) (decide ((n : Int) > (r.length : Int))) = _
    unfold hocketref1_Reader_Bytes.J1
    dsimp only
    by_cases h : n ≤ r.length
    · rw [decide_eq_false (by omega), if_neg (by simp), if_pos h, cut_eq ⟨by omega, by omega, by omega⟩]
      simp only [Option.bind_some, Int.toNat_natCast, Int.toNat_zero, List.drop_zero]
      rw [app_eq (by rw [List.length_take]; simp; omega)]
      simp only [Option.bind_some, List.nil_append]
      rw [cut_eq ⟨by omega, by omega, by omega⟩]
      simp only [Option.bind_some, Int.toNat_natCast, List.take_length]
    · rw [decide_eq_true (by omega), if_pos rfl, if_neg h]
/-- What both readers hold, side by side. -/
def RR (b : List UInt8) (bad : Bool) (B : List UInt8) (Bad : Bool) : Prop := bad = Bad ∧ (if bad = true then b = [] else b = B)
theorem rd_nil (top : Int) : rd top [] = none := rfl
theorem rdB_nil (top : Int) : rdB top [] = none := rfl
theorem RR.num {b B : List UInt8} {bad Bad : Bool} (h : RR b bad B Bad) (top : Int) : (rnum top b bad).1 = (rnum1 top B Bad).1 ∧ RR (rnum top b bad).2.1 (rnum top b bad).2.2 (rnum1 top B Bad).2.1 (rnum1 top B Bad).2.2 := by
  obtain ⟨rfl, h⟩ := h
  unfold rnum rnum1 RR
  cases bad with
  | true =>
    have h : b = [] := by simpa using h
    subst h
    rw [rd_nil]; simp
  | false =>
    have h : b = B := by simpa using h
    subst h
    rw [if_neg (by simp)]
    cases rd top b <;> simp
theorem RR.bytes {b B : List UInt8} {bad Bad : Bool} (h : RR b bad B Bad) (top : Int) : (rbytes top b bad).1 = (rbytes1 top B Bad).1 ∧ RR (rbytes top b bad).2.1 (rbytes top b bad).2.2 (rbytes1 top B Bad).2.1 (rbytes1 top B Bad).2.2 := by
  obtain ⟨rfl, h⟩ := h
  unfold rbytes rbytes1 RR
  cases bad with
  | true =>
    have h : b = [] := by simpa using h
    subst h
    rw [rdB_nil]; simp
  | false =>
    have h : b = B := by simpa using h
    subst h
    rw [if_neg (by simp)]
    cases rdB top b <;> simp
theorem rnum_le (top : Int) (b : List UInt8) (bad : Bool) : (rnum top b bad).2.1.length ≤ b.length := by
  unfold rnum
  cases h : rd top b with
  | none => simp
  | some p => exact Nat.le_of_lt (rd_len (n := p.1) (r := p.2) h)
theorem rnum1_le (top : Int) (b : List UInt8) (bad : Bool) : (rnum1 top b bad).2.1.length ≤ b.length := by
  unfold rnum1
  cases bad with
  | true => simp
  | false =>
    rw [if_neg (by simp)]
    cases h : rd top b with
    | none => simp
    | some p => exact Nat.le_of_lt (rd_len (n := p.1) (r := p.2) h)
theorem rbytes_le (top : Int) (b : List UInt8) (bad : Bool) : (rbytes top b bad).2.1.length ≤ b.length ∧ (rbytes top b bad).1.length ≤ b.length := by
  unfold rbytes
  cases h : rdB top b with
  | none => simp
  | some p =>
    have := rdB_some (x := p.1) (r := p.2) h
    have e := congrArg List.length this.2
    simp only [List.length_append] at e
    simp only; omega
theorem rbytes1_le (top : Int) (b : List UInt8) (bad : Bool) : (rbytes1 top b bad).2.1.length ≤ b.length ∧ (rbytes1 top b bad).1.length ≤ b.length := by
  unfold rbytes1
  cases bad with
  | true => simp
  | false =>
    rw [if_neg (by simp)]
    cases h : rdB top b with
    | none => simp
    | some p =>
      have := rdB_some (x := p.1) (r := p.2) h
      have e := congrArg List.length this.2
      simp only [List.length_append] at e
      simp only; omega
end Go.Gp
