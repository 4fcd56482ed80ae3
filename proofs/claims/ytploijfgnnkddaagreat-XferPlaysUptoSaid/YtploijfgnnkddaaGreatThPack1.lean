/- What the statements say, of the plain functions. -/
import Derived.Test.YtploijfgnnkddaaGreatDefs
import Derived.Test.YtploijfgnnkddaaGreatLe
import Derived.Test.YtploijfgnnkddaaGreatThInts
import Derived.Test.YtploijfgnnkddaaGreatThPack
import Derived.Test.YtploijfgnnkddaaGreatThMesg
import Derived.Test.YtploijfgnnkddaaGreatThMesg2
import Derived.Test.YtploijfgnnkddaaGreatThMesg3
import Derived.Test.YtploijfgnnkddaaGreatThMesg4
import Derived.Test.YtploijfgnnkddaaGreatThMesg5
import Derived.Test.YtploijfgnnkddaaGreatThMesg6
import Derived.Test.YtploijfgnnkddaaGreatThMsg
import Derived.Test.YtploijfgnnkddaaGreatThMesg7
import Derived.Test.YtploijfgnnkddaaGreatThMesg8
import Derived.Test.YtploijfgnnkddaaGreatThMesgS
import Derived.Test.YtploijfgnnkddaaGreatGpCrc
import Derived.Test.YtploijfgnnkddaaGreatThCrc
import Derived.Test.YtploijfgnnkddaaGreatThFram
/- Numbers as bytes, in plain words: what the document's reader tells. -/
namespace Go.Gp
open Go
def O5 (top : Int) (b : List UInt8) (bad : Bool) : Int × List UInt8 × Bool :=
  if bad = true then (0, b, true) else match rd top b with
  | some p => ((p.1 : Int), p.2, false)
  | none => (0, b, true)
theorem Y4 {K : Nat} (hK : 20 ≤ K) {b : List UInt8} (_hb : b.length ≤ 140737488355328) (bad : Bool) (top : Int) : A2.f K b bad top = some (O5 top b bad) := by
  unfold A2.f
  cases bad with
  | true =>
    unfold A2.L1; obtain ⟨k, rfl⟩ : ∃ k, K = k + 1 := ⟨K - 1, by omega⟩; rw [X5]; unfold A2.B1; rw [if_pos rfl]
    rfl
  | false =>
  have hs : ∀ i : Nat, i ≤ 8 → w64 ((i : Int) + 1) = ((i + 1 : Nat) : Int) := fun i h => by rw [T9 (by omega)]; omega
  have hc7 : ∀ c : UInt8, R7 ((c &&& 127).toNat : Int) = ((c.toNat % 128 : Nat) : Int) := fun c => by rw [A7O, A4b (by omega)]
  have hm : R7 (mn (mx top 0) 4611686018427387904) = (I8 top : Int) := by
    have := A5o top; rw [B1Y, A4b (by omega)]
  have hgo : ∀ ag (x i : Nat) (c : UInt8) t, b.drop i = c :: t → i < b.length → i ≤ 8 → A2.B1 K false b top (fun v => A2.J1 K b v) ag (x : Int) (i : Int) = A2.J2 K (fun v => A2.J1 K b v) b i x false top ag false := fun ag x i c t hc hl hi => by
    unfold A2.B1; rw [if_neg (by simp), if_neg (by omega), decide_eq_false (by omega)]
  have := A8j (f := fun again v => A2.B1 K false b top (fun v => A2.J1 K b v) again v.1 v.2) (b := b) (good := fun n t => if n ≤ I8 top then some ((n : Int), t, false) else some (0, b, true)) (no := some (0, b, true))
    (fun ag x i hi h9 => by
      simp only; unfold A2.B1; rw [if_neg (by simp), if_pos (by omega)]
      rfl)
    (fun ag x i c t hc hl hi h0 => by
      simp only
      by_cases h8 : 8 < i
      · unfold A2.B1; rw [if_neg (by simp), if_neg (by omega), decide_eq_true (by omega)]
        rfl
      · rw [hgo ag x i c t hc hl (by omega)]; have hz : c.toNat = 0 ∧ 0 < i := by omega
        unfold A2.J2; rw [if_neg (by simp), A4h hc]; simp only [Option.bind_some]; rw [if_pos (by rw [hz.1]; decide), if_pos (by rw [hz.1]; rfl), hs i (by omega), if_pos (by omega)]
        rfl)
    (fun ag x i c t hc hl hi hx hsum h0 h1 => by
      simp only; rw [hgo ag x i c t hc hl hi]; unfold A2.J2; rw [if_neg (by simp), A4h hc]; simp only [Option.bind_some]; rw [if_neg (by rw [show (128 : UInt8).toNat = 128 from rfl]; omega), hc7, A8z _ _ hi (by omega), A4V _ _ _ hx (by omega), hs i hi])
    (fun ag x i c t hc hl hi hx hsum h0 h1 => by
      simp only; rw [hgo ag x i c t hc hl hi]; unfold A2.J2; rw [if_neg (by simp), A4h hc]; simp only [Option.bind_some]; rw [if_pos (by rw [show (128 : UInt8).toNat = 128 from rfl]; omega), hc7, A8z _ _ hi (by omega), A4V _ _ _ hx (by omega), hm, hs i hi]; have hj : ∀ q : Bool, q = decide (((x + 2 ^ (7 * i) * (c.toNat % 128) : Nat) : Int) > (I8 top : Int)) → A2.J3 K (fun v => A2.J1 K b v) b i x c false q = (if x + 2 ^ (7 * i) * (c.toNat % 128) ≤ I8 top then some (((x + 2 ^ (7 * i) * (c.toNat % 128) : Nat) : Int), t, false) else some (0, b, true)) := fun q hq => by
        unfold A2.J3
        by_cases hle : x + 2 ^ (7 * i) * (c.toNat % 128) ≤ I8 top
        · rw [hq, decide_eq_false (by omega), if_neg (by simp), if_pos hle, hs i hi, A7I hc hl]; simp only [Option.bind_some]; rw [hc7, A8z _ _ hi (by omega), A4V _ _ _ hx (by omega), T9 (by omega)]
        · rw [hq, decide_eq_true (by omega), if_pos rfl, if_neg hle]
          rfl
      by_cases hz : c.toNat = 0
      · rw [if_pos (by rw [hz]; rfl), if_neg (by omega)]; exact hj _ rfl
      · rw [if_neg (by rw [show (0 : UInt8).toNat = 0 from rfl]; omega)]; exact hj _ rfl) K 0 0 (by omega) (by omega) (by simp)
  refine Eq.trans ?_ (this.trans ?_)
  · rfl
  · unfold O5 rd; rw [List.drop_zero, if_neg (by simp)]
    cases rdA 0 b with
    | none => rfl
    | some p =>
      simp only [Nat.mul_zero, Nat.pow_zero, Nat.one_mul, Nat.zero_add]
      by_cases hle : p.1 ≤ I8 top
      · rw [if_pos hle, if_pos hle]
      · rw [if_neg hle, if_neg hle]
def S3 (top : Int) (b : List UInt8) (bad : Bool) : List UInt8 × List UInt8 × Bool :=
  if bad = true then ([], b, true) else match rdB top b with
  | some p => (p.1, p.2, false)
  | none => ([], b, true)
theorem A0h {K : Nat} (hK : 20 ≤ K) {b : List UInt8} (hb : b.length ≤ 140737488355328) (bad : Bool) (top : Int) : E6.f K b bad top = some (S3 top b bad) := by
  unfold E6.f S3 rdB; rw [Y4 hK hb]; simp only [Option.bind_some]; unfold O5
  cases bad with
  | true => rfl
  | false =>
  cases hr : rd top b with
  | none => rfl
  | some p =>
    obtain ⟨n, r⟩ := p; have hl := A4L hr; simp only [Bool.false_eq_true, if_false]; show E6.J1 K b ((n : Int), r, false) (decide ((n : Int) > (r.length : Int))) = _; unfold E6.J1; dsimp only
    by_cases h : n ≤ r.length
    · rw [decide_eq_false (by omega), if_neg (by simp), if_pos h, A1f ⟨by omega, by omega, by omega⟩]; simp only [Option.bind_some, Int.toNat_natCast, Int.toNat_zero, List.drop_zero]; rw [R6 (by rw [List.length_take]; simp; omega)]; simp only [Option.bind_some, List.nil_append]; rw [A1f ⟨by omega, by omega, by omega⟩]; simp only [Option.bind_some, Int.toNat_natCast, List.take_length]
    · rw [decide_eq_true (by omega), if_pos rfl, if_neg h]
def RR (b : List UInt8) (bad : Bool) (B : List UInt8) (Bad : Bool) : Prop := bad = Bad ∧ (if bad = true then b = [] else b = B)
theorem B1N (top : Int) : rd top [] = none := rfl
theorem B0Y (top : Int) : rdB top [] = none := rfl
theorem RR.num {b B : List UInt8} {bad Bad : Bool} (h : RR b bad B Bad) (top : Int) : (H6 top b bad).1 = (O5 top B Bad).1 ∧ RR (H6 top b bad).2.1 (H6 top b bad).2.2 (O5 top B Bad).2.1 (O5 top B Bad).2.2 := by
  obtain ⟨rfl, h⟩ := h; unfold H6 O5 RR
  cases bad with
  | true =>
    have h : b = [] := by simpa using h
    subst h; rw [B1N]; simp
  | false =>
    have h : b = B := by simpa using h
    subst h; rw [if_neg (by simp)]; cases rd top b <;> simp
theorem RR.bytes {b B : List UInt8} {bad Bad : Bool} (h : RR b bad B Bad) (top : Int) : (J0 top b bad).1 = (S3 top B Bad).1 ∧ RR (J0 top b bad).2.1 (J0 top b bad).2.2 (S3 top B Bad).2.1 (S3 top B Bad).2.2 := by
  obtain ⟨rfl, h⟩ := h; unfold J0 S3 RR
  cases bad with
  | true =>
    have h : b = [] := by simpa using h
    subst h; rw [B0Y]; simp
  | false =>
    have h : b = B := by simpa using h
    subst h; rw [if_neg (by simp)]; cases rdB top b <;> simp
theorem A0K (top : Int) (b : List UInt8) (bad : Bool) : (H6 top b bad).2.1.length ≤ b.length := by
  unfold H6
  cases h : rd top b with
  | none => simp
  | some p => exact Nat.le_of_lt (A4L (n := p.1) (r := p.2) h)
theorem A0b (top : Int) (b : List UInt8) (bad : Bool) : (O5 top b bad).2.1.length ≤ b.length := by
  unfold O5
  cases bad with
  | true => simp
  | false =>
    rw [if_neg (by simp)]
    cases h : rd top b with
    | none => simp
    | some p => exact Nat.le_of_lt (A4L (n := p.1) (r := p.2) h)
theorem A2f (top : Int) (b : List UInt8) (bad : Bool) : (J0 top b bad).2.1.length ≤ b.length ∧ (J0 top b bad).1.length ≤ b.length := by
  unfold J0
  cases h : rdB top b with
  | none => simp
  | some p =>
    have := A2y (x := p.1) (r := p.2) h; have e := congrArg List.length this.2; simp only [List.length_append] at e; simp only; omega
theorem A1i (top : Int) (b : List UInt8) (bad : Bool) : (S3 top b bad).2.1.length ≤ b.length ∧ (S3 top b bad).1.length ≤ b.length := by
  unfold S3
  cases bad with
  | true => simp
  | false =>
    rw [if_neg (by simp)]
    cases h : rdB top b with
    | none => simp
    | some p =>
      have := A2y (x := p.1) (r := p.2) h; have e := congrArg List.length this.2; simp only [List.length_append] at e; simp only; omega
end Go.Gp
