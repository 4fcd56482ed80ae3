/- What the statements say, of the plain functions. -/
import Derived.Test.YtploijfgnnkddaaGreatDefs
import Derived.Test.YtploijfgnnkddaaGreatLe
import Derived.Test.YtploijfgnnkddaaGreatThInts
import Derived.Test.YtploijfgnnkddaaGreatThPack
import Derived.Test.YtploijfgnnkddaaGreatThMesg
import Derived.Test.YtploijfgnnkddaaGreatThMesg2
import Derived.Test.YtploijfgnnkddaaGreatThMesg3
import Derived.Test.YtploijfgnnkddaaGreatThMesg4
import Derived.Test.YtploijfgnnkddaaGreatThMesg5
import Derived.Test.YtploijfgnnkddaaGreatThMesg6
import Derived.Test.YtploijfgnnkddaaGreatThMsg
import Derived.Test.YtploijfgnnkddaaGreatThMesg7
import Derived.Test.YtploijfgnnkddaaGreatThMesg8
import Derived.Test.YtploijfgnnkddaaGreatThMesgS
import Derived.Test.YtploijfgnnkddaaGreatGpCrc
import Derived.Test.YtploijfgnnkddaaGreatThCrc
import Derived.Test.YtploijfgnnkddaaGreatThFram
import Derived.Test.YtploijfgnnkddaaGreatThPack1
import Derived.Test.YtploijfgnnkddaaGreatThMesg9
import Derived.Test.YtploijfgnnkddaaGreatThMesg10
import Derived.Test.YtploijfgnnkddaaGreatThRows
import Derived.Test.YtploijfgnnkddaaGreatThMach
import Derived.Test.YtploijfgnnkddaaGreatThMach2
import Derived.Test.YtploijfgnnkddaaGreatThMach3
import Derived.Test.YtploijfgnnkddaaGreatThMach4
import Derived.Test.YtploijfgnnkddaaGreatThBlob
/- States in bytes: the document's Decode, states held against each other, parts. -/
namespace Go.Gp
open Go
theorem A9r (B : List UInt8) (Bad : Bool) : RR (if Bad = true then [] else B) Bad B Bad := by
  cases Bad <;> exact ⟨rfl, by simp⟩
theorem B0h {K : Nat} (hK : K = 2000000000) {R : E5 × Bool → Prop} {b B : List UInt8} {bad Bad : Bool} (h : RR b bad B Bad) (hB : B.length ≤ 1000000000) (ex : L5 × List B8 → Option (E5 × Bool))
    (k : ∀ C Cb, RR (A0p b bad).2.1 (A0p b bad).2.2 C Cb → Sat (ex (⟨C, Cb⟩, (A0p b bad).1)) R) :
    Sat (E1.L1 K ex K ((O5 64 B Bad).1, ⟨(O5 64 B Bad).2.1, (O5 64 B Bad).2.2⟩, [])) R := by
  have get : ∀ {b B : List UInt8} {bad Bad : Bool} (h : RR b bad B Bad) (hB : B.length ≤ 1000000000), Sat (T2.f K B Bad) (fun r => r.1 = (A0n b bad).1 ∧ RR (A0n b bad).2.1 (A0n b bad).2.2 r.2.1 r.2.2 ∧ r.2.1.length ≤ B.length) := fun {b B bad Bad} h hB => by
    have h1 := hK ▸ B0t h hB; have h2 : Sat (T2.f K B Bad) (fun r => r.2.1.length ≤ B.length) := by
      unfold T2.f; have hK2 : 1000 ≤ K := by rw [hK]; decide
      refine E4 (Y4 (by omega) (by omega) _ _) ?_; have s1 := A0b 1073741824 B Bad; generalize O5 1073741824 B Bad = p1 at *; refine E4 (Y4 (by omega) (by omega) _ _) ?_; have s2 := A0b 1073741824 p1.2.1 p1.2.2; generalize O5 1073741824 p1.2.1 p1.2.2 = p2 at *; refine E4 (Y4 (by omega) (by omega) _ _) ?_; have s3 := A0b 1073741824 p2.2.1 p2.2.2; generalize O5 1073741824 p2.2.1 p2.2.2 = p3 at *; refine E4 (Y4 (by omega) (by omega) _ _) ?_; have s4 := A0b 1073741824 p3.2.1 p3.2.2; generalize O5 1073741824 p3.2.1 p3.2.2 = p4 at *; refine E4 (A0h (by omega) (by omega) _ _) ?_; have s5 := A1i 32 p4.2.1 p4.2.2; generalize S3 32 p4.2.1 p4.2.2 = p5 at *; refine E4 (A0h (by omega) (by omega) _ _) ?_; have s6 := A1i 32 p5.2.1 p5.2.2; generalize S3 32 p5.2.1 p5.2.2 = p6 at *; refine E4 (A0h (by omega) (by omega) _ _) ?_; have s7 := A1i 32 p6.2.1 p6.2.2; generalize S3 32 p6.2.1 p6.2.2 = p7 at *; exact J9 (fun _ => O4 (by simp only; omega)) (fun _ => O4 (by simp only; omega))
    exact B0c (B0S h1 h2) (fun v ⟨⟨a, b⟩, c⟩ => ⟨a, b, c⟩)
  have hK2 : 1000 ≤ K := by rw [hK]; decide
  clear hK; have e64 : I8 64 = 64 := by decide
  obtain ⟨e1, h1⟩ := h.num 64; have hr := A2n 64 b bad; have hs := A0b 64 B Bad; rw [e64] at hr; unfold A0p Y6 at k; rw [← e1]; generalize H6 64 b bad = p at *; generalize O5 64 B Bad = q at *; obtain ⟨n, b1, bad1⟩ := p; obtain ⟨n', B1, Bad1⟩ := q; simp only at hr hs h1 k ⊢; obtain ⟨k', rfl⟩ : ∃ k : Nat, n = k := ⟨n.toNat, by omega⟩; rw [Int.toNat_natCast] at k; refine A1b (fun v : Int × L5 × List B8 => v.1.toNat) (fun v => ∃ i : Nat, v.1 = i ∧ i ≤ k' ∧ v.2.2.length + i = k' ∧ v.2.1.B.length ≤ B.length ∧ ∃ (c : List UInt8) (cb : Bool), RR c cb v.2.1.B v.2.1.Bad ∧ (v.2.2 ++ (readN A0n i c cb).1, (readN A0n i c cb).2) = readN A0n k' b1 bad1) ?_ K _ ⟨k', rfl, by omega, by simp, hs, b1, bad1, h1, by simp⟩ (by simp only; omega); rintro ⟨j, ⟨C, Cb⟩, out⟩ ⟨i, g1, g2, g3, g4, c, cb, g5, g6⟩ ag hag; simp only at g1 g3 g4 g5 g6; subst g1; show Sat (E1.B1 K ex ag i ⟨C, Cb⟩ out) _; unfold E1.B1; refine J9 (fun hlt => ?_) (fun hge => ?_)
  · obtain ⟨i, rfl⟩ : ∃ i', i = i' + 1 := ⟨i - 1, by omega⟩; refine A0a (get (B := C) g5 (by omega)) (fun r ⟨f1, f2, f3⟩ => ?_); refine E4 (R6 (by simp only [List.length_singleton]; omega)) ?_; rw [A1P (by omega)]; refine hag _ ⟨i, rfl, by omega, by simp; omega, by simp only; omega, _, _, f2, ?_⟩ (by simp only; omega); simp only; rw [← g6, A0S, f1]; simp
  · have : i = 0 := by omega
    subst this; simp only [readN, List.append_nil] at g6; have h1 : (readN A0n k' b1 bad1).1 = out := by rw [← g6]
    have h2 : (readN A0n k' b1 bad1).2 = (c, cb) := by rw [← g6]
    rw [h1, h2] at k; exact k C Cb g5
theorem A9v {t u : Int} {b r : List UInt8} {n : Nat} (h : rd t b = some (n, r)) (hn : n ≤ I8 u) : rd u b = some (n, r) := by
  obtain ⟨_, rfl⟩ := A2T h; exact A7o hn
theorem A8k {t u : Int} {b r x : List UInt8} (h : rdB t b = some (x, r)) (hn : x.length ≤ I8 u) : rdB u b = some (x, r) := by
  obtain ⟨_, rfl⟩ := A2y h; exact A8l hn
theorem A9O {b : List UInt8} (h : 500000 < b.length) : (A1j b).2 = false := by
  cases hd : (A1j b).2 with
  | false => rfl
  | true =>
    obtain ⟨h1, _, h2⟩ := A7G hd; have := A3T (A4u h1); rw [← h2] at this; omega
theorem A3p (b : List UInt8) : (A0p b true).2.2 = true := by
  unfold A0p Y6; have h1 : ∀ (top : Int) (c : List UInt8), (H6 top c true).2.2 = true := fun top c => by unfold H6; cases rd top c <;> rfl
  have h2 : ∀ (top : Int) (c : List UInt8), (J0 top c true).2.2 = true := fun top c => by unfold J0; cases rdB top c <;> rfl
  have h3 : ∀ c : List UInt8, (A0n c true).2.2 = true := fun c => by
    unfold A0n; dsimp only; simp only [h1, h2]
  have h4 : ∀ (k : Nat) (c : List UInt8), (readN A0n k c true).2.2 = true := fun k => by
    induction k with
    | zero => intro c; rfl
    | succ k ih => intro c; rw [A0S, h3]; exact ih _
  rw [h1]; exact h4 _ _
theorem B0X {K : Nat} {ok : Bool} {x : List UInt8} {m : A5 × Bool} {a : Int × List UInt8 × Bool} {q : List B8 × List UInt8 × Bool} {C : List UInt8} {Cb : Bool} (hq : RR q.2.1 q.2.2 C Cb) (hl : q.1.length ≤ 64) :
    E1.J1 K (x, ok) m a ⟨C, Cb⟩ q.1 = some (if ok = true then A2O a.1 m q else (V5, false)) := by
  have hbv : big = 549755813888 := rfl; have fin : ∀ z : Bool, E1.J2 K a m q.1 z = some (if z = true then (V5, false) else (⟨a.1, m.1, q.1⟩, true)) := fun z => by
    unfold E1.J2; cases z <;> rfl
  unfold E1.J1 U7.f; dsimp only
  cases ok with
  | false => rw [if_neg (by simp), fin]; rfl
  | true =>
    rw [if_pos rfl, if_pos rfl]
    cases hm : m.2 with
    | false =>
      have : A2O a.1 m q = (V5, false) := if_neg (by simp [hm]); rw [if_neg (by simp), fin, this]; rfl
    | true =>
      rw [if_pos rfl]; obtain ⟨hq1, hq2⟩ := hq
      cases hc : Cb with
      | true =>
        have : A2O a.1 m q = (V5, false) := if_neg (by rw [hq1, hc]; simp); rw [this]; simp [fin]
      | false =>
        rw [hq1, hc] at hq2; have hq2 : q.2.1 = C := by simpa using hq2
        by_cases h0 : C = []
        · have h0' : q.2.1 = [] := by rw [hq2, h0]
          subst h0; rw [T9 (by omega), ← hbv]
          by_cases hat : a.1 > big - (q.1.length : Int)
          · have : A2O a.1 m q = (V5, false) := if_neg (by omega); rw [this, decide_eq_true hat]; simp [fin]
          · have : A2O a.1 m q = (⟨a.1, m.1, q.1⟩, true) := if_pos ⟨hm, by rw [hq1, hc], h0', by omega⟩; rw [this, decide_eq_false hat]; simp [fin]
        · have e : ((C.length : Int) == 0) = false := by
            have : C.length ≠ 0 := fun g => h0 (List.eq_nil_of_length_eq_zero g); simp only [beq_eq_false_iff_ne]; omega
          have : A2O a.1 m q = (V5, false) := if_neg (fun g => h0 (by rw [← hq2]; exact g.2.2.1)); rw [this, e]; simp [fin]
theorem A2X {a : Int} {m : A5 × Bool} {q : List B8 × List UInt8 × Bool} (h : m.2 = false ∨ q.2.2 = true ∨ big < a) : A2O a m q = (V5, false) := if_neg (fun ⟨g1, g2, g3, g4⟩ => by
  rcases h with h | h | h
  · rw [g1] at h; cases h
  · rw [g2] at h; cases h
  · omega)
theorem A4l {K : Nat} (hK : K = 2000000000) {b : List UInt8} (hb : b.length < K) (hb2 : b.length ≤ 1000000000) : E1.f K b = some (A1u b) := by
  suffices hS : Sat (E1.f K b) (fun r => r = A1u b) by
    obtain ⟨r, h1, h2⟩ := hS; rw [h1, h2]
  have hK2 : 1000 ≤ K := by rw [hK]; decide
  have _hb3 := hb2; unfold E1.f; obtain ⟨x, ok, hx, hxl, hxs⟩ : ∃ (x : List UInt8) (ok : Bool), O2.f K b = some (x, ok) ∧ x.length ≤ 1000000000 ∧ A1u b = if ok = true then A1t x else (V5, false) := by
    rw [A9g (by omega) hb (by omega)]
    cases hu : A0e b with
    | none => exact ⟨[], false, rfl, by simp, by rw [A6O hu]; rfl⟩
    | some y =>
      have := A3N y; rw [← A4G hu] at this; exact ⟨y, true, rfl, by omega, by unfold A1u; rw [hu]; rfl⟩
  refine E4 hx ?_; rw [hxs]; dsimp only; have s1 := A0b 1099511627776 x false; refine E4 (Y4 (by omega) (by omega) _ _) ?_; obtain ⟨A, hA⟩ : ∃ A, O5 1099511627776 x false = A := ⟨_, rfl⟩; rw [hA] at s1 ⊢; have s2 := A1i 1073741824 A.2.1 A.2.2; refine E4 (A0h (by omega) (by omega) _ _) ?_; obtain ⟨P, hP⟩ : ∃ P, S3 1073741824 A.2.1 A.2.2 = P := ⟨_, rfl⟩; rw [hP] at s2 ⊢; refine E4 (A6g (by omega) (by omega)) (E4 (Y4 (by omega) (by omega) _ _) ?_)
  -- whatever comes of the rest, side by side with what blob reads
  have go : ∀ (c : List UInt8) (cb : Bool), RR c cb P.2.1 P.2.2 → (ok = true → A2O A.1 (A1j P.1) (A0p c cb) = A1t x) → Sat (E1.L1 K (fun v => E1.J1 K (x, ok) (A1j P.1) A v.1 v.2) K ((O5 64 P.2.1 P.2.2).1, ⟨(O5 64 P.2.1 P.2.2).2.1, (O5 64 P.2.1 P.2.2).2.2⟩, [])) (fun r => r = if ok = true then A1t x else (V5, false)) := fun c cb hc he => by
    refine B0h hK hc (by omega) _ (fun C Cb hC => ?_); show Sat (E1.J1 K (x, ok) (A1j P.1) A ⟨C, Cb⟩ (A0p c cb).1) _; have hf := B0X (K := K) (ok := ok) (x := x) (m := A1j P.1) (a := A) (q := A0p c cb) (C := C) (Cb := Cb) hC (A5D c cb); rw [hf]; refine O4 ?_
    cases ok with
    | true => rw [if_pos rfl, if_pos rfl]; exact he rfl
    | false => rw [if_neg (by simp), if_neg (by simp)]
  have hbv : big = 549755813888 := rfl; have e1 : I8 big = 549755813888 := by decide
  have e2 : I8 1099511627776 = 1099511627776 := by decide
  have e3 : I8 1048576 = 1048576 := by decide
  have e4 : I8 1073741824 = 1073741824 := by decide
  have f0 : ∀ c : List UInt8, J0 1048576 c true = ((J0 1048576 c true).1, (J0 1048576 c true).2.1, true) := fun c => by unfold J0; cases rdB 1048576 c <;> rfl
  cases hn : rd big x with
  | some p =>
    obtain ⟨n, r⟩ := p; obtain ⟨g1, _⟩ := A2T hn; have hA2 : A = ((n : Int), r, false) := by
      rw [← hA]; unfold O5; rw [A9v hn (by omega)]; rfl
    have hX : H6 big x false = ((n : Int), r, false) := by unfold H6; rw [hn]
    cases hm : rdB 1048576 r with
    | some p =>
      obtain ⟨y, r2⟩ := p; obtain ⟨g2, _⟩ := A2y hm; have hP2 : P = (y, r2, false) := by
        rw [← hP, hA2]; unfold S3; rw [A8k hm (by omega)]; rfl
      refine go r2 false (by rw [hP2]; exact ⟨rfl, by simp⟩) (fun _ => ?_); have hY : J0 1048576 r false = (y, r2, false) := by unfold J0; rw [hm]
      unfold A1t; rw [hX]; dsimp only; rw [hY, hP2, hA2]
    | none =>
      have hY : J0 1048576 r false = ([], [], true) := by unfold J0; rw [hm]
      have hD : A1t x = (V5, false) := by
        unfold A1t; rw [hX]; dsimp only; rw [hY]; exact A2X (.inr (.inl (A3p _)))
      refine go (if P.2.2 = true then [] else P.2.1) P.2.2 (A9r _ _) (fun _ => ?_); rw [hD]
      cases hb3 : rdB 1073741824 r with
      | none =>
        have hP2 : P = ([], r, true) := by rw [← hP, hA2]; unfold S3; rw [hb3]; rfl
        rw [hP2]; exact A2X (.inr (.inl (A3p _)))
      | some p =>
        obtain ⟨y, r2⟩ := p; have hP2 : P = (y, r2, false) := by rw [← hP, hA2]; unfold S3; rw [hb3]; rfl
        rw [hP2]; refine A2X (.inl (A9O ?_))
        by_cases hy : y.length ≤ 1048576
        · rw [A8k hb3 (by omega)] at hm; cases hm
        · show 500000 < y.length; omega
  | none =>
    have hX : H6 big x false = (0, [], true) := by unfold H6; rw [hn]
    have hD : A1t x = (V5, false) := by
      unfold A1t; rw [hX]; dsimp only; rw [f0]; exact A2X (.inr (.inl (A3p _)))
    refine go (if P.2.2 = true then [] else P.2.1) P.2.2 (A9r _ _) (fun _ => ?_); rw [hD]
    cases hb3 : rd 1099511627776 x with
    | none =>
      have hA2 : A = (0, x, true) := by rw [← hA]; unfold O5; rw [hb3]; rfl
      have hP2 : P.2.2 = true := by rw [← hP, hA2]; rfl
      rw [hP2]; exact A2X (.inr (.inl (A3p _)))
    | some p =>
      obtain ⟨n, r⟩ := p; have hA2 : A = ((n : Int), r, false) := by rw [← hA]; unfold O5; rw [hb3]; rfl
      refine A2X (.inr (.inr ?_)); rw [hA2]
      by_cases hy : n ≤ 549755813888
      · rw [A9v hb3 (by omega)] at hn; cases hn
      · show big < (n : Int); omega
theorem A4D : A3I V5 := ⟨⟨by simp [V5], ⟨by simp [V5], by simp [V5]⟩, by simp [V5], ⟨by simp [V5], by simp [V5]⟩, ⟨by simp [V5], by simp [V5]⟩⟩, by simp [V5], by simp [V5]⟩
theorem A8W (b : List UInt8) : A3I (A1u b).1 := by
  cases h : (A1u b).2 with
  | true => exact A4Q (B1r h).1
  | false => rw [B1s h]; exact A4D
def A3S (b : List UInt8) (at_ : Int) : List UInt8 × Bool := if 0 ≤ at_ ∧ at_ < (b.length : Int) then ((b.drop at_.toNat).take 64, true) else ([], false)
theorem B1d {b : List UInt8} (hb : b.length ≤ 140737488355328) {at_ : Int} (_ha : O0 at_) : A0q.f b at_ = some (A3S b at_) := by
  unfold A0q.f A3S A0q.J1
  by_cases h0 : at_ < 0
  · rw [if_pos h0, if_pos rfl, if_neg (by omega)]
  · rw [if_neg h0]
    by_cases h1 : at_ ≥ (b.length : Int)
    · rw [decide_eq_true h1, if_pos rfl, if_neg (by omega)]
    · have hm : mn (w64 (at_ + 64)) (b.length : Int) = min (at_ + 64) (b.length : Int) := by rw [A7c, T9 (by omega)]
      rw [decide_eq_false h1, if_neg (by simp), if_pos (by omega), hm, A1f ⟨by omega, by omega, by omega⟩]; simp only [Option.bind_some]; have e : List.drop at_.toNat (List.take (min (at_ + 64) (b.length : Int)).toNat b) = (b.drop at_.toNat).take 64 := by
        rw [List.drop_take]
        by_cases hc : at_ + 64 ≤ (b.length : Int)
        · rw [show (min (at_ + 64) (b.length : Int)).toNat - at_.toNat = 64 by omega]
        · rw [List.take_of_length_le (by rw [List.length_drop]; omega), List.take_of_length_le (by rw [List.length_drop]; omega)]
      rw [e, A4y (by rw [List.length_take]; omega)]
      rfl
theorem B0l {b : List UInt8} (hb : b.length ≤ 140737488355328) {at_ : Int} (_ha : O0 at_) : T7.f b at_ = some (A3S b at_) := by
  unfold T7.f A3S T7.J1
  by_cases h0 : at_ < 0
  · rw [if_pos h0, if_pos rfl, if_neg (by omega)]
  · rw [if_neg h0]
    by_cases h1 : at_ ≥ (b.length : Int)
    · rw [decide_eq_true h1, if_pos rfl, if_neg (by omega)]
    · have hm : mn (w64 (at_ + 64)) (b.length : Int) = min (at_ + 64) (b.length : Int) := by rw [A7c, T9 (by omega)]
      rw [decide_eq_false h1, if_neg (by simp), if_pos (by omega), hm, A1f ⟨by omega, by omega, by omega⟩]; simp only [Option.bind_some]; have e : List.drop at_.toNat (List.take (min (at_ + 64) (b.length : Int)).toNat b) = (b.drop at_.toNat).take 64 := by
        rw [List.drop_take]
        by_cases hc : at_ + 64 ≤ (b.length : Int)
        · rw [show (min (at_ + 64) (b.length : Int)).toNat - at_.toNat = 64 by omega]
        · rw [List.take_of_length_le (by rw [List.length_drop]; omega), List.take_of_length_le (by rw [List.length_drop]; omega)]
      rw [e, R6 (by simp only [List.length_nil, List.length_take]; omega)]
      rfl
end Go.Gp
