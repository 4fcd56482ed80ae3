/- What the statements say, of the plain functions. -/
import Derived.Test.YtploijfgnnkddaaGreatDefs
import Derived.Test.YtploijfgnnkddaaGreatLe
import Derived.Test.YtploijfgnnkddaaGreatThInts
import Derived.Test.YtploijfgnnkddaaGreatThPack
import Derived.Test.YtploijfgnnkddaaGreatThMesg
import Derived.Test.YtploijfgnnkddaaGreatThMesg2
import Derived.Test.YtploijfgnnkddaaGreatThMesg3
import Derived.Test.YtploijfgnnkddaaGreatThMesg4
import Derived.Test.YtploijfgnnkddaaGreatThMesg5
import Derived.Test.YtploijfgnnkddaaGreatThMesg6
import Derived.Test.YtploijfgnnkddaaGreatThMsg
import Derived.Test.YtploijfgnnkddaaGreatThMesg7
import Derived.Test.YtploijfgnnkddaaGreatThMesg8
import Derived.Test.YtploijfgnnkddaaGreatThMesgS
import Derived.Test.YtploijfgnnkddaaGreatGpCrc
import Derived.Test.YtploijfgnnkddaaGreatThCrc
import Derived.Test.YtploijfgnnkddaaGreatThFram
import Derived.Test.YtploijfgnnkddaaGreatThPack1
import Derived.Test.YtploijfgnnkddaaGreatThMesg9
import Derived.Test.YtploijfgnnkddaaGreatThMesg10
import Derived.Test.YtploijfgnnkddaaGreatThRows
import Derived.Test.YtploijfgnnkddaaGreatThMach
import Derived.Test.YtploijfgnnkddaaGreatThMach2
import Derived.Test.YtploijfgnnkddaaGreatThMach3
import Derived.Test.YtploijfgnnkddaaGreatThMach4
import Derived.Test.YtploijfgnnkddaaGreatThBlob
import Derived.Test.YtploijfgnnkddaaGreatThBlob2
import Derived.Test.YtploijfgnnkddaaGreatThStep
import Derived.Test.YtploijfgnnkddaaGreatThState
import Derived.Test.YtploijfgnnkddaaGreatThXfer
import Derived.Test.YtploijfgnnkddaaGreatThXfer2
/- What asks for a state, written, read and answered; what is the same is told the same. -/
namespace Go.Gp
open Go
theorem A2Y {f : (Int → Option Unit) → Int → Option Unit} {n : Nat} (h : ∀ (i : Nat), i < n → ∀ ag, f ag (i : Int) = ag ((i + 1 : Nat) : Int)) (he : ∀ ag, f ag (n : Int) = some ()) {K : Nat} (hK : n < K) : S4 f K 0 = some () :=
  B0r (fun v : Int => n - v.toNat) (fun v => ∃ i : Nat, v = i ∧ i ≤ n) (fun _ => some ()) (fun v hv => by
    obtain ⟨i, rfl, hi⟩ := hv
    by_cases hlt : i < n
    · exact .inl ⟨_, ⟨i + 1, rfl, by omega⟩, by omega, rfl, h i hlt⟩
    · obtain rfl : i = n := by omega
      exact .inr he) K 0 ⟨0, rfl, by omega⟩ (by omega)
theorem A7z {α : Type} {xs : List α} {i : Nat} (h : i < xs.length) : ix xs (i : Int) = some xs[i] := O7 (by omega) (by simpa using h)
section
variable {K : Nat}
theorem A7A {xs : List Int} (hK : xs.length < K) (hx : xs.length ≤ 1000000000) : G3.f K xs xs = some () := by
  unfold G3.f; rw [if_pos rfl]; refine A2Y (n := xs.length) (fun i hi ag => ?_) (fun ag => ?_) hK
  · unfold G3.B1; rw [if_pos (by omega), A7z hi]; simp only [Option.bind_some, if_true]; rw [Q2 (by omega)]
  · unfold G3.B1; rw [if_neg (by omega)]; rfl
theorem B0f {xs : List (List UInt8)} (hK : xs.length < K) (hx : xs.length ≤ 1000000000) : H8.f K xs xs = some () := by
  unfold H8.f; rw [if_pos rfl]; refine A2Y (n := xs.length) (fun i hi ag => ?_) (fun ag => ?_) hK
  · unfold H8.B1; rw [if_pos (by omega), A7z hi]; simp only [Option.bind_some, if_true]; rw [Q2 (by omega)]
  · unfold H8.B1; rw [if_neg (by omega)]; rfl
theorem A9z {xs : List A7} (hK : xs.length < K) (hx : xs.length ≤ 1000000000) : H4.f K xs xs = some () := by
  unfold H4.f; rw [if_pos rfl]; refine A2Y (n := xs.length) (fun i hi ag => ?_) (fun ag => ?_) hK
  · unfold H4.B1; rw [if_pos (by omega), A7z hi]; simp only [Option.bind_some, if_true]; rw [Q2 (by omega)]
  · unfold H4.B1; rw [if_neg (by omega)]; rfl
theorem A8D (a : C4) : Y5.f a a = some () := by
  unfold Y5.f; simp only [if_true]
theorem A9i {xs : List B6} (hK : xs.length < K) (hx : xs.length ≤ 1000000000) : H3.f K xs xs = some () := by
  unfold H3.f; rw [if_pos rfl]; refine A2Y (n := xs.length) (fun i hi ag => ?_) (fun ag => ?_) hK
  · unfold H3.B1; rw [if_pos (by omega), A7z hi]; simp only [Option.bind_some, if_true, A8D]; rw [Q2 (by omega)]
  · unfold H3.B1; rw [if_neg (by omega)]; rfl
theorem A6N (a : B8) : V3.f a a = some () := by
  unfold V3.f; simp only [if_true]
theorem A8b {xs : List B8} (hK : xs.length < K) (hx : xs.length ≤ 1000000000) : G7.f K xs xs = some () := by
  unfold G7.f; rw [if_pos rfl]; refine A2Y (n := xs.length) (fun i hi ag => ?_) (fun ag => ?_) hK
  · unfold G7.B1; rw [if_pos (by omega), A7z hi]; simp only [Option.bind_some, A6N]; rw [Q2 (by omega)]
  · unfold G7.B1; rw [if_neg (by omega)]; rfl
theorem A9k (hK : 200 ≤ K) {a : E5} (h : A3I a) : A0m.f K a a = some () := by
  have h1 := h.m.q.1; have h2 := h.m.l; have h3 := h.m.p.1; have h4 := h.m.t.1; have h5 := h.r; unfold A0m.f A0Z.f Z1.f; rw [if_pos rfl, if_pos rfl, B0f (by omega) (by omega), A7A (by omega) (by omega), A9z (by omega) (by omega), A9i (by omega) (by omega), A8b (by omega) (by omega)]
  rfl
theorem A6e {m : C3} (hK : 0 < K) (h1 : m.Have = []) (h2 : m.Need = []) : T8.f K m m = some () := by
  have e : G3.f K [] [] = some () := A7A (by simpa using hK) (by simp); unfold T8.f; simp only [if_true, h1, h2, e, A6N, Option.bind_some]
end
structure A5d (m : C3) : Prop where
  k : m.Kind = 4
  f : 0 ≤ m.From ∧ m.From ≤ 6
  t : 0 ≤ m.To ∧ m.To ≤ 6
  v : 0 ≤ m.View ∧ m.View ≤ far
  h : m.Have = []
  n : m.Need = []
  d : m.Data = []
theorem B2k {K : Nat} (hK : K = 2000000000) {m : C3} (hm : A5d m) (ha : 0 ≤ m.At ∧ m.At ≤ far) : ∃ w, A1I.f K m = some w ∧ w.length ≠ 0 := by
  have hb : A1H.f m = some false := by
    unfold A1H.f; rw [hm.h, hm.n, hm.d]
    rfl
  have k1 : ¬m.Kind = 2 := by rw [hm.k]; decide
  have k2 : ¬m.Kind = 3 := by rw [hm.k]; decide
  have l4 := A3h [m.Kind, m.From, m.To, m.View]; have l1 := A3h [m.At]; simp only [List.length_cons, List.length_nil] at l4 l1; have hw : A1T.f K m = some (Z6 [m.Kind, m.From, m.To, m.View] ++ Z6 [m.At]) := by
    unfold A1T.f; rw [hK, A6q (by simp) (by simp)]; simp only [Option.bind_some, List.nil_append]; rw [if_neg k1, if_neg k2, if_pos hm.k, A6q (by simp) (by omega)]
    rfl
  have hr : A2i.f K (Z6 [m.Kind, m.From, m.To, m.View] ++ Z6 [m.At]) = some (⟨m.Kind, m.From, m.To, m.View, 0, 0, false, 0, 0, m.At, 0, ([] : List UInt8), 0, 0, ([] : List Int), ([] : List Int), 0, (⟨0, 0, (⟨0, 0, ([] : List UInt8), ([] : List UInt8), ([] : List UInt8)⟩ : L6)⟩ : B8)⟩, true) := by
    unfold A2i.f; have hl : (Z6 [m.Kind, m.From, m.To, m.View] ++ Z6 [m.At]).length ≤ 1000 := by rw [List.length_append]; omega
    have fz : (1099511627776 : Int) = far := rfl; rw [hK, fz, A5X (by omega)]; simp only [Option.bind_some]; have e := hl; rw [V2, V2, V2, V2, A2h, V2, A2h] at e ⊢; simp only [List.append_assoc, List.append_nil, List.length_append] at e ⊢; rw [Z0 (by decide) (by simp only [List.length_append]; omega), A4f (show 0 ≤ m.Kind ∧ m.Kind ≤ 8 by rw [hm.k]; decide) (by decide)]; simp only [Option.bind_some]; rw [Z0 (by decide) (by simp only [List.length_append]; omega), A4f hm.f (by decide)]; simp only [Option.bind_some]; rw [Z0 (by decide) (by simp only [List.length_append]; omega), A4f hm.t (by decide)]; simp only [Option.bind_some]; rw [Z0 (by decide) (by simp only [List.length_append]; omega), A4f hm.v (by decide)]; simp only [Option.bind_some]; rw [if_neg (by rw [hm.k]; decide), if_neg (by rw [hm.k]; decide), if_neg k1, if_neg k2, if_pos hm.k]; have e2 := A4f ha B2d []; rw [List.append_nil] at e2; rw [Z0 (by decide) (by omega), e2]
    rfl
  have hal : A1U.f (⟨m.Kind, m.From, m.To, m.View, 0, 0, false, 0, 0, m.At, 0, ([] : List UInt8), 0, 0, ([] : List Int), ([] : List Int), 0, (⟨0, 0, (⟨0, 0, ([] : List UInt8), ([] : List UInt8), ([] : List UInt8)⟩ : L6)⟩ : B8)⟩ : C3) m = some () := by
    unfold A1U.f A1X.f; rw [if_pos rfl, if_pos rfl, if_pos rfl, if_pos rfl, if_neg k1, if_neg k2, if_pos hm.k, if_pos rfl]
    rfl
  refine ⟨Z6 [m.Kind, m.From, m.To, m.View] ++ Z6 [m.At], ?_, ?_⟩
  · unfold A1I.f; rw [hb]; simp only [Option.bind_some]; rw [if_neg (by simp), hw]; simp only [Option.bind_some]; rw [hr]; simp only [Option.bind_some]; rw [if_pos trivial, hal]
    rfl
  · rw [V2, List.length_append, List.length_append]; have := A6l (I8 m.Kind); omega
theorem B2j {K : Nat} (hK : K = 2000000000) {m : C3} (hm : A5d m) (ha : 0 ≤ m.At ∧ m.At ≤ far) : A0Q.f K m = some () := by
  have fz : (1099511627776 : Int) = far := rfl; have hf := hm.f; have ht := hm.t; have hv := hm.v; have hK2 : 100 ≤ K := by rw [hK]; decide
  unfold A0Q.f; rw [if_neg (by omega), if_neg (by omega), if_neg (by omega), if_neg (by omega), if_neg (by omega), fz, if_neg (by omega)]; rw [if_neg (by rw [hm.k]; decide), if_neg (by rw [hm.k]; decide), if_neg (by rw [hm.k]; decide), if_neg (by rw [hm.k]; decide), if_pos hm.k]; have hw : I1.f K [m.At] 1 = some () := by
    unfold I1.f; refine A2Y (n := 1) (fun i hi ag => ?_) (fun ag => ?_) (by omega)
    · obtain rfl : i = 0 := by omega
      unfold I1.B1; rw [if_pos (by simp), show ix [m.At] ((0 : Nat) : Int) = some m.At from rfl]; simp only [Option.bind_some]; rw [if_neg (by omega), fz, if_neg (by omega), Q2 (by omega)]
    · unfold I1.B1 I1.J1; rw [if_neg (by simp), if_pos (by simp)]
  rw [hw]
  rfl
def A2d (b : List UInt8) (m : C3) : C3 × Bool := if 0 ≤ m.At ∧ m.At < (b.length : Int) then (A1k b m ((b.drop m.At.toNat).take 64), true) else (A4E, false)
theorem A6x {K : Nat} (hK : K = 2000000000) {b : List UInt8} (hb : b.length ≤ 1000000000) {m : C3} (hm : A5d m) (ha : O0 m.At) : Y3.f K b m = some (A2d b m) := by
  have hfar : far = 1099511627776 := rfl; unfold Y3.f A2d; rw [B1d (by omega) ha]; simp only [Option.bind_some]; have no : Y3.J1 K m b (A3S b m.At) true = some (A4E, false) := rfl; rw [if_pos hm.k]; unfold A3S at *
  by_cases hp : 0 ≤ m.At ∧ m.At < (b.length : Int)
  · obtain ⟨w, hw, hl⟩ := B2k hK hm (by omega); rw [if_pos hp] at no ⊢; dsimp only; rw [if_pos rfl, hw]; simp only [Option.bind_some]; rw [show ((w.length : Int) == 0) = false by rw [beq_eq_false_iff_ne]; omega, if_pos hp]
    rfl
  · rw [if_neg hp] at no ⊢; dsimp only; rw [if_neg (by simp), no, if_neg hp]
theorem A8A {K : Nat} (hK : K = 2000000000) {b : List UInt8} (hb : b.length ≤ 1000000000) {m : C3} (hm : A5d m) (ha : O0 m.At) : S2.f K b m = some (A2d b m) := by
  have hfar : far = 1099511627776 := rfl; unfold S2.f A2d; rw [B0l (by omega) ha]; simp only [Option.bind_some]; have no : S2.J1 K m b (A3S b m.At) true = some (A4E, false) := rfl; rw [if_pos hm.k]; unfold A3S at *
  by_cases hp : 0 ≤ m.At ∧ m.At < (b.length : Int)
  · rw [if_pos hp] at no ⊢; dsimp only; rw [if_pos rfl, B2j hK hm (by omega)]; simp only [Option.bind_some]; rw [if_pos hp]
    rfl
  · rw [if_neg hp] at no ⊢; dsimp only; rw [if_neg (by simp), no, if_neg hp]
theorem A7S (b : List UInt8) (m : C3) : (A2d b m).1.Have = [] ∧ (A2d b m).1.Need = [] ∧ (A2d b m).1.Data.length ≤ 64 := by
  unfold A2d; split
  · exact ⟨rfl, rfl, by show ((b.drop m.At.toNat).take 64).length ≤ 64; rw [List.length_take]; omega⟩
  · exact ⟨rfl, rfl, by simp [A4E]⟩
theorem A9S {f : A1z} (h1 : f.1 = 8) (h2 : f.2.1 = 1) (h3 : f.2.2.1 = 2) : A5d (Y1 f) := by
  have hfar : far = 1099511627776 := rfl; refine ⟨rfl, ?_, ?_, ?_, rfl, rfl, rfl⟩
  · show 0 ≤ f.2.1 ∧ f.2.1 ≤ 6; omega
  · show 0 ≤ f.2.2.1 ∧ f.2.2.1 ≤ 6; omega
  · show 0 ≤ f.1 ∧ f.1 ≤ far; omega
theorem B2i {K : Nat} (hK : K = 2000000000) : A0c.f K = some () := by
  have hK2 : 1000 ≤ K := by rw [hK]; decide
  have hl : (A1K (stW s7)).length = 12 := by rw [A3N, B2E]
  unfold A0c.f; change Option.bind (F6.f K s7) _ = _; rw [A4k hK (A4Q B0D)]; simp only [Option.bind_some]; obtain ⟨t, ht⟩ : ∃ t, A1K (stW s7) = t := ⟨_, rfl⟩; have hdec := A9N B0D; rw [ht] at hl hdec ⊢; rw [A9B]; simp only [Option.bind_some]; rw [A9T A0d]; simp only [Option.bind_some]; rw [A6x hK (by omega) (A9S rfl rfl rfl) (by unfold O0; simp [Y1, A0d])]; simp only [Option.bind_some]; have hs : A2d t (Y1 A0d) = (A1k t (Y1 A0d) t, true) := by
    unfold A2d; rw [if_pos ⟨by simp [Y1, A0d], by simp [Y1, A0d]; omega⟩]; have : (Y1 A0d).At.toNat = 0 := rfl; rw [this, List.drop_zero, List.take_of_length_le (by omega)]
  rw [hs]; dsimp only; rw [A6m hK (f := A0d) (by simp [A0d]; omega) (by simp [A0d])]; simp only [Option.bind_some]; rw [A5T hK (f := A0d) (by simp [A0d, A1k]; omega) (by simp [A0d, A1k]; omega)]; simp only [Option.bind_some]; have hfit : A3X 8 2 [] 0 false false (A1k t (Y1 A0d) t) := ⟨rfl, rfl, rfl, rfl, rfl, show t.length ≠ 0 by omega, by simp [A1k, Y1, A0d], fun h => by cases h⟩; have htk : A0u A0d (A1k t (Y1 A0d) t) = (true, 8, 1, 2, t, (t.length : Int), true, true) := by
    have e : (A1k t (Y1 A0d) t).Data = t := rfl; have e2 : (A1k t (Y1 A0d) t).Total = (t.length : Int) := rfl; generalize A1k t (Y1 A0d) t = c at *; unfold A0u A0d; dsimp only; rw [if_pos hfit, List.nil_append, e, e2, if_neg (by omega), hdec, if_pos rfl]
  rw [htk]; dsimp only; rw [A5T hK (f := (8, 1, 2, t, (t.length : Int), true, true)) (by simp [A1k]; omega) (by simp [A1k]; omega)]; simp only [Option.bind_some]; have hno : A0u (8, 1, 2, t, (t.length : Int), true, true) (A1k t (Y1 A0d) t) = (false, 8, 1, 2, t, (t.length : Int), true, true) := if_neg (fun h => by cases h.1); rw [hno]; dsimp only; rw [A6m hK (f := (8, 1, 2, t, (t.length : Int), true, true)) (by simp only; omega) (by simp only; omega)]; simp only [Option.bind_some]; have hdn : A3v (8, 1, 2, t, (t.length : Int), true, true) = (s7, true) := by unfold A3v; rw [if_pos rfl]; exact hdec
  have hsame : T8.f K (Y1 A0d) ⟨4, 1, 2, 8, 0, 0, false, 0, 0, 0, 0, ([] : List UInt8), 0, 0, ([] : List Int), ([] : List Int), 0, (⟨0, 0, (⟨0, 0, ([] : List UInt8), ([] : List UInt8), ([] : List UInt8)⟩ : L6)⟩ : B8)⟩ = some () := A6e (m := Y1 A0d) (by omega) rfl rfl; rw [hdn, hsame]; simp only [Option.bind_some]; have hd0 : A3v A0d = (V5, false) := rfl; have k1 : (A1k t (Y1 A0d) t).Kind = 5 := rfl; have k2 : (A1k t (Y1 A0d) t).From = 2 := rfl; have k3 : (A1k t (Y1 A0d) t).To = 1 := rfl; have k4 : (A1k t (Y1 A0d) t).Total = (t.length : Int) := rfl; have k5 : s7.At = 7 := rfl; rw [hd0, if_pos trivial, if_pos k1, if_pos k2, if_pos k3, if_pos k4, if_neg (by simp), if_pos trivial, if_neg (by simp), if_pos trivial, if_pos k5]
end Go.Gp
