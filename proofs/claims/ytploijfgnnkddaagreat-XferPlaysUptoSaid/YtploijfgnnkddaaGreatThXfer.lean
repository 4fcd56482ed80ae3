/- What the statements say, of the plain functions. -/
import Derived.Test.YtploijfgnnkddaaGreatDefs
import Derived.Test.YtploijfgnnkddaaGreatLe
import Derived.Test.YtploijfgnnkddaaGreatThInts
import Derived.Test.YtploijfgnnkddaaGreatThPack
import Derived.Test.YtploijfgnnkddaaGreatThMesg
import Derived.Test.YtploijfgnnkddaaGreatThMesg2
import Derived.Test.YtploijfgnnkddaaGreatThMesg3
import Derived.Test.YtploijfgnnkddaaGreatThMesg4
import Derived.Test.YtploijfgnnkddaaGreatThMesg5
import Derived.Test.YtploijfgnnkddaaGreatThMesg6
import Derived.Test.YtploijfgnnkddaaGreatThMsg
import Derived.Test.YtploijfgnnkddaaGreatThMesg7
import Derived.Test.YtploijfgnnkddaaGreatThMesg8
import Derived.Test.YtploijfgnnkddaaGreatThMesgS
import Derived.Test.YtploijfgnnkddaaGreatGpCrc
import Derived.Test.YtploijfgnnkddaaGreatThCrc
import Derived.Test.YtploijfgnnkddaaGreatThFram
import Derived.Test.YtploijfgnnkddaaGreatThPack1
import Derived.Test.YtploijfgnnkddaaGreatThMesg9
import Derived.Test.YtploijfgnnkddaaGreatThMesg10
import Derived.Test.YtploijfgnnkddaaGreatThRows
import Derived.Test.YtploijfgnnkddaaGreatThMach
import Derived.Test.YtploijfgnnkddaaGreatThMach2
import Derived.Test.YtploijfgnnkddaaGreatThMach3
import Derived.Test.YtploijfgnnkddaaGreatThMach4
import Derived.Test.YtploijfgnnkddaaGreatThBlob
import Derived.Test.YtploijfgnnkddaaGreatThBlob2
import Derived.Test.YtploijfgnnkddaaGreatThStep
import Derived.Test.YtploijfgnnkddaaGreatThState
/- A state that comes over, plainly. -/
namespace Go.Gp
open Go
def A1k (b : List UInt8) (m : C3) (p : List UInt8) : C3 := ⟨5, m.To, m.From, m.View, 0, 0, false, 0, 0, m.At, (b.length : Int), p, 0, 0, ([] : List Int), ([] : List Int), 0, (⟨0, 0, (⟨0, 0, ([] : List UInt8), ([] : List UInt8), ([] : List UInt8)⟩ : L6)⟩ : B8)⟩
open Classical in
noncomputable def B2M (b : List UInt8) (m : C3) : C3 × Bool := if m.Kind = 4 ∧ (0 ≤ m.At ∧ m.At < (b.length : Int)) ∧ OkM m then (A1k b m ((b.drop m.At.toNat).take 64), true) else (A4E, false)
def A3X (v source : Int) (b : List UInt8) (total : Int) (begun done : Bool) (m : C3) : Prop :=
  done = false ∧ m.Kind = 5 ∧ m.View = v ∧ m.From = source ∧ m.At = (b.length : Int) ∧ m.Data.length ≠ 0 ∧ m.At + (m.Data.length : Int) ≤ m.Total ∧ (begun = true → m.Total = total)
instance (v source : Int) (b : List UInt8) (total : Int) (begun done : Bool) (m : C3) : Decidable (A3X v source b total begun done m) := by unfold A3X; infer_instance
theorem B1p {v me source total : Int} {b : List UInt8} {begun done : Bool} {m : C3} (hb : b.length ≤ 1000000000000) (hd : m.Data.length ≤ 140737488355328) : O9.f v me source b total begun done m = some (decide (A3X v source b total begun done m)) := by
  have yes : O9.J1 m begun total true = some false := rfl; have no : ∀ {p : Prop} [Decidable p], ¬p → some false = some (decide p) := fun h => by rw [decide_eq_false h]
  unfold O9.f
  cases done with
  | true => rw [if_pos rfl, yes]; exact no (fun h => by cases h.1)
  | false =>
    rw [if_neg (by simp)]
    by_cases h1 : m.Kind = 5
    · rw [if_pos h1]
      by_cases h2 : m.View = v
      · rw [if_pos h2]
        by_cases h3 : m.From = source
        · rw [if_pos h3]
          by_cases h4 : m.At = (b.length : Int)
          · rw [if_pos h4]
            by_cases h5 : m.Data.length = 0
            · rw [show ((m.Data.length : Int) == 0) = true by rw [h5]; rfl, yes]; exact no (fun h => h.2.2.2.2.2.1 h5)
            · rw [show ((m.Data.length : Int) == 0) = false by rw [beq_eq_false_iff_ne]; omega]; unfold O9.J1; rw [if_neg (by simp), T9 (by omega)]
              by_cases h6 : m.Total ≥ m.At + (m.Data.length : Int)
              · rw [if_pos h6]
                cases begun with
                | true =>
                  rw [if_pos rfl]
                  by_cases h7 : m.Total = total
                  · rw [show (m.Total == total) = true by simpa using h7, decide_eq_true]; exact ⟨rfl, h1, h2, h3, h4, h5, h6, fun _ => h7⟩
                  · rw [show (m.Total == total) = false by simpa using h7]; exact no (fun h => h7 (h.2.2.2.2.2.2.2 rfl))
                | false => rw [if_neg (by simp), decide_eq_true]; exact ⟨rfl, h1, h2, h3, h4, h5, h6, fun h => by cases h⟩
              · rw [if_neg h6]; exact no (fun h => h6 h.2.2.2.2.2.2.1)
          · rw [if_neg h4, yes]; exact no (fun h => h4 h.2.2.2.2.1)
        · rw [if_neg h3, yes]; exact no (fun h => h3 h.2.2.2.1)
      · rw [if_neg h2, yes]; exact no (fun h => h2 h.2.2.1)
    · rw [if_neg h1, yes]; exact no (fun h => h1 h.2.1)
abbrev A1z := Int × Int × Int × List UInt8 × Int × Bool × Bool
def A0u (f : A1z) (m : C3) : Bool × A1z :=
  if A3X f.1 f.2.2.1 f.2.2.2.1 f.2.2.2.2.1 f.2.2.2.2.2.1 f.2.2.2.2.2.2 m then
    (if ((f.2.2.2.1 ++ m.Data).length : Int) < m.Total then (true, f.1, f.2.1, f.2.2.1, f.2.2.2.1 ++ m.Data, m.Total, true, f.2.2.2.2.2.2)
     else if (A1u (f.2.2.2.1 ++ m.Data)).2 = true then (true, f.1, f.2.1, f.2.2.1, f.2.2.2.1 ++ m.Data, m.Total, true, true)
     else (true, f.1, f.2.1, f.2.2.1, [], 0, false, false))
  else (false, f)
theorem A5T {K : Nat} (hK : K = 2000000000) {f : A1z} {m : C3} (hb : (f.2.2.2.1 ++ m.Data).length < K) (hb2 : (f.2.2.2.1 ++ m.Data).length ≤ 1000000000) : X2.f K f.1 f.2.1 f.2.2.1 f.2.2.2.1 f.2.2.2.2.1 f.2.2.2.2.2.1 f.2.2.2.2.2.2 m = some (A0u f m) := by
  have hl := hb2; rw [List.length_append] at hl; unfold X2.f A0u; rw [B1p (by omega) (by omega)]; simp only [Option.bind_some, decide_eq_true_eq]; split
  · rw [R6 (by omega)]; simp only [Option.bind_some]; split
    · rfl
    · rw [A4C hK hb hb2]; simp only [Option.bind_some]
      cases hd : (A1u (f.2.2.2.1 ++ m.Data)).2 with
      | true => rw [if_pos rfl, if_pos rfl]
      | false => rw [if_neg (by simp), if_neg (by simp)]
  · rfl
def A3v (f : A1z) : E5 × Bool := if f.2.2.2.2.2.2 = true then A1u f.2.2.2.1 else (V5, false)
theorem A6m {K : Nat} (hK : K = 2000000000) {f : A1z} (hb : f.2.2.2.1.length < K) (hb2 : f.2.2.2.1.length ≤ 1000000000) : X3.f K f.1 f.2.1 f.2.2.1 f.2.2.2.1 f.2.2.2.2.1 f.2.2.2.2.2.1 f.2.2.2.2.2.2 = some (A3v f) := by
  unfold X3.f A3v; split
  · rw [A4C hK hb hb2]; rfl
  · rfl
def Y1 (f : A1z) : C3 := ⟨4, f.2.1, f.2.2.1, f.1, 0, 0, false, 0, 0, (f.2.2.2.1.length : Int), 0, ([] : List UInt8), 0, 0, ([] : List Int), ([] : List Int), 0, (⟨0, 0, (⟨0, 0, ([] : List UInt8), ([] : List UInt8), ([] : List UInt8)⟩ : L6)⟩ : B8)⟩
theorem A9T (f : A1z) : A0o.f f.1 f.2.1 f.2.2.1 f.2.2.2.1 f.2.2.2.2.1 f.2.2.2.2.2.1 f.2.2.2.2.2.2 = some (Y1 f) := rfl
def A0d : A1z := (8, 1, 2, [], 0, false, false)
theorem A9B : A2b.f 8 1 2 = some A0d := rfl
def s7 : E5 := ⟨7, (⟨(⟨([] : List UInt8), ([] : List (List UInt8)), ([] : List Int), ([] : List A7)⟩ : C0), ([] : List B6)⟩ : A5), ([] : List B8)⟩
theorem B0D : OkS s7 := B1W 7 (by omega) _ (by simp) (by simp)
theorem B2E : (stW s7).length = 8 := by
  have hm : A0Y s7.Machine = [0, 0, 0, 0, 0] := B1Z; have h7 : I8 7 = 7 := by decide
  unfold stW; rw [hm]; unfold Z9 V4 Z3 s7; simp only [List.length_cons, List.length_nil, List.map_nil, List.flatten_nil, List.append_nil, h7]; rw [A8V (n := 7) (by decide), A8V (n := 0 + 1 + 1 + 1 + 1 + 1) (by decide), A8V (n := 0) (by decide)]
  rfl
end Go.Gp
