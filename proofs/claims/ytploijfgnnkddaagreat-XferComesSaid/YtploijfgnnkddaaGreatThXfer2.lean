/- What the statements say, of the plain functions. -/
import Derived.Test.YtploijfgnnkddaaGreatDefs
import Derived.Test.YtploijfgnnkddaaGreatLe
import Derived.Test.YtploijfgnnkddaaGreatThInts
import Derived.Test.YtploijfgnnkddaaGreatThPack
import Derived.Test.YtploijfgnnkddaaGreatThMesg
import Derived.Test.YtploijfgnnkddaaGreatThMesg2
import Derived.Test.YtploijfgnnkddaaGreatThMesg3
import Derived.Test.YtploijfgnnkddaaGreatThMesg4
import Derived.Test.YtploijfgnnkddaaGreatThMesg5
import Derived.Test.YtploijfgnnkddaaGreatThMesg6
import Derived.Test.YtploijfgnnkddaaGreatThMsg
import Derived.Test.YtploijfgnnkddaaGreatThMesg7
import Derived.Test.YtploijfgnnkddaaGreatThMesg8
import Derived.Test.YtploijfgnnkddaaGreatThMesgS
import Derived.Test.YtploijfgnnkddaaGreatGpCrc
import Derived.Test.YtploijfgnnkddaaGreatThCrc
import Derived.Test.YtploijfgnnkddaaGreatThFram
import Derived.Test.YtploijfgnnkddaaGreatThPack1
import Derived.Test.YtploijfgnnkddaaGreatThMesg9
import Derived.Test.YtploijfgnnkddaaGreatThMesg10
import Derived.Test.YtploijfgnnkddaaGreatThRows
import Derived.Test.YtploijfgnnkddaaGreatThMach
import Derived.Test.YtploijfgnnkddaaGreatThMach2
import Derived.Test.YtploijfgnnkddaaGreatThMach3
import Derived.Test.YtploijfgnnkddaaGreatThMach4
import Derived.Test.YtploijfgnnkddaaGreatThBlob
import Derived.Test.YtploijfgnnkddaaGreatThBlob2
import Derived.Test.YtploijfgnnkddaaGreatThStep
import Derived.Test.YtploijfgnnkddaaGreatThState
import Derived.Test.YtploijfgnnkddaaGreatThXfer
/- A state that comes over in chunks, one behind the other. -/
namespace Go.Gp
open Go
def mkF (f : FetT) : xfer_Fetch := ⟨f.1, f.2.1, f.2.2.1, f.2.2.2.1, f.2.2.2.2.1, f.2.2.2.2.2.1, f.2.2.2.2.2.2⟩
def fT (t : List UInt8) (j : Nat) : FetT := if j = 0 then fet0 else (8, 1, 2, t.take (64 * j), (t.length : Int), true, decide (t.length ≤ 64 * j))
def chk (t : List UInt8) (j : Nat) : api_Msg := chunk t (askM (fT t j)) ((t.drop (64 * j)).take 64)
theorem fT_b (t : List UInt8) (j : Nat) : (fT t j).2.2.2.1 = t.take (64 * j) := by
  unfold fT
  split
  · rename_i h; subst h; rfl
  · rfl
theorem fT_v (t : List UInt8) (j : Nat) : (fT t j).1 = 8 ∧ (fT t j).2.1 = 1 ∧ (fT t j).2.2.1 = 2 := by
  unfold fT
  split
  · exact ⟨rfl, rfl, rfl⟩
  · exact ⟨rfl, rfl, rfl⟩
theorem fT_done {t : List UInt8} (hp : 0 < t.length) (j : Nat) : (fT t j).2.2.2.2.2.2 = decide (t.length ≤ 64 * j) := by
  unfold fT
  split
  · rename_i h; subst h; symm; exact decide_eq_false (by omega)
  · rfl
theorem fT_total (t : List UInt8) (j : Nat) (h : (fT t j).2.2.2.2.2.1 = true) : (t.length : Int) = (fT t j).2.2.2.2.1 := by
  unfold fT at h ⊢
  split
  · rename_i e; rw [if_pos e] at h; cases h
  · rfl
theorem ask_at {t : List UInt8} {j : Nat} (h : 64 * j ≤ t.length) : (askM (fT t j)).At = ((64 * j : Nat) : Int) := by
  show (((fT t j).2.2.2.1.length : Nat) : Int) = _
  rw [fT_b, List.length_take]
  omega
theorem ask_ok {t : List UInt8} {j : Nat} (h : 64 * j ≤ t.length) (hl : t.length ≤ 1000000) : OkM (askM (fT t j)) := by
  have ha := ask_at h
  obtain ⟨h1, h2, h3⟩ := fT_v t j
  have hfar : far = 1099511627776 := rfl
  refine ok4 rfl ?_ ?_ ?_ (by omega)
  · show 0 ≤ (fT t j).2.1 ∧ (fT t j).2.1 ≤ 6; omega
  · show 0 ≤ (fT t j).2.2.1 ∧ (fT t j).2.2.1 ≤ 6; omega
  · show 0 ≤ (fT t j).1 ∧ (fT t j).1 ≤ far; omega
theorem serve_chk {K : Nat} (hK : K = 2000000) {t : List UInt8} {j : Nat} (h : 64 * j < t.length) (hl : t.length ≤ 1000000) : xfer_Serve.f K t (askM (fT t j)) = some (chk t j, true) := by
  have ha := ask_at (t := t) (j := j) (by omega)
  rw [serve_eq hK (by omega) (mild0 rfl rfl rfl) (by unfold i64ok; omega)]
  unfold serveB
  rw [if_pos ⟨rfl, ⟨by omega, by omega⟩, ask_ok (by omega) hl⟩]
  have e : (askM (fT t j)).At.toNat = 64 * j := by omega
  rw [e]
  rfl
theorem chk_len {t : List UInt8} {j : Nat} : (chk t j).Data.length ≤ 64 := by
  show ((t.drop (64 * j)).take 64).length ≤ 64
  rw [List.length_take]; omega
theorem chk_fits {t : List UInt8} {j : Nat} (h : 64 * j < t.length) : FitsM (fT t j).1 (fT t j).2.2.1 (fT t j).2.2.2.1 (fT t j).2.2.2.2.1 (fT t j).2.2.2.2.2.1 (fT t j).2.2.2.2.2.2 (chk t j) := by
  have ha := ask_at (t := t) (j := j) (by omega)
  have hd : (chk t j).Data.length = min 64 (t.length - 64 * j) := by
    show ((t.drop (64 * j)).take 64).length = _
    rw [List.length_take, List.length_drop]
  have hA : (chk t j).At = ((64 * j : Nat) : Int) := ha
  have hT : (chk t j).Total = (t.length : Int) := rfl
  exact ⟨by rw [fT_done (by omega)]; exact decide_eq_false (by omega), rfl, rfl, rfl, rfl, by omega, by omega, fun g => fT_total t j g⟩
theorem take_chk {s : api_State} {t : List UInt8} (hdec : decS t = (s, true)) {j : Nat} (h : 64 * j < t.length) : takeF (fT t j) (chk t j) = (true, fT t (j + 1)) := by
  have hd : (fT t j).2.2.2.1 ++ (chk t j).Data = t.take (64 * (j + 1)) := by
    rw [fT_b]
    show t.take (64 * j) ++ (t.drop (64 * j)).take 64 = _
    rw [show 64 * (j + 1) = 64 * j + 64 by omega, List.take_add]
  have hT : (chk t j).Total = (t.length : Int) := rfl
  obtain ⟨h1, h2, h3⟩ := fT_v t j
  have h4 := fT_done (t := t) (by omega) j
  unfold takeF
  rw [if_pos (chk_fits h), hd, hT, h1, h2, h3, h4]
  by_cases hl : t.length ≤ 64 * (j + 1)
  · have ht : t.take (64 * (j + 1)) = t := List.take_of_length_le hl
    rw [ht, if_neg (by omega), hdec, if_pos rfl]
    unfold fT
    rw [if_neg (by omega), ht, decide_eq_true hl]
  · rw [if_pos (by rw [List.length_take]; omega), decide_eq_false (by omega)]
    unfold fT
    rw [if_neg (by omega), decide_eq_false hl]
theorem take_no {f : FetT} {m : api_Msg} (h : ¬FitsM f.1 f.2.2.1 f.2.2.2.1 f.2.2.2.2.1 f.2.2.2.2.2.1 f.2.2.2.2.2.2 m) : takeF f m = (false, f) := if_neg h
theorem fT_end {t : List UInt8} {j : Nat} (hp : 0 < t.length) (h : t.length ≤ 64 * j) : fT t j = (8, 1, 2, t, (t.length : Int), true, true) := by
  unfold fT
  rw [if_neg (by omega), List.take_of_length_le h, decide_eq_true h]
end Go.Gp
