/- What the statements say, of the plain functions. -/
import Derived.Test.YtploijfgnnkddaaDefs
import Derived.Test.YtploijfgnnkddaaLe
import Derived.Test.YtploijfgnnkddaaThInts
import Derived.Test.YtploijfgnnkddaaThPack
import Derived.Test.YtploijfgnnkddaaThMesg
import Derived.Test.YtploijfgnnkddaaThMesg2
import Derived.Test.YtploijfgnnkddaaThMesg3
import Derived.Test.YtploijfgnnkddaaThMesg4
import Derived.Test.YtploijfgnnkddaaThMesg5
import Derived.Test.YtploijfgnnkddaaThMesg6
import Derived.Test.YtploijfgnnkddaaThMsg
import Derived.Test.YtploijfgnnkddaaThMesg7
import Derived.Test.YtploijfgnnkddaaThMesg8
import Derived.Test.YtploijfgnnkddaaThMesgS
import Derived.Test.YtploijfgnnkddaaGpCrc
import Derived.Test.YtploijfgnnkddaaThCrc
import Derived.Test.YtploijfgnnkddaaThFram
import Derived.Test.YtploijfgnnkddaaThPack1
import Derived.Test.YtploijfgnnkddaaThMesg9
import Derived.Test.YtploijfgnnkddaaThMesg10
import Derived.Test.YtploijfgnnkddaaThRows
import Derived.Test.YtploijfgnnkddaaThMach
import Derived.Test.YtploijfgnnkddaaThMach2
import Derived.Test.YtploijfgnnkddaaThMach3
import Derived.Test.YtploijfgnnkddaaThMach4
import Derived.Test.YtploijfgnnkddaaThBlob
/- States in bytes: the document's Decode, states held against each other, parts. -/
namespace Go.Gp
open Go
/-! ### held against each other -/
theorem rows_same {K : Nat} {xs ys : List (List UInt8)} (hK : xs.length < K) (hx : xs.length ≤ 1000000000) : hocketref4_SameRows.f K xs ys = some (decide (xs = ys)) := by
  unfold hocketref4_SameRows.f
  by_cases hl : xs.length = ys.length
  · rw [if_pos (by omega)]
    have := eq_iter (R := fun a b : List UInt8 => decide (a = b)) hl (f := fun again v => hocketref4_SameRows.B1 K xs ys (fun v => hocketref4_SameRows.J1 K) again v) (fun ag i h h' => by
      unfold hocketref4_SameRows.B1
      rw [if_pos (by omega), ix_get (by omega) (by simpa using h)]
      simp only [Option.bind_some]
      rw [ix_get (by omega) (by simpa using h')]
      simp only [Option.bind_some, Int.toNat_natCast, decide_eq_true_eq]
      rw [w64_succN (by omega)]) (fun ag => by
      unfold hocketref4_SameRows.B1
      rw [if_neg (by omega)]
      rfl) xs.length 0 K (by omega) hK
    rw [List.drop_zero, List.drop_zero, zip_all_eq hl] at this
    exact this
  · rw [if_neg (by omega)]
    congr 1
    symm
    exact decide_eq_false (fun h => hl (by rw [h]))
theorem pairs_same {K : Nat} {xs ys : List api_Pair} (hK : xs.length < K) (hx : xs.length ≤ 1000000000) : hocketref4_SamePairs.f K xs ys = some (decide (xs = ys)) := by
  unfold hocketref4_SamePairs.f
  by_cases hl : xs.length = ys.length
  · rw [if_pos (by omega)]
    have := eq_iter (R := fun a b : api_Pair => decide (a = b)) hl (f := fun again v => hocketref4_SamePairs.B1 K xs ys (fun v => hocketref4_SamePairs.J1 K) again v) (fun ag i h h' => by
      unfold hocketref4_SamePairs.B1 hocketref4_SamePairs.J2
      rw [if_pos (by omega), ix_get (by omega) (by simpa using h)]
      simp only [Option.bind_some]
      rw [ix_get (by omega) (by simpa using h')]
      simp only [Option.bind_some, Int.toNat_natCast, decide_eq_true_eq]
      rw [w64_succN (by omega)]
      have key : ∀ (a b : api_Pair) (z : Option Bool), (if a.Key = b.Key then if (!a.Val == b.Val) = true then some false else z else if True then some false else z) = if a = b then z else some false := fun a b z => by
        obtain ⟨k, v⟩ := a
        obtain ⟨k', v'⟩ := b
        simp only [api_Pair.mk.injEq]
        by_cases h1 : k = k' <;> by_cases h2 : v = v' <;> simp [h1, h2]
      exact key _ _ _) (fun ag => by
      unfold hocketref4_SamePairs.B1
      rw [if_neg (by omega)]
      rfl) xs.length 0 K (by omega) hK
    rw [List.drop_zero, List.drop_zero, zip_all_eq hl] at this
    exact this
  · rw [if_neg (by omega)]
    congr 1
    symm
    exact decide_eq_false (fun h => hl (by rw [h]))
theorem result_same (a b : api_Result) : hocketref4_SameResult.f a b = some (decide (a = b)) := by
  obtain ⟨e, v, n⟩ := a
  obtain ⟨e', v', n'⟩ := b
  unfold hocketref4_SameResult.f
  simp only [api_Result.mk.injEq]
  by_cases h1 : e = e' <;> by_cases h2 : v = v' <;> by_cases h3 : n = n' <;> simp [h1, h2, h3]
theorem table_same {K : Nat} {xs ys : List api_Last} (hK : xs.length < K) (hx : xs.length ≤ 1000000000) : hocketref4_SameTable.f K xs ys = some (decide (xs = ys)) := by
  unfold hocketref4_SameTable.f
  by_cases hl : xs.length = ys.length
  · rw [if_pos (by omega)]
    have := eq_iter (R := fun a b : api_Last => decide (a = b)) hl (f := fun again v => hocketref4_SameTable.B1 K xs ys (fun v => hocketref4_SameTable.J1 K) again v) (fun ag i h h' => by
      unfold hocketref4_SameTable.B1 hocketref4_SameTable.J2
      rw [if_pos (by omega), ix_get (by omega) (by simpa using h)]
      simp only [Option.bind_some]
      rw [ix_get (by omega) (by simpa using h')]
      simp only [Option.bind_some, Int.toNat_natCast, decide_eq_true_eq, result_same]
      rw [w64_succN (by omega)]
      obtain ⟨s, q, r⟩ := xs[i]
      obtain ⟨s', q', r'⟩ := ys[i]
      simp only [api_Last.mk.injEq]
      by_cases h1 : s = s' <;> by_cases h2 : q = q' <;> by_cases h3 : r = r' <;> simp [h1, h2, h3]) (fun ag => by
      unfold hocketref4_SameTable.B1
      rw [if_neg (by omega)]
      rfl) xs.length 0 K (by omega) hK
    rw [List.drop_zero, List.drop_zero, zip_all_eq hl] at this
    exact this
  · rw [if_neg (by omega)]
    congr 1
    symm
    exact decide_eq_false (fun h => hl (by rw [h]))
theorem entries_same {K : Nat} {xs ys : List api_Entry} (hK : xs.length < K) (hx : xs.length ≤ 1000000000) : hocketref4_SameEntries.f K xs ys = some (decide (xs = ys)) := by
  unfold hocketref4_SameEntries.f
  by_cases hl : xs.length = ys.length
  · rw [if_pos (by omega)]
    have := eq_iter (R := fun a b : api_Entry => decide (a = b)) hl (f := fun again v => hocketref4_SameEntries.B1 K xs ys (fun v => hocketref4_SameEntries.J1 K) again v) (fun ag i h h' => by
      unfold hocketref4_SameEntries.B1
      rw [if_pos (by omega), ix_get (by omega) (by simpa using h)]
      simp only [Option.bind_some]
      rw [ix_get (by omega) (by simpa using h')]
      simp only [Option.bind_some, Int.toNat_natCast, entry1_same]
      rw [w64_succN (by omega)]) (fun ag => by
      unfold hocketref4_SameEntries.B1
      rw [if_neg (by omega)]
      rfl) xs.length 0 K (by omega) hK
    rw [List.drop_zero, List.drop_zero, zip_all_eq hl] at this
    exact this
  · rw [if_neg (by omega)]
    congr 1
    symm
    exact decide_eq_false (fun h => hl (by rw [h]))
theorem mach_same {K : Nat} (hK : 200 ≤ K) {a : api_Machine} (h : SmallM a) (b : api_Machine) : hocketref4_Same.f K a b = some (decide (a = b)) := by
  have h1 := h.q.1
  have h2 := h.l
  have h3 := h.p.1
  have h4 := h.t.1
  obtain ⟨⟨r, q, l, p⟩, t⟩ := a
  obtain ⟨⟨r', q', l', p'⟩, t'⟩ := b
  dsimp only at h1 h2 h3 h4
  unfold hocketref4_Same.f hocketref4_SameObjects.f
  dsimp only
  rw [rows_same (by omega) (by omega), same_ints (by omega) (by omega), pairs_same (by omega) (by omega), table_same (by omega) (by omega)]
  simp only [api_Machine.mk.injEq, api_Objects.mk.injEq, Option.bind_some]
  by_cases g1 : r = r' <;> by_cases g2 : q = q' <;> by_cases g3 : l = l' <;> by_cases g4 : p = p' <;> by_cases g5 : t = t' <;> simp [g1, g2, g3, g4, g5]
theorem state_same {K : Nat} (hK : 200 ≤ K) {a : api_State} (h : SmallS a) (b : api_State) : hocketref15_Same.f K a b = some (decide (a = b)) := by
  have h1 := h.r
  unfold hocketref15_Same.f
  rw [mach_same hK h.m, entries_same (by omega) (by omega)]
  obtain ⟨a1, a2, a3⟩ := a
  obtain ⟨b1, b2, b3⟩ := b
  simp only [api_State.mk.injEq, Option.bind_some]
  by_cases g1 : a1 = b1 <;> by_cases g2 : a2 = b2 <;> by_cases g3 : a3 = b3 <;> simp [g1, g2, g3]
/-! ### parts -/
def partB (b : List UInt8) (at_ : Int) : List UInt8 × Bool := if 0 ≤ at_ ∧ at_ < (b.length : Int) then ((b.drop at_.toNat).take 64, true) else ([], false)
theorem part_eq {b : List UInt8} (hb : b.length ≤ 140737488355328) {at_ : Int} (_ha : i64ok at_) : blob_Part.f b at_ = some (partB b at_) := by
  unfold blob_Part.f partB blob_Part.J1
  by_cases h0 : at_ < 0
  · rw [if_pos h0, if_pos rfl, if_neg (by omega)]
  · rw [if_neg h0]
    by_cases h1 : at_ ≥ (b.length : Int)
    · rw [decide_eq_true h1, if_pos rfl, if_neg (by omega)]
    · have hm : mn (w64 (at_ + 64)) (b.length : Int) = min (at_ + 64) (b.length : Int) := by rw [mn_eq, w64_id (by omega)]
      rw [decide_eq_false h1, if_neg (by simp), if_pos (by omega), hm, cut_eq ⟨by omega, by omega, by omega⟩]
      simp only [Option.bind_some]
      have e : List.drop at_.toNat (List.take (min (at_ + 64) (b.length : Int)).toNat b) = (b.drop at_.toNat).take 64 := by
        rw [List.drop_take]
        by_cases hc : at_ + 64 ≤ (b.length : Int)
        · rw [show (min (at_ + 64) (b.length : Int)).toNat - at_.toNat = 64 by omega]
        · rw [List.take_of_length_le (by rw [List.length_drop]; omega), List.take_of_length_le (by rw [List.length_drop]; omega)]
      rw [e, clone_u8 (by rw [List.length_take]; omega)]
      rfl
end Go.Gp
