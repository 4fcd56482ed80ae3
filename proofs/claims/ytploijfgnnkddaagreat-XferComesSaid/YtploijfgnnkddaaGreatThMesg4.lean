/- What the statements say, of the plain functions. -/
import Derived.Test.YtploijfgnnkddaaGreatDefs
import Derived.Test.YtploijfgnnkddaaGreatLe
import Derived.Test.YtploijfgnnkddaaGreatThInts
import Derived.Test.YtploijfgnnkddaaGreatThPack
import Derived.Test.YtploijfgnnkddaaGreatThMesg
import Derived.Test.YtploijfgnnkddaaGreatThMesg2
import Derived.Test.YtploijfgnnkddaaGreatThMesg3
/- Messages: there and back. -/
namespace Go.Gp
open Go
def OkM (m : api_Msg) : Prop :=
  (0 ≤ m.From ∧ m.From ≤ 6) ∧ (0 ≤ m.To ∧ m.To ≤ 6) ∧ (0 ≤ m.View ∧ m.View ≤ far) ∧
  (m.Kind = 1 ∨ m.Kind = 6 ∨
  (m.Kind = 2 ∧ (0 ≤ m.Inst ∧ m.Inst ≤ far) ∧ (0 ≤ m.Len ∧ m.Len ≤ far)) ∨
  (m.Kind = 3 ∧ (0 ≤ m.Members ∧ m.Members ≤ 127) ∧ (0 ≤ m.Source ∧ m.Source ≤ 6) ∧ (0 ≤ m.Len ∧ m.Len ≤ far)) ∨
  (m.Kind = 4 ∧ (0 ≤ m.At ∧ m.At ≤ far)) ∨
  (m.Kind = 5 ∧ (0 ≤ m.At ∧ m.At ≤ far) ∧ (0 ≤ m.Total ∧ m.Total ≤ far) ∧ m.Data.length ≤ 64) ∨
  (m.Kind = 7 ∧ (0 ≤ m.Hop ∧ m.Hop ≤ far) ∧ (0 ≤ m.Seq ∧ m.Seq ≤ far) ∧ (m.Have.length ≤ 7 ∧ ∀ x ∈ m.Have, 0 ≤ x ∧ x ≤ far) ∧ (m.Need.length ≤ 8 ∧ ∀ x ∈ m.Need, 0 ≤ x ∧ x ≤ far)) ∨
  (m.Kind = 8 ∧ (0 ≤ m.Index ∧ m.Index ≤ far) ∧ EntOk m.Entry))
theorem held_in {n top : Int} (h : 0 ≤ n ∧ n ≤ top) (ht : top ≤ 4611686018427387904) : held2 n ≤ held2 top ∧ ((held2 n : Nat) : Int) = n := by unfold held2; omega
theorem rnum_in {n top : Int} (h : 0 ≤ n ∧ n ≤ top) (ht : top ≤ 4611686018427387904) (rest : List UInt8) : rnum top (enc (held2 n) ++ rest) false = (n, rest, false) := by
  obtain ⟨h1, h2⟩ := held_in h ht
  rw [rnum_enc h1, h2]
def headOf (m : api_Msg) : api_Msg := ⟨m.Kind, m.From, m.To, m.View, 0, 0, false, 0, 0, 0, 0, ([] : List UInt8), 0, 0, ([] : List Int), ([] : List Int), 0, (⟨0, 0, (⟨0, 0, ([] : List UInt8), ([] : List UInt8), ([] : List UInt8)⟩ : api_Cmd)⟩ : api_Entry)⟩
def canM (m : api_Msg) : api_Msg :=
  if m.Kind = 2 then { headOf m with Inst := m.Inst, Len := m.Len, Has := m.Has }
  else if m.Kind = 3 then { headOf m with Members := m.Members, Source := m.Source, Len := m.Len }
  else if m.Kind = 4 then { headOf m with At := m.At }
  else if m.Kind = 5 then { headOf m with At := m.At, Total := m.Total, Data := m.Data }
  else if m.Kind = 7 then { headOf m with Hop := m.Hop, Seq := m.Seq, Have := m.Have, Need := m.Need }
  else if m.Kind = 8 then { headOf m with Index := m.Index, Entry := m.Entry }
  else headOf m
theorem headM_wire {m : api_Msg} (hk : 0 ≤ m.Kind ∧ m.Kind ≤ 8) (hf : 0 ≤ m.From ∧ m.From ≤ 6) (ht : 0 ≤ m.To ∧ m.To ≤ 6) (hv : 0 ≤ m.View ∧ m.View ≤ far) (rest : List UInt8) : headM (numsL [m.Kind, m.From, m.To, m.View] ++ rest) = (headOf m, rest, false) := by
  unfold headM headOf
  rw [numsL_cons, numsL_cons, numsL_cons, numsL_cons, numsL_nil]
  simp only [List.append_assoc, List.append_nil]
  rw [rnum_in hk (by decide)]
  simp only
  rw [rnum_in hf (by decide)]
  simp only
  rw [rnum_in ht (by decide)]
  simp only
  rw [rnum_in hv (by decide)]
theorem read_wire_rest {m : api_Msg} (h : OkM m) (rest : List UInt8) : readM (wire m ++ rest) = finM (canM m) (rest, false) := by
  obtain ⟨hf, ht, hv, hk⟩ := h
  have hkr : 0 ≤ m.Kind ∧ m.Kind ≤ 8 := by rcases hk with h | h | h | h | h | h | h | h <;> omega
  unfold readM wire
  rw [List.append_assoc, headM_wire hkr hf ht hv]
  have hkk : (headOf m).Kind = m.Kind := rfl
  dsimp only
  rw [hkk]
  rcases hk with h | h | ⟨h, a, c⟩ | ⟨h, a, c, d⟩ | ⟨h, a⟩ | ⟨h, a, c, d⟩ | ⟨h, a, c, d, e⟩ | ⟨h, a, c⟩
  · rw [if_pos (.inl h)]; unfold canM tailW finM; simp [h]
  · rw [if_pos (.inr h)]; unfold canM tailW finM; simp [h]
  · rw [if_neg (by omega)]
    unfold restM canM tailW
    rw [hkk, if_pos h, if_pos h, if_pos h, numsL_cons, numsL_cons, numsL_cons, numsL_nil]
    simp only [List.append_assoc, List.append_nil]
    rw [rnum_in a (by decide)]
    dsimp only
    rw [rnum_in c (by decide)]
    dsimp only
    have hfl : 0 ≤ flagI m.Has ∧ flagI m.Has ≤ 1 := by unfold flagI; split <;> omega
    rw [rnum_in hfl (by decide)]
    unfold finM flagI
    cases m.Has <;> rfl
  · rw [if_neg (by omega)]
    unfold restM canM tailW
    rw [hkk]
    simp only [h, Int.reduceEq, if_true, if_false]
    rw [numsL_cons, numsL_cons, numsL_cons, numsL_nil]
    simp only [List.append_assoc, List.append_nil]
    rw [rnum_in a (by decide)]
    dsimp only
    rw [rnum_in c (by decide)]
    dsimp only
    rw [rnum_in d (by decide)]
    rw [hkk, h]
  · rw [if_neg (by omega)]
    unfold restM canM tailW
    rw [hkk]
    simp only [h, Int.reduceEq, if_true, if_false]
    rw [numsL_cons, numsL_nil]
    simp only [List.append_nil]
    rw [rnum_in a (by decide)]
    rw [hkk, h]
  · rw [if_neg (by omega)]
    unfold restM canM tailW
    rw [hkk]
    simp only [h, Int.reduceEq, if_true, if_false]
    rw [numsL_cons, numsL_cons, numsL_nil]
    simp only [List.append_assoc, List.append_nil]
    rw [rnum_in a (by decide)]
    dsimp only
    rw [rnum_in c (by decide)]
    dsimp only
    rw [rbytes_enc (x := m.Data) (top := 64) (by have : held2 64 = 64 := by decide
                                                 omega)]
    rw [hkk, h]
  · rw [if_neg (by omega)]
    unfold restM canM tailW
    rw [hkk]
    simp only [h, Int.reduceEq, if_true, if_false]
    rw [numsL_cons, numsL_cons, numsL_nil]
    simp only [List.append_assoc, List.append_nil]
    rw [rnum_in a (by decide)]
    dsimp only
    rw [rnum_in c (by decide)]
    dsimp only
    have h7 : held2 7 = 7 := by decide
    have h8 : held2 8 = 8 := by decide
    rw [rnum_enc (m := m.Have.length) (top := 7) (by omega)]
    dsimp only
    rw [Int.toNat_natCast, rnums_enc d.2]
    dsimp only
    rw [rnum_enc (m := m.Need.length) (top := 8) (by omega)]
    dsimp only
    rw [Int.toNat_natCast, rnums_enc e.2]
    rw [hkk, h]
  · rw [if_neg (by omega)]
    unfold restM canM tailW
    rw [hkk]
    simp only [h, Int.reduceEq, if_true, if_false]
    rw [numsL_cons, numsL_nil]
    simp only [List.append_assoc, List.append_nil]
    rw [rnum_in a (by decide)]
    dsimp only
    rw [getE_enc c]
    rw [hkk, h]
theorem read_wire {m : api_Msg} (h : OkM m) : readM (wire m) = (canM m, true) := by
  have := read_wire_rest h []
  rw [List.append_nil] at this
  rw [this]
  rfl
end Go.Gp
