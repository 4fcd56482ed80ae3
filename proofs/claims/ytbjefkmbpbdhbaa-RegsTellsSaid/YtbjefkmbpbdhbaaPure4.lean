/- What the statements say, of the plain functions. -/
import Derived.Test.YtbjefkmbpbdhbaaDefs
import Derived.Test.YtbjefkmbpbdhbaaLe
/- Layer 4: what the statements say, of the plain functions. -/
namespace Go.Gp
open Go
theorem clone_eq {x : List UInt8} (h : x.length ≤ 140737488355328) : slices_Clone_byte_byte.f x = some x := by
  unfold slices_Clone_byte_byte.f; rw [app_eq (by simpa using h)]; simp
theorem own4_eq {x : List UInt8} (h : x.length ≤ 140737488355328) : hocketref4_own.f x = some x := by
  unfold hocketref4_own.f; rw [app_eq (by simpa using h)]; simp
theorem awake4 : hocketlaw4_awake.f = some () := by decide +kernel
theorem write4_eq {s v : List UInt8} (hs : s.length ≤ 140737488355328) : regs_Write.f s v = some (if (v.length : Int) > 16 then (s, ⟨1, [], 0⟩) else (v, ⟨0, [], 0⟩)) := by
  unfold regs_Write.f
  split
  · rw [clone_eq hs]; simp
  · rename_i h
    rw [clone_eq (by omega)]; simp
theorem writer4_eq {s v : List UInt8} (hs : s.length ≤ 140737488355328) : hocketref4_Write.f s v = some (if (v.length : Int) > 16 then (s, ⟨1, [], 0⟩) else (v, ⟨0, [], 0⟩)) := by
  unfold hocketref4_Write.f hocketref4_bad.f
  split
  · rw [own4_eq hs]; simp
  · rename_i h
    rw [own4_eq (by omega)]; simp
def cas4 (s old v : List UInt8) : List UInt8 × api_Result :=
  if (v.length : Int) > 16 then (s, ⟨1, [], 0⟩) else if s = old then (v, ⟨0, [], 0⟩) else (s, ⟨2, s, 0⟩)
theorem cas4_eq {s old v : List UInt8} (hs : s.length ≤ 140737488355328) : regs_Cas.f s old v = some (cas4 s old v) := by
  unfold regs_Cas.f regs_Cas.j_8 cas4 bytes_Equal.f
  rw [clone_eq hs, write4_eq hs]
  by_cases h : (v.length : Int) > 16
  · have h' : ¬ (v.length : Int) ≤ 16 := by omega
    by_cases h2 : s = old <;> simp [h, h', h2]
  · have h' : (v.length : Int) ≤ 16 := by omega
    by_cases h2 : s = old <;> simp [h, h', h2]
theorem casr4_eq {s old v : List UInt8} (hs : s.length ≤ 140737488355328) : hocketref4_Cas.f s old v = some (cas4 s old v) := by
  unfold hocketref4_Cas.f cas4 hocketref4_bad.f
  rw [own4_eq hs]
  by_cases h : (v.length : Int) > 16
  · simp [h]
  · rw [own4_eq (x := v) (by omega)]
    by_cases h2 : s = old <;> simp [h, h2]
theorem same4 (r : api_Result) : hocketref4_SameResult.f r r = some true := by
  unfold hocketref4_SameResult.f; simp
theorem tells4_j (x2 o s : List UInt8) (hs : s.length ≤ 140737488355328) : hocketlaw4_RegsTells.j_18 s x2 o = some () := by
  unfold hocketlaw4_RegsTells.j_18
  rw [write4_eq hs, writer4_eq hs, cas4_eq hs, casr4_eq hs]
  simp [same4, regs_Read.f, hocketref4_Read.f, clone_eq hs, own4_eq hs, awake4]
theorem hocketlaw4_RegsTells.pure (s old v : List UInt8) (same : Bool) {o0 o1 o2 : Prop} (_ : o0) (_ : o1) (_ : o2) : ∃ r, hocketlaw4_RegsTells.f s old v same = some r := by
  refine ⟨(), ?_⟩
  unfold hocketlaw4_RegsTells.f hocketlaw4_RegsTells.j_6
  rw [awake4]
  by_cases h0 : (s.length : Int) > 60
  · simp [h0]
  by_cases h1 : (old.length : Int) > 60
  · simp [h0, h1]
  by_cases h2 : (v.length : Int) > 60
  · simp [h0, h1, h2]
  rw [if_neg h0, if_neg h1, if_neg (by simpa using h2), tells4_j _ _ _ (by omega)]
  cases same
  · simp
  · rw [if_pos rfl, app_eq (by simp; omega)]
    simp [tells4_j v s s (by omega)]
theorem hocketlaw4_RegsForms.pure (n : Int) {o0 : Prop} (_ : o0) : ∃ r, hocketlaw4_RegsForms.f n = some r := by
  refine ⟨(), ?_⟩
  unfold hocketlaw4_RegsForms.f
  have hb : band .i64 n 255 = n % 256 := band_mask n 8 (by decide)
  rw [hb, rem_eq (by decide)]
  obtain ⟨h1, h2⟩ := tmod_nn (x := n % 256) (y := 10) (by omega) (by decide)
  simp only [Option.bind_some, List.length_cons, List.length_nil]
  generalize hk : Int.tmod (n % 256) _ = k
  have hk1 : 0 ≤ k ∧ k < 10 := by subst hk; exact ⟨h1, h2⟩
  clear hk h1 h2 hb
  obtain ⟨m, rfl⟩ : ∃ m : Nat, k = m := ⟨k.toNat, by omega⟩
  have hm : m < 10 := by omega
  clear hk1
  rcases m with _ | _ | _ | _ | _ | _ | _ | _ | _ | _ | m
  all_goals first | (exfalso; omega) | decide +kernel
end Go.Gp
