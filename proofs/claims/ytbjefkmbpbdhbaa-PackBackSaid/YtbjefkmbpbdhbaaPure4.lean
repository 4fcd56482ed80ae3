/- What the statements say, of the plain functions. -/
import Derived.Test.YtbjefkmbpbdhbaaDefs
import Derived.Test.YtbjefkmbpbdhbaaLe
/- Layer 4: what the statements say, of the plain functions. -/
namespace Go.Gp
open Go
theorem clone_eq {x : List UInt8} (h : x.length ≤ 140737488355328) : slices_Clone_sbyte_byte.f x = some x := by
  unfold slices_Clone_sbyte_byte.f; rw [app_eq (by simpa using h)]; simp
theorem own4_eq {x : List UInt8} (h : x.length ≤ 140737488355328) : hocketref4_own.f x = some x := by
  unfold hocketref4_own.f; rw [app_eq (by simpa using h)]; simp
theorem awake4 : hocketlaw4_awake.f = some () := by decide +kernel
theorem write4_eq {s v : List UInt8} (hs : s.length ≤ 140737488355328) : regs_Write.f s v = some (if (v.length : Int) > 16 then (s, ⟨1, [], 0⟩) else (v, ⟨0, [], 0⟩)) := by
  unfold regs_Write.f
  split
  · rw [clone_eq hs]; simp
  · rename_i h
    rw [clone_eq (by omega)]; simp
theorem writer4_eq {s v : List UInt8} (hs : s.length ≤ 140737488355328) : hocketref4_Write.f s v = some (if (v.length : Int) > 16 then (s, ⟨1, [], 0⟩) else (v, ⟨0, [], 0⟩)) := by
  unfold hocketref4_Write.f hocketref4_bad.f
  split
  · rw [own4_eq hs]; simp
  · rename_i h
    rw [own4_eq (by omega)]; simp
def cas4 (s old v : List UInt8) : List UInt8 × api_Result :=
  if (v.length : Int) > 16 then (s, ⟨1, [], 0⟩) else if s = old then (v, ⟨0, [], 0⟩) else (s, ⟨2, s, 0⟩)
theorem cas4_eq {s old v : List UInt8} (hs : s.length ≤ 140737488355328) : regs_Cas.f s old v = some (cas4 s old v) := by
  unfold regs_Cas.f regs_Cas.j_8 cas4 bytes_Equal.f
  rw [clone_eq hs, write4_eq hs]
  by_cases h : (v.length : Int) > 16
  · have h' : ¬ (v.length : Int) ≤ 16 := by omega
    by_cases h2 : s = old <;> simp [h, h', h2]
  · have h' : (v.length : Int) ≤ 16 := by omega
    by_cases h2 : s = old <;> simp [h, h', h2]
theorem casr4_eq {s old v : List UInt8} (hs : s.length ≤ 140737488355328) : hocketref4_Cas.f s old v = some (cas4 s old v) := by
  unfold hocketref4_Cas.f cas4 hocketref4_bad.f
  rw [own4_eq hs]
  by_cases h : (v.length : Int) > 16
  · simp [h]
  · rw [own4_eq (x := v) (by omega)]
    by_cases h2 : s = old <;> simp [h, h2]
theorem same4 (r : api_Result) : hocketref4_SameResult.f r r = some true := by
  unfold hocketref4_SameResult.f; simp
theorem tells4_j (x2 o s : List UInt8) (hs : s.length ≤ 140737488355328) : hocketlaw4_RegsTells.j_18 s x2 o = some () := by
  unfold hocketlaw4_RegsTells.j_18
  rw [write4_eq hs, writer4_eq hs, cas4_eq hs, casr4_eq hs]
  simp [same4, regs_Read.f, hocketref4_Read.f, clone_eq hs, own4_eq hs, awake4]
theorem hocketlaw4_RegsTells.pure (s old v : List UInt8) (same : Bool) {o0 o1 o2 : Prop} (_ : o0) (_ : o1) (_ : o2) : ∃ r, hocketlaw4_RegsTells.f s old v same = some r := by
  refine ⟨(), ?_⟩
  unfold hocketlaw4_RegsTells.f hocketlaw4_RegsTells.j_6
  rw [awake4]
  by_cases h0 : (s.length : Int) > 60
  · simp [h0]
  by_cases h1 : (old.length : Int) > 60
  · simp [h0, h1]
  by_cases h2 : (v.length : Int) > 60
  · simp [h0, h1, h2]
  rw [if_neg h0, if_neg h1, if_neg (by simpa using h2), tells4_j _ _ _ (by omega)]
  cases same
  · simp
  · rw [if_pos rfl, app_eq (by simp; omega)]
    simp [tells4_j v s s (by omega)]
theorem hocketlaw4_RegsForms.pure (n : Int) {o0 : Prop} (_ : o0) : ∃ r, hocketlaw4_RegsForms.f n = some r := by
  refine ⟨(), ?_⟩
  unfold hocketlaw4_RegsForms.f
  have hb : band .i64 n 255 = n % 256 := band_mask n 8 (by decide)
  rw [hb, rem_eq (by decide)]
  obtain ⟨h1, h2⟩ := tmod_nn (x := n % 256) (y := 10) (by omega) (by decide)
  simp only [Option.bind_some, List.length_cons, List.length_nil]
  generalize hk : Int.tmod (n % 256) _ = k
  have hk1 : 0 ≤ k ∧ k < 10 := by subst hk; exact ⟨h1, h2⟩
  clear hk h1 h2 hb
  obtain ⟨m, rfl⟩ : ∃ m : Nat, k = m := ⟨k.toNat, by omega⟩
  have hm : m < 10 := by omega
  clear hk1
  rcases m with _ | _ | _ | _ | _ | _ | _ | _ | _ | _ | m
  all_goals first | (exfalso; omega) | decide +kernel
theorem cut16 (x : List UInt8) : cut x 0 (mn (x.length : Int) 16) = some (x.take 16) := by
  rw [mn_eq, cut_eq (by omega)]
  simp only [Int.toNat_zero, List.drop_zero]
  congr 1
  rcases Nat.lt_or_ge x.length 16 with h | h
  · rw [List.take_of_length_le (by omega), List.take_of_length_le (by omega)]
  · congr 1; omega
theorem once4_j73 (K : Nat) (s : List UInt8) (h : s.length ≤ 16) : hocketlaw4_RegsOnce.j_73 K s = some () := by
  unfold hocketlaw4_RegsOnce.j_73 regs_Read.f
  rw [clone_eq (by omega), awake4]; simp
theorem once4_l96 (K : Nat) (s : List UInt8) (h : s.length ≤ 16) (t : List UInt8 × api_Result) (ht : t.1.length ≤ 16) : ∀ k v, (v.1.length = t.1.length ∧ 0 ≤ v.2 ∧ v.2 ≤ 16) → (16 - v.2).toNat < k →
    ∃ r, True ∧ hocketlaw4_RegsOnce.l_96 K t (fun v => hocketlaw4_RegsOnce.j_73 K s) k v = some r := by
  refine iter_inv (fun v : List UInt8 × Int => (16 - v.2).toNat) (fun v => v.1.length = t.1.length ∧ 0 ≤ v.2 ∧ v.2 ≤ 16) _ fun v hv => ?_
  unfold hocketlaw4_RegsOnce.b_96
  by_cases hlt : v.2 < (t.1.length : Int)
  · refine .inl ⟨(v.1.set v.2.toNat (toU8 ((v.1[v.2.toNat]'(by omega)).toNat + ((1 : UInt8).toNat : Int))), v.2 + 1), ⟨by simpa using hv.1, by simp; omega, by simp; omega⟩, by simp; omega, fun ag => ?_⟩
    rw [if_pos hlt, ix_get hv.2.1 (by omega), w64_succ hv.2.1 (by omega)]
    simp
  · exact .inr ⟨(), trivial, fun ag => by rw [if_neg hlt, once4_j73 K s h]⟩
theorem once4_l119 (K : Nat) (hK : 20 < K) (s : List UInt8) (h : s.length ≤ 16) (t : List UInt8 × api_Result) (ht : t.1.length ≤ 16) (q : api_Result) (hq : q.Val.length ≤ 16) : ∀ k v, (v.2.length = q.Val.length ∧ 0 ≤ v.1 ∧ v.1 ≤ 16) → (16 - v.1).toNat < k →
    ∃ r, True ∧ hocketlaw4_RegsOnce.l_119 K q (fun v => hocketlaw4_RegsOnce.j_69 K t s) k v = some r := by
  refine iter_inv (fun v : Int × List UInt8 => (16 - v.1).toNat) (fun v => v.2.length = q.Val.length ∧ 0 ≤ v.1 ∧ v.1 ≤ 16) _ fun v hv => ?_
  unfold hocketlaw4_RegsOnce.b_119
  by_cases hlt : v.1 < (q.Val.length : Int)
  · refine .inl ⟨(v.1 + 1, v.2.set v.1.toNat (toU8 ((v.2[v.1.toNat]'(by omega)).toNat + ((1 : UInt8).toNat : Int)))), ⟨by simpa using hv.1, by simp; omega, by simp; omega⟩, by simp; omega, fun ag => ?_⟩
    rw [if_pos hlt, ix_get hv.2.1 (by omega), w64_succ hv.2.1 (by omega)]
    simp
  · obtain ⟨r, _, hr⟩ := once4_l96 K s h t ht K (t.1, 0) ⟨rfl, by simp, by simp⟩ (by simp; omega)
    exact .inr ⟨r, trivial, fun ag => by rw [if_neg hlt]; exact hr⟩
theorem hocketlaw4_RegsOnce.pure (x0 x1 x2 : List UInt8) {o0 o1 o2 : Prop} (_ : o0) (_ : o1) (_ : o2) : ∃ K r, hocketlaw4_RegsOnce.f K x0 x1 x2 = some r := by
  refine ⟨100, ?_⟩
  unfold hocketlaw4_RegsOnce.f
  rw [cut16, cut16, cut16]
  simp only [Option.bind_some]
  generalize hs : x0.take 16 = s
  generalize hu : x1.take 16 = u
  generalize hv : x2.take 16 = v
  have ls : s.length ≤ 16 := by subst hs; simp; omega
  have lu : u.length ≤ 16 := by subst hu; simp; omega
  have lv : v.length ≤ 16 := by subst hv; simp; omega
  clear hs hu hv
  rw [cas4_eq (by omega)]
  have e1 : cas4 s s u = (u, ⟨0, [], 0⟩) := by unfold cas4; rw [if_neg (by omega), if_pos rfl]
  simp only [Option.bind_some, e1]
  rw [cas4_eq (by omega)]
  simp only [Option.bind_some]
  have j53 : ∃ r, hocketlaw4_RegsOnce.j_53 100 s (u, ⟨0, [], 0⟩) false = some r := by
    unfold hocketlaw4_RegsOnce.j_53 regs_Read.f
    rw [if_neg (by simp), clone_eq (by omega)]
    obtain ⟨r, _, hr⟩ := once4_l119 100 (by omega) s ls (u, ⟨0, [], 0⟩) lu ⟨0, s, 0⟩ ls 100 (0, s) ⟨rfl, by simp, by simp⟩ (by simp)
    exact ⟨r, hr⟩
  obtain ⟨r, hr⟩ := j53
  refine ⟨r, ?_⟩
  unfold hocketlaw4_RegsOnce.j_46
  by_cases h : u = s
  · subst h
    have e2 : cas4 u u v = (v, ⟨0, [], 0⟩) := by unfold cas4; rw [if_neg (by omega), if_pos rfl]
    simp [e2, hr]
  · have e2 : cas4 u s v = (u, ⟨2, u, 0⟩) := by unfold cas4; rw [if_neg (by omega), if_neg h]
    simp [e2, hr, h]
end Go.Gp
