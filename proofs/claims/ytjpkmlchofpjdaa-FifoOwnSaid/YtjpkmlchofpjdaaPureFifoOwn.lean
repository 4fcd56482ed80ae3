/- What the statements say, of the plain functions. -/
import Derived.Test.YtjpkmlchofpjdaaDefs
import Derived.Test.YtjpkmlchofpjdaaLe
/- Layer 5: a queue that comes of another is its own. -/
namespace Go.Gp
open Go
def Q5 (s : List (List UInt8)) : Prop := s.length ≤ 8 ∧ ∀ x ∈ s, x.length ≤ 16
theorem Q5.nil : Q5 [] := ⟨by simp, by simp⟩
theorem Q5.tail {x : List UInt8} {s : List (List UInt8)} (h : Q5 (x :: s)) : Q5 s := ⟨by have := h.1; simp at this; omega, fun y hy => h.2 y (List.mem_cons_of_mem _ hy)⟩
theorem Q5.push {s : List (List UInt8)} {v : List UInt8} (h : Q5 s) (hl : s.length < 8) (hv : v.length ≤ 16) : Q5 (s ++ [v]) := ⟨by simp; omega, fun x hx => by
  rcases List.mem_append.1 hx with hx | hx
  · exact h.2 x hx
  · obtain rfl : x = v := by simpa using hx
    exact hv⟩
theorem clone_eq {x : List UInt8} (h : x.length ≤ 140737488355328) : slices_Clone_sbyte_byte.f x = some x := by
  unfold slices_Clone_sbyte_byte.f; rw [app_eq (by simpa using h)]; simp
theorem still5_eq {K : Nat} {s : List (List UInt8)} (hK : 20 < K) (h : Q5 s) : fifo_Still.f K s = some s := by
  have h1 := h.1
  have := iter_fun (f := fun again v => fifo_Still.B1 K s (fun v => fifo_Still.J1 K v) again v.1 v.2) (fun v : List (List UInt8) × Int => s.length - v.2.toNat) (fun v => 0 ≤ v.2 ∧ v.2 ≤ s.length ∧ (v.1.length : Int) = v.2) (fun v => some (v.1 ++ s.drop v.2.toNat)) (fun v hv => by
    unfold fifo_Still.B1 fifo_Still.J1
    by_cases hlt : v.2 < (s.length : Int)
    · refine .inl ⟨(v.1 ++ [s[v.2.toNat]'(by omega)], v.2 + 1), ⟨by simp; omega, by simp; omega, by simp; omega⟩, by simp; omega, ?_, fun ag => ?_⟩
      · have e : (v.2 + 1).toNat = v.2.toNat + 1 := by omega
        simp only [e, List.append_assoc, List.singleton_append]
        rw [← List.drop_eq_getElem_cons]
      · have hx := h.2 _ (List.getElem_mem (l := s) (n := v.2.toNat) (by omega))
        rw [if_pos hlt, ix_get hv.1 (by omega)]
        simp only [Option.bind_some]
        rw [clone_eq (by omega)]
        simp only [Option.bind_some]
        rw [app_eq (by simp; omega), w64_succ hv.1 (by omega)]
        rfl
    · refine .inr fun ag => ?_
      rw [if_neg hlt, List.drop_eq_nil_of_le (by omega), List.append_nil]) K ([], 0) ⟨by simp, by simp, by simp⟩ (by simp only [Int.toNat_zero]; omega)
  simpa [fifo_Still.f, fifo_Still.L1] using this
theorem push5_eq {K : Nat} {s : List (List UInt8)} {v : List UInt8} (hK : 20 < K) (h : Q5 s) (hl : s.length < 8) (hv : v.length ≤ 16) : fifo_Push.f K s v = some (s ++ [v], ⟨0, [], (s.length : Int) + 1⟩) := by
  unfold fifo_Push.f
  rw [still5_eq hK h]
  simp only [Option.bind_some]
  rw [if_neg (by omega), if_neg (by omega), clone_eq (by omega)]
  simp only [Option.bind_some]
  rw [app_eq (by simp; omega), w64_succ (by omega) (by omega)]
  rfl
theorem pop5_eq {K : Nat} {x : List UInt8} {s : List (List UInt8)} (hK : 20 < K) (h : Q5 (x :: s)) : fifo_Pop.f K (x :: s) = some (s, ⟨0, x, 0⟩) := by
  unfold fifo_Pop.f
  rw [still5_eq hK h]
  simp only [Option.bind_some]
  rw [if_neg (by simp; omega), cut_eq ⟨by omega, by simp; omega, by omega⟩, ix_eq (x := x) (by omega) (by simp)]
  simp
theorem pop5_nil {K : Nat} (hK : 20 < K) : fifo_Pop.f K [] = some ([], ⟨4, [], 0⟩) := by
  unfold fifo_Pop.f
  rw [still5_eq hK .nil]
  rfl
theorem awake5 {K : Nat} (hK : 20 < K) : hocketlaw5_awake.f K = some () := by
  unfold hocketlaw5_awake.f
  rw [push5_eq hK .nil (by simp) (by simp)]
  simp only [Option.bind_some, List.nil_append]
  rw [push5_eq (s := [[97]]) hK ⟨by simp, by simp⟩ (by simp) (by simp)]
  simp only [Option.bind_some]
  rw [show ([[(97 : UInt8)]] ++ [[98]]) = [[97], [98]] from rfl, pop5_eq hK ⟨by simp, by simp⟩, pop5_nil hK]
  decide
theorem own5_j3 {K : Nat} {x : List UInt8} {s : List (List UInt8)} (hK : 20 < K) (h : Q5 (x :: s)) : Sat (hocketlaw5_FifoOwn.J3 K (x :: s) x) (fun _ => True) := by
  have := h.1
  unfold hocketlaw5_FifoOwn.J3
  rw [pop5_eq hK h, ix_eq (x := x) (by omega) (by simp)]
  simp only [Option.bind_some]
  rw [if_pos trivial, if_pos trivial, if_pos (by simp only [List.length_cons] at this ⊢; rw [w64_id (by omega)]; omega), awake5 hK]
  exact sat_r trivial
theorem own5_l2 {K : Nat} (y : List UInt8) (t : List (List UInt8) × api_Result) (i : Int) (hy : y.length ≤ 16) (hK : 20 < K) (hi : ix t.1 i = some y) {ex : Unit → Option Unit} (hex : Sat (ex ()) (fun _ => True)) : Sat (hocketlaw5_FifoOwn.L2 K y t i ex K 0) (fun _ => True) := by
  unfold hocketlaw5_FifoOwn.L2
  refine sat_loop (fun v : Int => y.length - v.toNat) (fun v => 0 ≤ v ∧ v ≤ y.length) (fun v hv ag hag => ?_) K 0 ⟨by omega, by omega⟩ (by simp only [Int.toNat_zero]; omega)
  unfold hocketlaw5_FifoOwn.B2
  refine sat_if (fun hlt => ?_) (fun _ => hex)
  have hg := ix_get (xs := y) hv.1 (by omega)
  refine sat_b hi (sat_b hg (sat_b hg ?_))
  rw [w64_succ hv.1 (by omega)]
  exact hag _ ⟨by omega, by omega⟩ (by omega)
theorem own5_j2 {K : Nat} {x : List UInt8} {s : List (List UInt8)} (hK : 20 < K) (h : Q5 (x :: s)) : Sat (hocketlaw5_FifoOwn.J2 K (s, ⟨0, x, 0⟩) (x :: s) x) (fun _ => True) := by
  have h1 := h.1
  unfold hocketlaw5_FifoOwn.J2 hocketlaw5_FifoOwn.L1
  refine sat_loop (fun v : Int => s.length - v.toNat) (fun v => 0 ≤ v ∧ v ≤ s.length) (fun v hv ag hag => ?_) K 0 ⟨by omega, by omega⟩ (by simp only [Int.toNat_zero]; simp at h1; omega)
  unfold hocketlaw5_FifoOwn.B1
  simp only [List.length_cons] at h1
  refine sat_if (fun hlt => ?_) (fun _ => own5_j3 hK h)
  have hg := ix_get (xs := s) hv.1 (by simp only at hlt; omega)
  refine sat_b hg (own5_l2 _ _ _ (h.2 _ (List.mem_cons_of_mem _ (List.getElem_mem _))) hK hg ?_)
  unfold hocketlaw5_FifoOwn.J4
  rw [w64_succ hv.1 (by simp only at hlt; omega)]
  exact hag _ ⟨by omega, by simp only at hlt; omega⟩ (by simp only at hlt; omega)
theorem own5_j1 {K : Nat} {s : List (List UInt8)} (hK : 20 < K) (h : Q5 s) : Sat (hocketlaw5_FifoOwn.J1 K s) (fun _ => True) := by
  unfold hocketlaw5_FifoOwn.J1
  cases s with
  | nil => exact sat_t rfl (sat_b (awake5 hK) (sat_r trivial))
  | cons x s =>
    have hx := h.2 x (List.mem_cons_self ..)
    refine sat_f (by simp; omega) (sat_b (ix_eq (x := x) (by omega) (by simp)) (sat_b (pop5_eq hK h) ?_))
    unfold hocketlaw5_FifoOwn.L3
    refine sat_loop (fun v : Int => x.length - v.toNat) (fun v => 0 ≤ v ∧ v ≤ x.length) (fun v hv ag hag => ?_) K 0 ⟨by omega, by omega⟩ (by simp only [Int.toNat_zero]; omega)
    unfold hocketlaw5_FifoOwn.B3
    refine sat_if (fun hlt => ?_) (fun _ => own5_j2 hK h)
    simp only at hlt
    have hg := ix_get (xs := x) hv.1 (by omega)
    refine sat_b hg (sat_b hg ?_)
    rw [w64_succ hv.1 (by omega)]
    exact hag _ ⟨by omega, by omega⟩ (by omega)
theorem hocketlaw5_FifoOwn.pure (x0 : List (List UInt8)) (h0 : x0.length ≤ 140737488351232 ∧ ∀ x ∈ x0, x.length ≤ 140737488351232 ∧ ∀ z ∈ x, True) : ∃ K r, hocketlaw5_FifoOwn.f K x0 = some r := by
  refine ⟨x0.length + 100, ?_⟩
  have hK : 20 < x0.length + 100 := by omega
  generalize hKe : x0.length + 100 = K at hK ⊢
  refine sat_pure ?_
  unfold hocketlaw5_FifoOwn.f hocketlaw5_FifoOwn.L4
  refine sat_loop (fun v : List (List UInt8) × Int => x0.length - v.2.toNat) (fun v => Q5 v.1 ∧ 0 ≤ v.2 ∧ v.2 ≤ x0.length) (fun v hv ag hag => ?_) K _ ⟨.nil, by omega, by simp⟩ (by simp only [Int.toNat_zero]; omega)
  obtain ⟨s, i⟩ := v
  obtain ⟨hs, hi0, hi1⟩ := hv
  simp only at hs hi0 hi1 hag ⊢
  unfold hocketlaw5_FifoOwn.B4
  have hend : Sat (hocketlaw5_FifoOwn.J5 K x0 i ag s (fun v => hocketlaw5_FifoOwn.J1 K v) false) (fun _ => True) := by
    unfold hocketlaw5_FifoOwn.J5
    exact sat_f (by decide) (own5_j1 hK hs)
  refine sat_if (fun hlt => ?_) (fun _ => hend)
  by_cases h8 : (s.length : Int) < 8
  · rw [decide_eq_true h8]
    unfold hocketlaw5_FifoOwn.J5
    have hg := ix_get (xs := x0) hi0 (by omega)
    generalize x0[i.toNat]'(by omega) = y at hg
    have hnext : ∀ s', Q5 s' → Sat (ag (s', w64 (i + 1))) (fun _ => True) := fun s' hs' => by
      rw [w64_succ hi0 (by omega)]
      exact hag _ ⟨hs', by simp only; omega, by simp only; omega⟩ (by simp only; omega)
    refine sat_t rfl (sat_b hg (sat_if (fun _ => hnext s hs) (fun hy => sat_b hg ?_)))
    refine sat_b (app_eq (xs := ([] : List UInt8)) (by simp; omega)) ?_
    rw [List.nil_append]
    refine sat_b (push5_eq hK hs (by omega) (by omega)) ?_
    unfold hocketlaw5_FifoOwn.L5
    refine sat_loop (fun v : List UInt8 × Int => y.length - v.2.toNat) (fun v => v.1.length = y.length ∧ 0 ≤ v.2 ∧ v.2 ≤ y.length) (fun v hv ag2 hag2 => ?_) K _ ⟨rfl, by omega, by simp⟩ (by simp only [Int.toNat_zero]; omega)
    obtain ⟨z, k⟩ := v
    obtain ⟨hz, hk0, hk1⟩ := hv
    simp only at hz hk0 hk1 hag2 ⊢
    unfold hocketlaw5_FifoOwn.B5
    refine sat_if (fun hlt2 => ?_) (fun _ => ?_)
    · have hg2 := ix_get (xs := z) hk0 (by omega)
      refine sat_b hg2 (sat_b hg2 ?_)
      rw [w64_succ hk0 (by omega)]
      exact hag2 _ ⟨by simp [hz], by simp only; omega, by simp only; omega⟩ (by simp only; omega)
    · unfold hocketlaw5_FifoOwn.J6
      refine sat_t rfl (sat_t ?_ (sat_b (ix_eq (x := y) (by omega) (by simp)) (sat_b hg ?_)))
      · simp only [List.length_append, List.length_singleton]
        rw [w64_succ (by omega) (by omega)]; omega
      · unfold hocketlaw5_FifoOwn.J7
        exact sat_f (by simp) (hnext _ (hs.push (by omega) (by omega)))
  · rw [decide_eq_false h8]
    exact hend
end Go.Gp
