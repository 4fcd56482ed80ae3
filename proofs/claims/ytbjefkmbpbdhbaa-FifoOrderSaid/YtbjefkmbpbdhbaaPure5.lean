/- What the statements say, of the plain functions. -/
import Derived.Test.YtbjefkmbpbdhbaaDefs
import Derived.Test.YtbjefkmbpbdhbaaLe
import Derived.Test.YtbjefkmbpbdhbaaPure4
/- Layer 5: what the statements say, of the plain functions. -/
namespace Go.Gp
open Go
def Q5 (K : Nat) (s : List (List UInt8)) : Prop := s.length < K ∧ s.length ≤ 1000 ∧ ∀ x ∈ s, x.length ≤ 140737488355328
def push5 (s : List (List UInt8)) (v : List UInt8) : List (List UInt8) × api_Result :=
  if (v.length : Int) > 16 then (s, ⟨1, [], 0⟩) else if (s.length : Int) ≥ 8 then (s, ⟨3, [], 0⟩) else (s ++ [v], ⟨0, [], (s.length : Int) + 1⟩)
def pop5 : List (List UInt8) → List (List UInt8) × api_Result
  | [] => ([], ⟨4, [], 0⟩)
  | x :: s => (s, ⟨0, x, 0⟩)
theorem still5_eq {K : Nat} {s : List (List UInt8)} (h : Q5 K s) : fifo_Still.f K s = some s := by
  have := iter_fun (f := fun again v => fifo_Still.b_20 K s (fun v => fifo_Still.j_9 K v) again v.1 v.2) (fun v : List (List UInt8) × Int => s.length - v.2.toNat) (fun v => 0 ≤ v.2 ∧ v.2 ≤ s.length ∧ (v.1.length : Int) = v.2) (fun v => some (v.1 ++ s.drop v.2.toNat)) (fun v hv => by
    unfold fifo_Still.b_20 fifo_Still.j_9
    by_cases hlt : v.2 < (s.length : Int)
    · refine .inl ⟨(v.1 ++ [s[v.2.toNat]'(by omega)], v.2 + 1), ⟨by simp; omega, by simp; omega, by simp; omega⟩, by simp; omega, ?_, fun ag => ?_⟩
      · have e : (v.2 + 1).toNat = v.2.toNat + 1 := by omega
        simp only [e, List.append_assoc, List.singleton_append]
        rw [← List.drop_eq_getElem_cons]
      · have hx := h.2.2 _ (List.getElem_mem (l := s) (n := v.2.toNat) (by omega))
        have := h.2.1
        rw [if_pos hlt, ix_get hv.1 (by omega)]
        simp only [Option.bind_some]
        rw [clone_eq hx]
        simp only [Option.bind_some]
        rw [app_eq (by simp; omega), w64_succ hv.1 (by omega)]
        rfl
    · refine .inr fun ag => ?_
      rw [if_neg hlt, List.drop_eq_nil_of_le (by omega), List.append_nil]) K ([], 0) ⟨by simp, by simp, by simp⟩ (by simpa using h.1)
  simpa [fifo_Still.f, fifo_Still.l_20] using this
theorem rows4_eq {K : Nat} {s : List (List UInt8)} (h : Q5 K s) : hocketref4_rows.f K s = some s := by
  have := iter_fun (f := fun again v => hocketref4_rows.b_17 K s (fun v => hocketref4_rows.j_9 K v) again v.1 v.2) (fun v : List (List UInt8) × Int => s.length - v.2.toNat) (fun v => 0 ≤ v.2 ∧ v.2 ≤ s.length ∧ (v.1.length : Int) = v.2) (fun v => some (v.1 ++ s.drop v.2.toNat)) (fun v hv => by
    unfold hocketref4_rows.b_17 hocketref4_rows.j_9
    by_cases hlt : v.2 < (s.length : Int)
    · refine .inl ⟨(v.1 ++ [s[v.2.toNat]'(by omega)], v.2 + 1), ⟨by simp; omega, by simp; omega, by simp; omega⟩, by simp; omega, ?_, fun ag => ?_⟩
      · have e : (v.2 + 1).toNat = v.2.toNat + 1 := by omega
        simp only [e, List.append_assoc, List.singleton_append]
        rw [← List.drop_eq_getElem_cons]
      · have hx := h.2.2 _ (List.getElem_mem (l := s) (n := v.2.toNat) (by omega))
        have := h.2.1
        rw [if_pos hlt, ix_get hv.1 (by omega)]
        simp only [Option.bind_some]
        rw [own4_eq hx]
        simp only [Option.bind_some]
        rw [app_eq (by simp; omega), w64_succ hv.1 (by omega)]
        rfl
    · refine .inr fun ag => ?_
      rw [if_neg hlt, List.drop_eq_nil_of_le (by omega), List.append_nil]) K ([], 0) ⟨by simp, by simp, by simp⟩ (by simpa using h.1)
  simpa [hocketref4_rows.f, hocketref4_rows.l_17] using this
theorem push5_eq {K : Nat} {s : List (List UInt8)} (h : Q5 K s) (v : List UInt8) : fifo_Push.f K s v = some (push5 s v) := by
  unfold fifo_Push.f push5
  rw [still5_eq h]
  simp only [Option.bind_some]
  have := h.2.1
  split
  · rfl
  · split
    · rfl
    · rw [clone_eq (by omega)]
      simp only [Option.bind_some]
      rw [app_eq (by simp; omega), w64_succ (by omega) (by omega)]
      rfl
theorem pushr5_eq {K : Nat} {s : List (List UInt8)} (h : Q5 K s) (v : List UInt8) : hocketref4_Push.f K s v = some (push5 s v) := by
  unfold hocketref4_Push.f push5 hocketref4_bad.f
  rw [rows4_eq h]
  simp only [Option.bind_some]
  have := h.2.1
  split
  · rfl
  · split
    · rfl
    · rw [own4_eq (by omega)]
      simp only [Option.bind_some]
      rw [app_eq (by simp; omega), w64_succ (by omega) (by omega)]
      rfl
theorem Q5.tail {K : Nat} {x : List UInt8} {s : List (List UInt8)} (h : Q5 K (x :: s)) : Q5 K s := ⟨by have := h.1; simp at this; omega, by have := h.2.1; simp at this; omega, fun y hy => h.2.2 y (List.mem_cons_of_mem _ hy)⟩
theorem pop5_eq {K : Nat} {s : List (List UInt8)} (h : Q5 K s) : fifo_Pop.f K s = some (pop5 s) := by
  unfold fifo_Pop.f
  rw [still5_eq h]
  simp only [Option.bind_some]
  cases s with
  | nil => simp [pop5]
  | cons x s =>
    rw [if_neg (by simp; omega), cut_eq ⟨by omega, by simp; omega, by omega⟩, ix_eq (x := x) (by omega) (by simp)]
    simp [pop5]
theorem popr5_eq {K : Nat} {s : List (List UInt8)} (h : Q5 K s) : hocketref4_Pop.f K s = some (pop5 s) := by
  unfold hocketref4_Pop.f hocketref4_bad.f
  cases s with
  | nil => simp [pop5]
  | cons x s =>
    rw [if_neg (by simp; omega), cut_eq ⟨by omega, by simp; omega, by omega⟩, ix_eq (x := x) (by omega) (by simp)]
    have e : ((x :: s).take ((x :: s).length : Int).toNat).drop (1 : Int).toNat = s := by simp
    simp only [Option.bind_some, e]
    rw [rows4_eq h.tail]
    simp only [Option.bind_some]
    rw [own4_eq (h.2.2 x (List.mem_cons_self ..))]
    rfl
theorem Q5.push {K : Nat} {s : List (List UInt8)} (h : Q5 K s) (hK : 20 < K) (v : List UInt8) : Q5 K (push5 s v).1 := by
  unfold push5
  split
  · exact h
  · split
    · exact h
    · refine ⟨by simp; omega, by simp; omega, fun x hx => ?_⟩
      rcases List.mem_append.1 hx with hx | hx
      · exact h.2.2 x hx
      · obtain rfl : x = v := by simpa using hx
        omega
theorem Q5.pop {K : Nat} {s : List (List UInt8)} (h : Q5 K s) : Q5 K (pop5 s).1 := by
  cases s with
  | nil => exact h
  | cons x s => exact h.tail
theorem same5_eq {K : Nat} {s : List (List UInt8)} (h : Q5 K s) : hocketref4_SameRows.f K s s = some true := by
  unfold hocketref4_SameRows.f
  rw [if_pos rfl]
  refine iter_fun (f := fun again v => hocketref4_SameRows.b_9 K s s (fun v => hocketref4_SameRows.j_6 K) again v) (fun v : Int => s.length - v.toNat) (fun v => 0 ≤ v ∧ v ≤ s.length) (fun _ => some true) (fun v hv => ?_) K 0 ⟨by omega, by omega⟩ (by simpa using h.1)
  unfold hocketref4_SameRows.b_9 hocketref4_SameRows.j_6
  have := h.2.1
  by_cases hlt : v < (s.length : Int)
  · refine .inl ⟨v + 1, ⟨by omega, by omega⟩, by omega, rfl, fun ag => ?_⟩
    rw [if_pos hlt, ix_get hv.1 (by omega), w64_succ hv.1 (by omega)]
    simp
  · exact .inr fun ag => by rw [if_neg hlt]
theorem Q5.nil {K : Nat} (hK : 20 < K) : Q5 K [] := ⟨by simp; omega, by simp, by simp⟩
theorem awake5 {K : Nat} (hK : 20 < K) : hocketlaw5_awake.f K = some () := by
  unfold hocketlaw5_awake.f
  have h1 := (Q5.nil hK)
  rw [push5_eq h1]
  simp only [Option.bind_some]
  have h2 := h1.push hK [97]
  rw [push5_eq h2]
  simp only [Option.bind_some]
  have h3 := h2.push hK [98]
  rw [pop5_eq h3, pop5_eq h1]
  decide
theorem plays5_j73 {K : Nat} {ag : List (List UInt8) × List (List UInt8) × Int → Option Unit} {i : Int} {s : List (List UInt8)} (h : Q5 K s) (q : api_Result) :
    hocketlaw5_FifoPlays.j_73 K ag i s s q.Err q.Val q.N q.Err q.Val q.N = ag (s, s, w64 (i + 1)) := by
  unfold hocketlaw5_FifoPlays.j_73
  rw [same4]
  simp only [Option.bind_some, if_true]
  rw [same5_eq h]
  simp [hocketlaw5_FifoPlays.j_78]
theorem plays5_l31 {K : Nat} (hK : 20 < K) (acts : List Int) (vals : List (List UInt8)) (hl : acts.length ≤ 140737488351232) : ∀ k (v : List (List UInt8) × List (List UInt8) × Int), (Q5 K v.1 ∧ v.2.1 = v.1 ∧ 0 ≤ v.2.2 ∧ v.2.2 ≤ acts.length) → acts.length - v.2.2.toNat < k →
    ∃ r, True ∧ hocketlaw5_FifoPlays.l_31 K acts vals (fun _ => hocketlaw5_FifoPlays.j_18 K) k v = some r := by
  refine iter_inv (fun v : List (List UInt8) × List (List UInt8) × Int => acts.length - v.2.2.toNat) (fun v => Q5 K v.1 ∧ v.2.1 = v.1 ∧ 0 ≤ v.2.2 ∧ v.2.2 ≤ acts.length) _ fun v hv => ?_
  obtain ⟨s, s', i⟩ := v
  obtain ⟨h1, h2, h3, h4⟩ := hv
  obtain rfl : s' = s := h2
  simp only at h1 h3 h4 ⊢
  have fin : ∃ r : Unit, True ∧ ∀ ag : List (List UInt8) × List (List UInt8) × Int → Option Unit, hocketlaw5_FifoPlays.j_38 K acts i vals s' s' ag (fun _ => hocketlaw5_FifoPlays.j_18 K) false = some r := ⟨(), trivial, fun ag => by
    simp [hocketlaw5_FifoPlays.j_38, hocketlaw5_FifoPlays.j_18, awake5 hK]⟩
  unfold hocketlaw5_FifoPlays.b_31
  by_cases hlt : i < (acts.length : Int)
  · by_cases h40 : i < 40
    · have go : ∀ b : Bool, (b = true → 0 < vals.length) → ∃ s2, Q5 K s2 ∧ ∀ ag, hocketlaw5_FifoPlays.j_50 K acts i vals s' s' ag b = ag (s2, s2, i + 1) := by
        intro b hb
        unfold hocketlaw5_FifoPlays.j_50
        cases b with
        | false =>
          refine ⟨(pop5 s').1, h1.pop, fun ag => ?_⟩
          rw [if_neg (by simp), pop5_eq h1, popr5_eq h1]
          simp only [Option.bind_some]
          rw [plays5_j73 h1.pop, w64_succ h3 (by omega)]
        | true =>
          have hv := hb rfl
          have hm : 0 ≤ (band .i64 (shr .i64 (acts[i.toNat]'(by omega)) 2) 255).tmod vals.length ∧ (band .i64 (shr .i64 (acts[i.toNat]'(by omega)) 2) 255).tmod vals.length < vals.length := by
            rw [show (255 : Int) = 2 ^ 8 - 1 from rfl, band_mask _ 8 (by decide)]
            exact tmod_nn (Int.emod_nonneg _ (by decide)) (by omega)
          refine ⟨(push5 s' (vals[((band .i64 (shr .i64 (acts[i.toNat]'(by omega)) 2) 255).tmod vals.length).toNat]'(by omega))).1, h1.push hK _, fun ag => ?_⟩
          rw [if_pos rfl, ix_get h3 (by omega)]
          simp only [Option.bind_some]
          rw [rem_eq (by omega)]
          simp only [Option.bind_some]
          rw [ix_get hm.1 (by omega)]
          simp only [Option.bind_some]
          rw [push5_eq h1, pushr5_eq h1]
          simp only [Option.bind_some]
          rw [plays5_j73 (h1.push hK _), w64_succ h3 (by omega)]
      have : ∃ s2, Q5 K s2 ∧ ∀ ag, hocketlaw5_FifoPlays.j_38 K acts i vals s' s' ag (fun _ => hocketlaw5_FifoPlays.j_18 K) true = ag (s2, s2, i + 1) := by
        unfold hocketlaw5_FifoPlays.j_38
        by_cases hc : band .i64 (acts[i.toNat]'(by omega)) 3 < 2
        · obtain ⟨s2, a, b⟩ := go (decide ((vals.length : Int) > 0)) (fun h => by have := of_decide_eq_true h; omega)
          refine ⟨s2, a, fun ag => ?_⟩
          rw [if_pos rfl, ix_get h3 (by omega)]
          simp only [Option.bind_some]
          rw [if_pos hc, b]
        · obtain ⟨s2, a, b⟩ := go false (fun h => by cases h)
          refine ⟨s2, a, fun ag => ?_⟩
          rw [if_pos rfl, ix_get h3 (by omega)]
          simp only [Option.bind_some]
          rw [if_neg hc, b]
      obtain ⟨s2, a, b⟩ := this
      refine .inl ⟨(s2, s2, i + 1), ⟨a, rfl, by simp; omega, by simp; omega⟩, by simp; omega, fun ag => ?_⟩
      rw [if_pos hlt, decide_eq_true h40, b]
    · obtain ⟨r, _, hr⟩ := fin
      exact .inr ⟨r, trivial, fun ag => by rw [if_pos hlt, decide_eq_false h40]; exact hr ag⟩
  · obtain ⟨r, _, hr⟩ := fin
    exact .inr ⟨r, trivial, fun ag => by rw [if_neg hlt]; exact hr ag⟩
theorem hocketlaw5_FifoPlays.pure (acts : List Int) (vals : List (List UInt8)) (h0 : acts.length ≤ 140737488351232 ∧ ∀ x ∈ acts, i64ok x) (h1 : vals.length ≤ 140737488351232 ∧ ∀ x ∈ vals, x.length ≤ 140737488351232 ∧ ∀ y ∈ x, True) : ∃ K r, hocketlaw5_FifoPlays.f K acts vals = some r := by
  refine ⟨acts.length + vals.length + 2000, ?_⟩
  generalize hK : acts.length + vals.length + 2000 = K
  have j10 : ∀ s, Q5 K s → ∃ r, hocketlaw5_FifoPlays.j_10 K vals acts s s = some r := fun s hs => by
    obtain ⟨r, _, hr⟩ := iter_inv (f := fun again v => hocketlaw5_FifoPlays.b_163 K vals (fun _ => hocketlaw5_FifoPlays.j_14 K acts vals s s) again v) (fun v : Int => vals.length - v.toNat) (fun v => 0 ≤ v ∧ v ≤ vals.length) (fun _ => True) (fun v hv => by
      unfold hocketlaw5_FifoPlays.b_163
      by_cases hlt : v < (vals.length : Int)
      · by_cases hl : ((vals[v.toNat]'(by omega)).length : Int) > 60
        · refine .inr ⟨(), trivial, fun ag => ?_⟩
          rw [if_pos hlt, ix_get hv.1 (by omega)]
          simp only [Option.bind_some]
          rw [if_pos hl, awake5 (by omega)]
          rfl
        · refine .inl ⟨v + 1, ⟨by omega, by omega⟩, by omega, fun ag => ?_⟩
          rw [if_pos hlt, ix_get hv.1 (by omega)]
          simp only [Option.bind_some]
          rw [if_neg hl, w64_succ hv.1 (by omega)]
      · obtain ⟨r, _, hr⟩ := plays5_l31 (K := K) (by omega) acts vals h0.1 K (s, s, 0) ⟨hs, rfl, by simp, by simp⟩ (by simp; omega)
        exact .inr ⟨r, trivial, fun ag => by rw [if_neg hlt]; exact hr⟩) K 0 ⟨by omega, by omega⟩ (by simp; omega)
    exact ⟨r, hr⟩
  unfold hocketlaw5_FifoPlays.f
  split
  · rename_i h12
    exact j10 vals ⟨by omega, by omega, fun x hx => by have := (h1.2 x hx).1; omega⟩
  · exact j10 [] (Q5.nil (by omega))
end Go.Gp
