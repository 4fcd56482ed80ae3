/- What the statements say, of the plain functions. -/
import Derived.Test.YtbjefkmbpbdhbaaDefs
import Derived.Test.YtbjefkmbpbdhbaaLe
import Derived.Test.YtbjefkmbpbdhbaaPure4
import Derived.Test.YtbjefkmbpbdhbaaPure5
/- Layer 5, two more statements, of the plain functions. -/
namespace Go.Gp
open Go
def q5 (c : Nat) : List (List UInt8) := (List.range c).map fun j : Nat => [toU8 (j : Int)]
theorem q5_length (c : Nat) : (q5 c).length = c := by simp [q5]
theorem q5_succ (c : Nat) : q5 (c + 1) = q5 c ++ [[toU8 (c : Int)]] := by simp [q5, List.range_succ]
theorem q5_Q {K c : Nat} (hK : 20 < K) (h : c ≤ 8) : Q5 K (q5 c) := ⟨by rw [q5_length]; omega, by rw [q5_length]; omega, fun x hx => by
  obtain ⟨j, _, rfl⟩ := List.mem_map.1 hx
  simp⟩
theorem forms5_l66 {K : Nat} (hK : 20 < K) (n : Int) (m : Nat) (hm : mn (band .i64 n 15) 8 = m) (hm8 : m ≤ 8) : ∀ k (v : List (List UInt8) × Int), (0 ≤ v.2 ∧ v.2 ≤ m ∧ v.1 = (q5 m).drop v.2.toNat) → m - v.2.toNat < k →
    ∃ r, True ∧ hocketlaw5_FifoForms.l_66 K n (fun v => hocketlaw5_FifoForms.j_54 K v) k v = some r := by
  refine iter_inv (fun v : List (List UInt8) × Int => m - v.2.toNat) (fun v => 0 ≤ v.2 ∧ v.2 ≤ m ∧ v.1 = (q5 m).drop v.2.toNat) _ fun v hv => ?_
  obtain ⟨s, i⟩ := v
  obtain ⟨h1, h2, h3⟩ := hv
  simp only at h1 h2 h3 ⊢
  obtain ⟨c, rfl⟩ : ∃ c : Nat, i = c := ⟨i.toNat, by omega⟩
  unfold hocketlaw5_FifoForms.b_66
  rw [hm]
  by_cases hlt : (c : Int) < (m : Int)
  · have hQ : Q5 K s := by
      have := q5_Q hK hm8
      subst h3
      exact ⟨by simp [q5_length]; omega, by simp [q5_length]; omega, fun x hx => this.2.2 x (List.mem_of_mem_drop hx)⟩
    have hs : s = [toU8 (c : Int)] :: (q5 m).drop (c + 1) := by
      rw [h3, Int.toNat_natCast, List.drop_eq_getElem_cons (by rw [q5_length]; omega)]
      congr 1
      simp [q5]
    refine .inl ⟨((q5 m).drop (c + 1), (c : Int) + 1), ⟨by simp; omega, by simp; omega, by congr 1⟩, by simp; omega, fun ag => ?_⟩
    rw [if_pos hlt, pop5_eq hQ]
    subst hs
    simp only [Option.bind_some, pop5]
    rw [if_pos (by simp), ix_eq (x := toU8 (c : Int)) (by omega) (by simp)]
    simp only [Option.bind_some]
    rw [if_pos (by rw [toU8_toNat]; omega)]
    unfold hocketlaw5_FifoForms.j_87
    simp only [bne_self_eq_false, Bool.false_eq_true, if_false]
    rw [w64_succ (by omega) (by omega)]
  · refine .inr ⟨(), trivial, fun ag => ?_⟩
    rw [if_neg hlt]
    unfold hocketlaw5_FifoForms.j_54
    have : s = [] := by rw [h3]; exact List.drop_eq_nil_of_le (by rw [q5_length]; omega)
    simp [this, awake5 hK]
theorem forms5_j9 {K : Nat} (hK : 40 < K) (long n : Int) (h0 : 0 ≤ band .i64 n 15) (h15 : band .i64 n 15 ≤ 15) (hl0 : 0 ≤ band .i64 long 31) (hl : band .i64 long 31 ≤ 31) (m : Nat) (hm : (m : Int) = min (band .i64 n 15) 8) :
    ∃ r, hocketlaw5_FifoForms.j_9 K long n (q5 m) = some r := by
  have hm8 : m ≤ 8 := by omega
  have hQ := q5_Q (K := K) (by omega) hm8
  obtain ⟨r, _, hr⟩ := forms5_l66 (K := K) (by omega) n m (by rw [mn_eq]; omega) hm8 K (q5 m, 0) ⟨by simp, by simp, by simp⟩ (by simp; omega)
  have j46 : hocketlaw5_FifoForms.j_46 K n (q5 m) false = some r := by unfold hocketlaw5_FifoForms.j_46; rw [if_neg (by simp)]; exact hr
  refine ⟨r, ?_⟩
  unfold hocketlaw5_FifoForms.j_9
  rw [mk_eq ⟨hl0, by omega⟩]
  simp only [Option.bind_some]
  rw [push5_eq hQ]
  simp only [Option.bind_some]
  have hrep : ((List.replicate (band .i64 long 31).toNat (0 : UInt8)).length : Int) = band .i64 long 31 := by simp; omega
  unfold hocketlaw5_FifoForms.j_35 push5
  rw [hrep, q5_length]
  by_cases hlong : band .i64 long 31 > 16
  · simp only [if_pos hlong]
    have e : hocketlaw5_FifoForms.j_40 K (q5 m, ⟨1, [], 0⟩) n (q5 m) 1 = some r := by
      unfold hocketlaw5_FifoForms.j_40
      rw [if_pos rfl, if_neg (by decide), same5_eq hQ]
      simpa using j46
    split <;> exact e
  · simp only [if_neg hlong]
    by_cases h8 : band .i64 n 15 ≥ 8
    · rw [if_pos h8, if_pos (show (m : Int) ≥ 8 by omega)]
      unfold hocketlaw5_FifoForms.j_40
      rw [if_pos rfl, if_neg (by decide), same5_eq hQ]
      simpa using j46
    · rw [if_neg h8, if_neg (show ¬ (m : Int) ≥ 8 by omega)]
      unfold hocketlaw5_FifoForms.j_40
      rw [if_pos rfl, if_pos rfl, w64_succ h0 (by omega)]
      have : (((q5 m ++ [List.replicate (band .i64 long 31).toNat (0 : UInt8)]).length : Int) != band .i64 n 15 + 1) = false := by
        rw [List.length_append, q5_length]; simp; omega
      rw [this]
      exact j46
theorem hocketlaw5_FifoForms.pure (n long : Int) {o0 o1 : Prop} (_ : o0) (_ : o1) : ∃ K r, hocketlaw5_FifoForms.f K n long = some r := by
  refine ⟨100, ?_⟩
  have hn : band .i64 n 15 = n % 16 := band_mask n 4 (by decide)
  have hl : band .i64 long 31 = long % 32 := band_mask long 5 (by decide)
  have h0 : 0 ≤ band .i64 n 15 := by rw [hn]; omega
  have h15 : band .i64 n 15 ≤ 15 := by rw [hn]; omega
  have hl0 : 0 ≤ band .i64 long 31 := by rw [hl]; omega
  have hl31 : band .i64 long 31 ≤ 31 := by rw [hl]; omega
  obtain ⟨m, hm⟩ : ∃ m : Nat, (m : Int) = min (band .i64 n 15) 8 := ⟨(min (band .i64 n 15) 8).toNat, by omega⟩
  obtain ⟨r, hr⟩ := forms5_j9 (K := 100) (by decide) long n h0 h15 hl0 hl31 m hm
  unfold hocketlaw5_FifoForms.f
  obtain ⟨r, _, hr⟩ := iter_inv (f := fun again v => hocketlaw5_FifoForms.b_112 100 n (fun v => hocketlaw5_FifoForms.j_9 100 long n v) again v.1 v.2) (fun v : List (List UInt8) × Int => (16 - v.2).toNat) (fun v => 0 ≤ v.2 ∧ v.2 ≤ band .i64 n 15 ∧ v.1 = q5 (min v.2 8).toNat) (fun _ => True) (fun v hv => by
    obtain ⟨s, i⟩ := v
    obtain ⟨h1, h2, h3⟩ := hv
    simp only at h1 h2 h3 ⊢
    obtain ⟨c, rfl⟩ : ∃ c : Nat, i = c := ⟨i.toNat, by omega⟩
    unfold hocketlaw5_FifoForms.b_112
    by_cases hlt : (c : Int) < band .i64 n 15
    · refine .inl ⟨(q5 (min ((c : Int) + 1) 8).toNat, (c : Int) + 1), ⟨by simp; omega, by simp; omega, rfl⟩, by simp; omega, fun ag => ?_⟩
      rw [if_pos hlt]
      have hQ : Q5 100 s := by rw [h3]; exact q5_Q (by decide) (by omega)
      rw [push5_eq hQ]
      simp only [Option.bind_some]
      by_cases h8 : c < 8
      · have e : (min (c : Int) 8).toNat = c := by omega
        have e2 : (min ((c : Int) + 1) 8).toNat = c + 1 := by omega
        rw [e] at h3
        subst h3
        have hp : push5 (q5 c) [toU8 (c : Int)] = (q5 (c + 1), ⟨0, [], (c : Int) + 1⟩) := by
          unfold push5
          rw [if_neg (by simp), if_neg (by rw [q5_length]; omega), q5_succ, q5_length]
        rw [hp, e2]
        have hd : decide ((c : Int) < 8) = true := decide_eq_true (by omega)
        rw [hd, w64_succ (by omega) (by omega)]
        simp [hocketlaw5_FifoForms.j_143, w64_succ (show (0 : Int) ≤ c by omega) (by omega)]
      · have e : (min (c : Int) 8).toNat = 8 := by omega
        have e2 : (min ((c : Int) + 1) 8).toNat = 8 := by omega
        rw [e] at h3
        subst h3
        have hp : push5 (q5 8) [toU8 (c : Int)] = (q5 8, ⟨3, [], 0⟩) := by
          unfold push5
          rw [if_neg (by simp), if_pos (by rw [q5_length]; omega)]
        rw [hp, e2]
        have hd : decide ((c : Int) < 8) = false := decide_eq_false (by omega)
        rw [hd, w64_succ (by omega) (by omega)]
        simp [hocketlaw5_FifoForms.j_143, w64_succ (show (0 : Int) ≤ c by omega) (by omega)]
    · have e : (c : Int) = band .i64 n 15 := by omega
      refine .inr ⟨r, trivial, fun ag => ?_⟩
      rw [if_neg hlt, h3, e, show (min (band .i64 n 15) 8).toNat = m by omega]
      exact hr) 100 ([], 0) ⟨by simp, by simpa using h0, by rw [show (min (0 : Int) 8).toNat = 0 from rfl]; rfl⟩ (by simp)
  exact ⟨r, hr⟩
/-! ### in order -/
def sh5 (x : List UInt8) : Bool := decide (x.length ≤ 16)
theorem order5_l62 {K : Nat} (hK : 20 < K) (vals : List (List UInt8)) (hl : vals.length ≤ 140737488351232) (n : Nat) (hn : n ≤ 8) (hnF : n ≤ (vals.filter sh5).length) :
    ∀ k (v : List (List UInt8) × Int × Int), (0 ≤ v.2.2 ∧ v.2.2 ≤ vals.length ∧ v.2.1 = ((vals.take v.2.2.toNat).filter sh5).length ∧ v.2.1 ≤ n ∧ v.1 = ((vals.filter sh5).take n).drop v.2.1.toNat) → vals.length - v.2.2.toNat < k →
    ∃ r, True ∧ hocketlaw5_FifoOrder.l_62 K vals n (fun v => hocketlaw5_FifoOrder.j_49 K v) k v = some r := by
  refine iter_inv (fun v : List (List UInt8) × Int × Int => vals.length - v.2.2.toNat) (fun v => 0 ≤ v.2.2 ∧ v.2.2 ≤ vals.length ∧ v.2.1 = ((vals.take v.2.2.toNat).filter sh5).length ∧ v.2.1 ≤ n ∧ v.1 = ((vals.filter sh5).take n).drop v.2.1.toNat) _ fun v hv => ?_
  obtain ⟨s, c, i⟩ := v
  obtain ⟨h1, h2, h3, h4, h5⟩ := hv
  simp only at h1 h2 h3 h4 h5 ⊢
  obtain ⟨j, rfl⟩ : ∃ j : Nat, i = j := ⟨i.toNat, by omega⟩
  obtain ⟨c, rfl⟩ : ∃ d : Nat, c = d := ⟨c.toNat, by omega⟩
  simp only [Int.toNat_natCast] at h3 h5 ⊢
  have hsl : s.length = n - c := by rw [h5, List.length_drop, List.length_take]; omega
  have fin : (n ≤ c) → ∀ ag, hocketlaw5_FifoOrder.j_70 K vals j ag s c n (fun v => hocketlaw5_FifoOrder.j_49 K v) false = some () := fun hc ag => by
    have : s = [] := List.eq_nil_of_length_eq_zero (by omega)
    simp [hocketlaw5_FifoOrder.j_70, hocketlaw5_FifoOrder.j_49, this, awake5 hK]
  unfold hocketlaw5_FifoOrder.b_62
  by_cases hlt : (j : Int) < (vals.length : Int)
  · have hjl : j < vals.length := by omega
    have htake : vals.take (j + 1) = vals.take j ++ [vals[j]] := (List.take_append_getElem hjl).symm
    by_cases hc : (c : Int) < (n : Int)
    · by_cases hlong : ((vals[j]).length : Int) > 16
      · have hs5 : sh5 vals[j] = false := decide_eq_false (by omega)
        refine .inl ⟨(s, (c : Int), (j : Int) + 1), ⟨by simp; omega, by simp; omega, ?_, by simpa using h4, by simpa using h5⟩, by simp; omega, fun ag => ?_⟩
        · simp only
          rw [show ((j : Int) + 1).toNat = j + 1 by omega, htake, List.filter_append, List.length_append]
          simp [hs5]
          omega
        · rw [if_pos hlt, decide_eq_true hc]
          unfold hocketlaw5_FifoOrder.j_70
          rw [if_pos rfl, ix_get (by omega) (by simpa using hjl)]
          simp only [Option.bind_some, Int.toNat_natCast]
          rw [if_pos hlong, w64_succ (by omega) (by omega)]
      · have hs5 : sh5 vals[j] = true := decide_eq_true (by omega)
        have hF : vals.filter sh5 = (vals.take j).filter sh5 ++ vals[j] :: (vals.drop (j + 1)).filter sh5 := by
          conv => lhs; rw [← List.take_append_drop j vals, List.drop_eq_getElem_cons hjl, List.filter_append, List.filter_cons_of_pos hs5]
        have hs : s = vals[j] :: ((vals.filter sh5).take n).drop (c + 1) := by
          rw [h5]
          have hcl : c < ((vals.filter sh5).take n).length := by rw [List.length_take]; omega
          rw [List.drop_eq_getElem_cons hcl]
          congr 1
          rw [List.getElem_take]
          have : (vals.filter sh5)[c]? = some vals[j] := by
            rw [hF, List.getElem?_append_right (by omega)]
            simp [show c - ((vals.take j).filter sh5).length = 0 by omega]
          obtain ⟨_, e⟩ := List.getElem?_eq_some_iff.1 this
          exact e
        have hQ : Q5 K s := ⟨by omega, by omega, fun x hx => by
          rw [h5] at hx
          have := List.mem_of_mem_take (List.mem_of_mem_drop hx)
          have := of_decide_eq_true (List.mem_filter.1 this).2
          omega⟩
        refine .inl ⟨(((vals.filter sh5).take n).drop (c + 1), (c : Int) + 1, (j : Int) + 1), ⟨by simp; omega, by simp; omega, ?_, by simp; omega, by simp only; congr 1⟩, by simp; omega, fun ag => ?_⟩
        · simp only
          rw [show ((j : Int) + 1).toNat = j + 1 by omega, htake, List.filter_append, List.length_append]
          simp [hs5]
          omega
        · rw [if_pos hlt, decide_eq_true hc]
          unfold hocketlaw5_FifoOrder.j_70
          rw [if_pos rfl, ix_get (by omega) (by simpa using hjl)]
          simp only [Option.bind_some, Int.toNat_natCast]
          rw [if_neg hlong, pop5_eq hQ]
          have hw : w64 ((n : Int) - c) = (n : Int) - c := w64_id (by omega)
          have hlen : (s.length : Int) = (n : Int) - c := by omega
          have hp : pop5 s = (((vals.filter sh5).take n).drop (c + 1), ⟨0, vals[j], 0⟩) := by rw [hs]; rfl
          rw [hp, hlen, hw]
          simp [hocketlaw5_FifoOrder.j_97, w64_succ (show (0 : Int) ≤ c by omega) (by omega), w64_succ (show (0 : Int) ≤ j by omega) (by omega)]
    · exact .inr ⟨(), trivial, fun ag => by rw [if_pos hlt, decide_eq_false hc]; exact fin (by omega) ag⟩
  · have hj : j = vals.length := by omega
    rw [hj, List.take_length] at h3
    exact .inr ⟨(), trivial, fun ag => by rw [if_neg hlt]; exact fin (by omega) ag⟩
theorem hocketlaw5_FifoOrder.pure (vals : List (List UInt8)) (h0 : vals.length ≤ 140737488351232 ∧ ∀ x ∈ vals, x.length ≤ 140737488351232 ∧ ∀ y ∈ x, True) : ∃ K r, hocketlaw5_FifoOrder.f K vals = some r := by
  refine ⟨vals.length + 100, ?_⟩
  generalize hK : vals.length + 100 = K
  obtain ⟨hl, -⟩ := h0
  have fin : ∀ (s : List (List UInt8)) (c j : Nat), c ≤ 8 → s = (vals.take j).filter sh5 → s.length = c → ∃ r, hocketlaw5_FifoOrder.j_10 K vals s c = some r := fun s c j hc hs hsl => by
    have hpre : s = (vals.filter sh5).take c := by
      rw [hs]
      have : vals.filter sh5 = (vals.take j).filter sh5 ++ (vals.drop j).filter sh5 := by rw [← List.filter_append, List.take_append_drop]
      rw [this, List.take_append_of_le_length (by rw [← hs]; omega), ← hs, ← hsl, List.take_length]
    have hQ : Q5 K s := ⟨by omega, by omega, fun x hx => by
      rw [hpre] at hx
      have := of_decide_eq_true (List.mem_filter.1 (List.mem_of_mem_take hx)).2
      omega⟩
    have hcF : c ≤ (vals.filter sh5).length := by
      have := congrArg List.length hpre
      rw [List.length_take] at this
      omega
    obtain ⟨r, _, hr⟩ := order5_l62 (K := K) (by omega) vals hl c hc hcF K (s, 0, 0) ⟨by simp, by simp, by simp, by simp, by simpa using hpre⟩ (by simp; omega)
    have j41 : hocketlaw5_FifoOrder.j_41 K vals c s false = some r := by unfold hocketlaw5_FifoOrder.j_41; rw [if_neg (by simp)]; exact hr
    refine ⟨r, ?_⟩
    unfold hocketlaw5_FifoOrder.j_10
    rw [push5_eq hQ]
    simp only [Option.bind_some]
    split
    · rename_i h8
      have : (push5 s [120]).2.Err = 3 := by
        unfold push5
        rw [if_neg (by simp), if_pos (by omega)]
      rw [this]
      exact j41
    · exact j41
  unfold hocketlaw5_FifoOrder.f
  obtain ⟨r, _, hr⟩ := iter_inv (f := fun again v => hocketlaw5_FifoOrder.b_119 K vals (fun v => hocketlaw5_FifoOrder.j_10 K vals v.1 v.2) again v.1 v.2.1 v.2.2) (fun v : List (List UInt8) × Int × Int => vals.length - v.2.2.toNat) (fun v => 0 ≤ v.2.2 ∧ v.2.2 ≤ vals.length ∧ v.1 = (vals.take v.2.2.toNat).filter sh5 ∧ (v.1.length : Int) = v.2.1 ∧ v.2.1 ≤ 8) (fun _ => True) (fun v hv => by
    obtain ⟨s, c, i⟩ := v
    obtain ⟨h1, h2, h3, h4, h5⟩ := hv
    simp only at h1 h2 h3 h4 h5 ⊢
    obtain ⟨j, rfl⟩ : ∃ j : Nat, i = j := ⟨i.toNat, by omega⟩
    obtain ⟨c, rfl⟩ : ∃ d : Nat, c = d := ⟨c.toNat, by omega⟩
    simp only [Int.toNat_natCast] at h3 ⊢
    obtain ⟨r, hr⟩ := fin s c j (by omega) h3 (by omega)
    have done : ∀ ag, hocketlaw5_FifoOrder.j_127 K vals j ag s c (fun v => hocketlaw5_FifoOrder.j_10 K vals v.1 v.2) false = some r := fun ag => by
      unfold hocketlaw5_FifoOrder.j_127
      rw [if_neg (by simp)]
      exact hr
    unfold hocketlaw5_FifoOrder.b_119
    by_cases hlt : (j : Int) < (vals.length : Int)
    · have hjl : j < vals.length := by omega
      have htake : vals.take (j + 1) = vals.take j ++ [vals[j]] := (List.take_append_getElem hjl).symm
      by_cases hc : (c : Int) < 8
      · by_cases hlong : ((vals[j]).length : Int) > 16
        · have hs5 : sh5 vals[j] = false := decide_eq_false (by omega)
          refine .inl ⟨(s, (c : Int), (j : Int) + 1), ⟨by simp; omega, by simp; omega, ?_, by simpa using h4, by simpa using h5⟩, by simp; omega, fun ag => ?_⟩
          · simp only
            rw [show ((j : Int) + 1).toNat = j + 1 by omega, htake, List.filter_append, h3]
            simp [hs5]
          · rw [if_pos hlt, decide_eq_true hc]
            unfold hocketlaw5_FifoOrder.j_127
            rw [if_pos rfl, ix_get (by omega) (by simpa using hjl)]
            simp only [Option.bind_some, Int.toNat_natCast]
            rw [if_pos hlong, w64_succ (by omega) (by omega)]
        · have hs5 : sh5 vals[j] = true := decide_eq_true (by omega)
          have hQ : Q5 K s := ⟨by omega, by omega, fun x hx => by
            rw [h3] at hx
            have := of_decide_eq_true (List.mem_filter.1 hx).2
            omega⟩
          have hp : push5 s vals[j] = (s ++ [vals[j]], ⟨0, [], (c : Int) + 1⟩) := by
            unfold push5
            rw [if_neg hlong, if_neg (by omega), h4]
          refine .inl ⟨(s ++ [vals[j]], (c : Int) + 1, (j : Int) + 1), ⟨by simp; omega, by simp; omega, ?_, by simp; omega, by simp; omega⟩, by simp; omega, fun ag => ?_⟩
          · simp only
            rw [show ((j : Int) + 1).toNat = j + 1 by omega, htake, List.filter_append, h3]
            simp [hs5]
          · rw [if_pos hlt, decide_eq_true hc]
            unfold hocketlaw5_FifoOrder.j_127
            rw [if_pos rfl, ix_get (by omega) (by simpa using hjl)]
            simp only [Option.bind_some, Int.toNat_natCast]
            rw [if_neg hlong, push5_eq hQ, hp]
            have hlen : ((s ++ [vals[j]]).length : Int) = (c : Int) + 1 := by rw [List.length_append]; simp; omega
            simp only [Option.bind_some, hlen, h4]
            simp [hocketlaw5_FifoOrder.j_165, w64_succ (show (0 : Int) ≤ c by omega) (by omega), w64_succ (show (0 : Int) ≤ j by omega) (by omega)]
      · exact .inr ⟨r, trivial, fun ag => by rw [if_pos hlt, decide_eq_false hc]; exact done ag⟩
    · exact .inr ⟨r, trivial, fun ag => by rw [if_neg hlt]; exact done ag⟩) K ([], 0, 0) ⟨by simp, by simp, by simp, by simp, by simp⟩ (by simp; omega)
  exact ⟨r, hr⟩
end Go.Gp
