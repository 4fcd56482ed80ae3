/- What the statements say, of the plain functions. -/
import Derived.Test.YtdjkljabfdcbnaaDefs
import Derived.Test.YtdjkljabfdcbnaaLe
import Derived.Test.YtdjkljabfdcbnaaThInts
import Derived.Test.YtdjkljabfdcbnaaThPack
import Derived.Test.YtdjkljabfdcbnaaThMesg
import Derived.Test.YtdjkljabfdcbnaaThMesg2
import Derived.Test.YtdjkljabfdcbnaaThMesg3
import Derived.Test.YtdjkljabfdcbnaaThMesg4
import Derived.Test.YtdjkljabfdcbnaaThMesg5
import Derived.Test.YtdjkljabfdcbnaaThMesg6
import Derived.Test.YtdjkljabfdcbnaaThMsg
import Derived.Test.YtdjkljabfdcbnaaThMesg7
import Derived.Test.YtdjkljabfdcbnaaThMesg8
import Derived.Test.YtdjkljabfdcbnaaThMesgS
import Derived.Test.YtdjkljabfdcbnaaThPack1
import Derived.Test.YtdjkljabfdcbnaaThMesg9
import Derived.Test.YtdjkljabfdcbnaaThMesg10
/- Messages are told and read as the document says, and as they were. -/
namespace Go.Gp
open Go
theorem same0_eq {a b : api_Msg} (h1 : a.Have.length < 3000) (h2 : a.Need.length < 3000) : mesg_Same.f 3000 a b = some (decide (a = b)) := by
  suffices hS : Sat (mesg_Same.f 3000 a b) (fun r => r = decide (a = b)) by
    obtain ⟨r, h1, h2⟩ := hS; rw [h1, h2]
  unfold mesg_Same.f
  refine sat_loop (fun v : Int => (9 - v).toNat) (fun v => 1 ≤ v ∧ v ≤ 9 ∧ ∀ k : Int, 1 ≤ k → k < v → canM { a with Kind := k } = canM { b with Kind := k }) ?_ 3000 _ ⟨by omega, by omega, fun k hk hk2 => by omega⟩ (by omega)
  rintro i ⟨g1, g2, g3⟩ ag hag
  show Sat (mesg_Same.B1 3000 a b _ ag i) _
  unfold mesg_Same.B1
  refine sat_if (fun hle => ?_) (fun hgt => ?_)
  · unfold mesg_Same.J2
    refine sat_b (alike_eq (x := { a with Kind := i }) (m := { b with Kind := i }) (fun _ => ⟨h1, h2⟩)) ?_
    refine sat_if (fun he => ?_) (fun hne => ?_)
    · rw [decide_eq_true_eq] at he
      have hw : w64 (i + 1) = i + 1 := w64_id (by omega)
      rw [hw]
      refine hag _ ⟨by omega, by omega, fun k hk hk2 => ?_⟩ (by omega)
      by_cases hki : k = i
      · subst hki; exact he
      · exact g3 k hk (by omega)
    · rw [decide_eq_true_eq] at hne
      refine sat_r ?_
      symm
      rw [decide_eq_false_iff_not]
      intro e
      subst e
      exact hne rfl
  · show Sat (mesg_Same.J1 3000 a b) _
    unfold mesg_Same.J1
    refine sat_r ?_
    rw [Bool.eq_iff_iff, beq_iff_eq, decide_eq_true_eq]
    constructor
    · intro hk
      have f2 := canM_fields (g3 2 (by omega) (by omega))
      have f3 := canM_fields (g3 3 (by omega) (by omega))
      have f4 := canM_fields (g3 4 (by omega) (by omega))
      have f5 := canM_fields (g3 5 (by omega) (by omega))
      have f7 := canM_fields (g3 7 (by omega) (by omega))
      have f8 := canM_fields (g3 8 (by omega) (by omega))
      obtain ⟨_, q1, q2, q3, q4, _⟩ := f2
      obtain ⟨q5, q6, q7⟩ := q4 rfl
      obtain ⟨_, _, _, _, _, q8, _⟩ := f3
      obtain ⟨q9, q10, _⟩ := q8 rfl
      obtain ⟨_, _, _, _, _, _, _, q11, _⟩ := f5
      obtain ⟨q12, q13, q14⟩ := q11 rfl
      obtain ⟨_, _, _, _, _, _, _, _, q15, _⟩ := f7
      obtain ⟨q16, q17, q18, q19⟩ := q15 rfl
      obtain ⟨_, _, _, _, _, _, _, _, _, q20⟩ := f8
      obtain ⟨q21, q22⟩ := q20 rfl
      dsimp only at q1 q2 q3 q5 q6 q7 q9 q10 q12 q13 q14 q16 q17 q18 q19 q21 q22
      cases a; cases b
      simp only at hk q1 q2 q3 q5 q6 q7 q9 q10 q12 q13 q14 q16 q17 q18 q19 q21 q22
      simp only [hk, q1, q2, q3, q5, q6, q7, q9, q10, q12, q13, q14, q16, q17, q18, q19, q21, q22]
    · intro e; rw [e]
theorem no_msg {m : api_Msg} (hk : m.Kind = 0 ∨ 6 < m.From) : ¬OkM m := fun h => by
  obtain ⟨h1, _, _, g⟩ := h
  rcases hk with hk | hk
  · rw [hk] at g; simp at g
  · omega
theorem awake_mesg : hocketlaw11_awake.f 3000 = some () := by
  obtain ⟨m, hm⟩ : ∃ m : api_Msg, m = ⟨7, 1, 2, 300, 0, 0, false, 0, 0, 0, 0, ([] : List UInt8), 4, 5, ([5, 4] : List Int), ([5] : List Int), 0, (⟨0, 0, (⟨0, 0, ([] : List UInt8), ([] : List UInt8), ([] : List UInt8)⟩ : api_Cmd)⟩ : api_Entry)⟩ := ⟨_, rfl⟩
  obtain ⟨z, hz⟩ : ∃ z : api_Msg, z = ⟨0, 0, 0, 0, 0, 0, false, 0, 0, 0, 0, ([] : List UInt8), 0, 0, ([] : List Int), ([] : List Int), 0, (⟨0, 0, (⟨0, 0, ([] : List UInt8), ([] : List UInt8), ([] : List UInt8)⟩ : api_Cmd)⟩ : api_Entry)⟩ := ⟨_, rfl⟩
  obtain ⟨y, hy⟩ : ∃ y : api_Msg, y = ⟨1, 7, 0, 0, 0, 0, false, 0, 0, 0, 0, ([] : List UInt8), 0, 0, ([] : List Int), ([] : List Int), 0, (⟨0, 0, (⟨0, 0, ([] : List UInt8), ([] : List UInt8), ([] : List UInt8)⟩ : api_Cmd)⟩ : api_Entry)⟩ := ⟨_, rfl⟩
  have ok : OkM m := by subst hm; exact ⟨by simp, by simp, by unfold far; simp, .inr (.inr (.inr (.inr (.inr (.inr (.inl ⟨rfl, by unfold far; simp, by unfold far; simp, ⟨by simp, by unfold far; simp⟩, ⟨by simp, by unfold far; simp⟩⟩))))))⟩
  have hc : canM m = m := by subst hm; rfl
  have en : ∀ n : Nat, n < 128 → enc (held2 (n : Int)) = [UInt8.ofNat n] := fun n hn => by rw [held2_nat n (by omega), enc_lt hn]
  have e300 : enc (held2 (300 : Int)) = [172, 2] := by
    have := held2_nat 300 (by omega)
    rw [show ((300 : Nat) : Int) = 300 from rfl] at this
    rw [this, enc_ge (by omega), enc_lt (by omega)]
    rfl
  have hw : wire m = [7, 1, 2, 172, 2, 4, 5, 2, 5, 4, 1, 5] := by
    subst hm
    unfold wire tailW
    dsimp only
    rw [if_neg (by omega), if_neg (by omega), if_neg (by omega), if_neg (by omega), if_pos rfl]
    simp only [numsL_cons, numsL_nil]
    have e7 := en 7 (by omega); have e1 := en 1 (by omega); have e2 := en 2 (by omega); have e4 := en 4 (by omega); have e5 := en 5 (by omega)
    rw [show ((7 : Nat) : Int) = 7 from rfl] at e7
    rw [show ((1 : Nat) : Int) = 1 from rfl] at e1
    rw [show ((2 : Nat) : Int) = 2 from rfl] at e2
    rw [show ((4 : Nat) : Int) = 4 from rfl] at e4
    rw [show ((5 : Nat) : Int) = 5 from rfl] at e5
    rw [e7, e1, e2, e300, e4, e5]
    simp only [List.length_cons, List.length_nil]
    rw [enc_lt (n := 0 + 1 + 1) (by omega), enc_lt (n := 0 + 1) (by omega)]
    rfl
  have mild : ∀ x : api_Msg, x.Have.length ≤ 2 → x.Need.length ≤ 2 → x.Entry = ⟨0, 0, ⟨0, 0, [], [], []⟩⟩ → Mild x := fun x h1 h2 h3 => ⟨by omega, by omega, by rw [h3]; simp, by rw [h3]; simp, by rw [h3]; simp⟩
  have mm : Mild m := mild m (by rw [hm]; simp) (by rw [hm]; simp) (by rw [hm])
  have mz : Mild z := mild z (by rw [hz]; simp) (by rw [hz]; simp) (by rw [hz])
  have my : Mild y := mild y (by rw [hy]; simp) (by rw [hy]; simp) (by rw [hy])
  have em : encM m = wire m := by unfold encM; rw [if_pos ok]
  have ez : encM z = [] := by unfold encM; rw [if_neg (no_msg (.inl (by rw [hz])))]
  have ey : encM y = [] := by unfold encM; rw [if_neg (no_msg (.inr (by rw [hy]; simp)))]
  have hl : (wire m).length = 12 := by rw [hw]; rfl
  unfold hocketlaw11_awake.f
  rw [← hm, ← hz, ← hy, encode_eq mm, em]
  simp only [Option.bind_some]
  rw [decode_eq (by omega), decM_wire ok, hc]
  simp only [Option.bind_some]
  rw [app_eq (by simp; omega)]
  simp only [Option.bind_some]
  rw [decode_eq (by simp; omega)]
  simp only [Option.bind_some]
  rw [if_pos hw, if_pos trivial, same0_eq (by rw [hm]; simp) (by rw [hm]; simp)]
  simp only [Option.bind_some]
  rw [if_pos (by simp), if_neg (by rw [decM_more ok (by simp)]; simp), encode_eq mz, ez]
  simp only [Option.bind_some]
  rw [if_pos (by simp), encode_eq my, ey]
  simp only [Option.bind_some]
  rw [if_pos (by simp), same0_eq (by rw [hm]; simp) (by rw [hm]; simp)]
  simp only [Option.bind_some]
  rw [if_neg (by rw [decide_eq_true_eq, hm, hz]; simp)]
theorem fin_mesg : Sat (Option.bind (hocketlaw11_awake.f 3000) fun _ => some ()) (fun _ => True) := sat_b awake_mesg (sat_r trivial)
theorem encM_ok {m : api_Msg} (h : OkM m) : encM m = wire m := by unfold encM; rw [if_pos h]
theorem Msg_tells_loop {l : List (List UInt8)} (hl : l.length = 5) (hs : ∀ c ∈ l, c.length ≤ 1000) : Sat (hocketlaw11_MesgTells.J4 3000 l (l.length : Int)) (fun _ => True) := by
  unfold hocketlaw11_MesgTells.J4
  refine sat_loop (fun v : Int => (5 - v).toNat) (fun v => ∃ i : Nat, v = i ∧ i ≤ 5) ?_ 3000 _ ⟨0, rfl, by omega⟩ (by omega)
  rintro _ ⟨i, rfl, hi⟩ ag hag
  show Sat (hocketlaw11_MesgTells.B1 3000 _ l _ ag i) _
  unfold hocketlaw11_MesgTells.B1
  refine sat_if (fun hlt => ?_) (fun _ => ?_)
  · have hi5 : i < l.length := by omega
    refine sat_b (ix_get (by omega) (by simpa using hi5)) ?_
    have hc := hs l[i] (List.getElem_mem _)
    simp only [Int.toNat_natCast]
    refine sat_b (decode_eq (by omega)) (sat_b (decode1_eq (by omega)) ?_)
    obtain ⟨r1, r2⟩ := decM_rows l[i]
    refine sat_t rfl (sat_b (same_eq r1 r2) (sat_t (by simp) ?_))
    have hw : w64 ((i : Int) + 1) = ((i + 1 : Nat) : Int) := by rw [w64_succ (by omega) (by omega)]; simp
    rw [hw]
    exact hag _ ⟨i + 1, rfl, by omega⟩ (by omega)
  · show Sat (hocketlaw11_MesgTells.J5 3000) _
    unfold hocketlaw11_MesgTells.J5
    exact fin_mesg
theorem w64_sum3 {a b c : Nat} (ha : a ≤ 140737488351232) (hb : b ≤ 140737488351232) (hc : c ≤ 140737488351232) : w64 (w64 ((a : Int) + (b : Int)) + (c : Int)) = (a : Int) + (b : Int) + (c : Int) := by
  rw [w64_id (n := (a : Int) + (b : Int)) (by omega), w64_id (by omega)]
theorem hocketlaw11_MesgTells.pure (x0 : api_Msg) (x1 x2 : Int) (x3 : List UInt8) (x4 : Int) (x5 : UInt8) (h0 : ok_api_Msg x0) {o1 o2 o3 o4 : Prop} (_ : o1) (_ : o2) (_ : o3) (_ : o4) : ∃ K r, hocketlaw11_MesgTells.f K x0 x1 x2 x3 x4 x5 = some r := by
  refine ⟨3000, sat_pure ?_⟩
  have out : ∀ z, z = true → Sat (hocketlaw11_MesgTells.J1 3000 x1 x2 x4 x0 x5 x3 z) (fun _ => True) := fun z hz => by
    subst hz
    unfold hocketlaw11_MesgTells.J1
    exact sat_t rfl fin_mesg
  unfold hocketlaw11_MesgTells.f
  refine sat_if (fun _ => out _ rfl) (fun g1 => sat_if (fun _ => out _ rfl) (fun g2 => sat_if (fun _ => out _ rfl) (fun g3 => sat_if (fun _ => out _ rfl) (fun g4 => ?_))))
  obtain ⟨_, _, _, _, _, _, _, _, _, _, _, _, _, _, _, _, _, _, _, _, _, q1, q2, q3⟩ := h0
  rw [w64_sum3 q1.1 q2.1 q3.1]
  by_cases g5 : (x0.Entry.Cmd.Key.length : Int) + (x0.Entry.Cmd.Val.length : Int) + (x0.Entry.Cmd.Old.length : Int) > 150
  · exact out _ (by simpa using g5)
  rw [decide_eq_false g5]
  have hm : Mild x0 := ⟨by omega, by omega, by omega, by omega, by omega⟩
  unfold hocketlaw11_MesgTells.J1
  refine sat_f (by simp) ?_
  refine sat_bs (msg_num x1 x2) (fun m ⟨ok, hc⟩ => ?_)
  obtain ⟨r1, r2, _, _⟩ := ok_rows ok hc
  refine sat_b (encode1_eq (by omega) (by omega)) ?_
  rw [encM_ok ok]
  have l1 := wire_ok_len ok
  have l2 := wire_pos m
  refine sat_b (app_eq (by simp; omega)) ?_
  rw [List.nil_append]
  refine sat_t (by omega) ?_
  refine sat_b (rem_eq (by omega)) ?_
  have hb := band_lt x4 65535 16 rfl (by decide)
  have ht := tmod_nn (x := band .i64 x4 65535) (y := ((wire m).length : Int)) hb.1 (by omega)
  generalize Int.tmod (band .i64 x4 65535) ((wire m).length : Int) = k at ht
  refine sat_b (ix_get (by omega) (by omega)) ?_
  unfold hocketlaw11_MesgTells.J2
  refine sat_loop (fun v : Int => (2 - v).toNat) (fun v => ∃ i : Nat, v = i ∧ i ≤ 2) ?_ 3000 _ ⟨0, rfl, by omega⟩ (by omega)
  rintro _ ⟨i, rfl, hi⟩ ag hag
  show Sat (hocketlaw11_MesgTells.B2 3000 x0 m _ ag i) _
  unfold hocketlaw11_MesgTells.B2
  refine sat_if (fun hlt => ?_) (fun _ => ?_)
  · simp only [List.length_cons, List.length_nil] at hlt
    have hi2 : i < ([x0, m] : List api_Msg).length := by simp; omega
    refine sat_b (ix_get (by omega) (by simpa using hi2)) ?_
    simp only [Int.toNat_natCast]
    have hy : ([x0, m] : List api_Msg)[i] = x0 ∨ ([x0, m] : List api_Msg)[i] = m := by
      have : i = 0 ∨ i = 1 := by omega
      rcases this with rfl | rfl
      · exact .inl rfl
      · exact .inr rfl
    have my : Mild ([x0, m] : List api_Msg)[i] := by
      rcases hy with h | h
      · rw [h]; exact hm
      · rw [h]; exact ok_mild ok hc
    generalize ([x0, m] : List api_Msg)[i] = y at my
    have mh := my.h
    have mn := my.n
    refine sat_b (encode_eq my) (sat_b (encode1_eq (by omega) (by omega)) (sat_t rfl (sat_b (same0_eq (by omega) (by omega)) (sat_b (same_eq (by omega) (by omega)) (sat_t rfl ?_)))))
    have hw : w64 ((i : Int) + 1) = ((i + 1 : Nat) : Int) := by rw [w64_succ (by omega) (by omega)]; simp
    rw [hw]
    exact hag _ ⟨i + 1, rfl, by omega⟩ (by omega)
  · show Sat (hocketlaw11_MesgTells.J3 3000 _ k x5 x3 _) _
    unfold hocketlaw11_MesgTells.J3
    refine sat_b (cut_eq ⟨by omega, by omega, by omega⟩) (sat_b (app_eq (by simp; omega)) (sat_b (app_eq (by simp; omega)) ?_))
    refine Msg_tells_loop rfl (fun c hcm => ?_)
    simp only [List.mem_cons, List.not_mem_nil, or_false] at hcm
    rcases hcm with rfl | rfl | rfl | rfl | rfl
    · omega
    · omega
    · rw [List.length_set]; omega
    · simp only [List.length_drop, List.length_take]; omega
    · simp only [List.length_append, List.length_singleton, List.length_nil]; omega
theorem hocketlaw11_MesgOwn.pure (x0 x1 : Int) {o0 o1 : Prop} (_ : o0) (_ : o1) : ∃ K r, hocketlaw11_MesgOwn.f K x0 x1 = some r := by
  refine ⟨3000, sat_pure ?_⟩
  obtain ⟨m, hm, ok, hc⟩ := msg_num x0 x1
  unfold hocketlaw11_MesgOwn.f
  have mm := ok_mild ok hc
  have l1 := wire_ok_len ok
  obtain ⟨r1, r2, r3, _⟩ := ok_rows ok hc
  refine sat_b hm (sat_b hm (sat_b (encode_eq mm) ?_))
  rw [encM_ok ok]
  refine sat_b (decode_eq (by omega)) ?_
  rw [decM_wire ok, hc]
  refine sat_loop (fun v : List UInt8 × Int => (((wire m).length : Int) - v.2).toNat) (fun v => ∃ i : Nat, v.2 = i ∧ i ≤ (wire m).length ∧ v.1.length = (wire m).length) ?_ 3000 _ ⟨0, rfl, by omega, rfl⟩ (by simp only; omega)
  rintro ⟨c, _⟩ ⟨i, rfl, hi, hcl⟩ ag hag
  simp only at hcl
  show Sat (hocketlaw11_MesgOwn.B4 3000 _ _ ag c i) _
  unfold hocketlaw11_MesgOwn.B4
  have hw : w64 ((i : Int) + 1) = ((i + 1 : Nat) : Int) := by rw [w64_succ (by omega) (by omega)]; simp
  refine sat_if (fun hlt => ?_) (fun _ => ?_)
  · refine sat_b (ix_get (by omega) (by simp; omega)) ?_
    rw [hw]
    exact hag _ ⟨i + 1, rfl, by omega, by simp [hcl]⟩ (by simp only; omega)
  show Sat (hocketlaw11_MesgOwn.J1 3000 (m, true) m m (wire m)) _
  unfold hocketlaw11_MesgOwn.J1
  refine sat_t rfl (sat_b (encode_eq mm) ?_)
  rw [encM_ok ok, show (!(wire m == wire m)) = false by simp]
  unfold hocketlaw11_MesgOwn.J2
  refine sat_f (by simp) ?_
  clear hag hw hcl ag hi
  refine sat_loop (fun v : Int × List Int => ((m.Have.length : Int) - v.1).toNat) (fun v => ∃ i : Nat, v.1 = i ∧ i ≤ m.Have.length ∧ v.2.length = m.Have.length) ?_ 3000 _ ⟨0, rfl, by omega, rfl⟩ (by simp only; omega)
  rintro ⟨_, c⟩ ⟨i, rfl, hi, hcl⟩ ag hag
  simp only at hcl
  show Sat (hocketlaw11_MesgOwn.B3 3000 (m, true) _ ag i c) _
  unfold hocketlaw11_MesgOwn.B3
  have hw : w64 ((i : Int) + 1) = ((i + 1 : Nat) : Int) := by rw [w64_succ (by omega) (by omega)]; simp
  refine sat_if (fun hlt => ?_) (fun _ => ?_)
  · simp only at hlt
    refine sat_b (ix_get (by omega) (by simp; omega)) ?_
    rw [hw]
    exact hag _ ⟨i + 1, rfl, by omega, by simp [hcl]⟩ (by simp only; omega)
  show Sat (hocketlaw11_MesgOwn.J3 3000 (m, true) m m (wire m) c) _
  unfold hocketlaw11_MesgOwn.J3
  clear hag hw hcl ag hi
  refine sat_loop (fun v : Int × List Int => ((m.Need.length : Int) - v.1).toNat) (fun v => ∃ i : Nat, v.1 = i ∧ i ≤ m.Need.length ∧ v.2.length = m.Need.length) ?_ 3000 _ ⟨0, rfl, by omega, rfl⟩ (by simp only; omega)
  rintro ⟨_, c⟩ ⟨i, rfl, hi, hcl⟩ ag hag
  simp only at hcl
  show Sat (hocketlaw11_MesgOwn.B2 3000 (m, true) _ ag i c) _
  unfold hocketlaw11_MesgOwn.B2
  have hw : w64 ((i : Int) + 1) = ((i + 1 : Nat) : Int) := by rw [w64_succ (by omega) (by omega)]; simp
  refine sat_if (fun hlt => ?_) (fun _ => ?_)
  · simp only at hlt
    refine sat_b (ix_get (by omega) (by simp; omega)) ?_
    rw [hw]
    exact hag _ ⟨i + 1, rfl, by omega, by simp [hcl]⟩ (by simp only; omega)
  show Sat (hocketlaw11_MesgOwn.J4 3000 (m, true) m m (wire m) c) _
  unfold hocketlaw11_MesgOwn.J4
  clear hag hw hcl ag hi
  refine sat_loop (fun v : Int × List UInt8 => ((m.Data.length : Int) - v.1).toNat) (fun v => ∃ i : Nat, v.1 = i ∧ i ≤ m.Data.length ∧ v.2.length = m.Data.length) ?_ 3000 _ ⟨0, rfl, by omega, rfl⟩ (by simp only; omega)
  rintro ⟨_, c⟩ ⟨i, rfl, hi, hcl⟩ ag hag
  simp only at hcl
  show Sat (hocketlaw11_MesgOwn.B1 3000 (m, true) _ ag i c) _
  unfold hocketlaw11_MesgOwn.B1
  have hw : w64 ((i : Int) + 1) = ((i + 1 : Nat) : Int) := by rw [w64_succ (by omega) (by omega)]; simp
  refine sat_if (fun hlt => ?_) (fun _ => ?_)
  · simp only at hlt
    refine sat_b (ix_get (by omega) (by simp; omega)) (sat_b (ix_get (by omega) (by simp; omega)) ?_)
    rw [hw]
    exact hag _ ⟨i + 1, rfl, by omega, by simp [hcl]⟩ (by simp only; omega)
  show Sat (hocketlaw11_MesgOwn.J5 3000 m m (wire m)) _
  unfold hocketlaw11_MesgOwn.J5
  refine sat_b (ok_same ok hc m) (sat_t (by simp) (sat_b (encode_eq mm) ?_))
  rw [encM_ok ok]
  exact sat_t rfl fin_mesg
end Go.Gp
