/- What the statements say, of the plain functions. -/
import Derived.Test.YtmcaielgjfpekaaDefs
import Derived.Test.YtmcaielgjfpekaaLe
import Derived.Test.YtmcaielgjfpekaakThInts
import Derived.Test.YtmcaielgjfpekaakThPack
import Derived.Test.YtmcaielgjfpekaakThMesg
import Derived.Test.YtmcaielgjfpekaakThMesg2
import Derived.Test.YtmcaielgjfpekaakThMesg3
import Derived.Test.YtmcaielgjfpekaakThMesg4
import Derived.Test.YtmcaielgjfpekaakThMesg5
import Derived.Test.YtmcaielgjfpekaakThMesg6
import Derived.Test.YtmcaielgjfpekaakThMsg
import Derived.Test.YtmcaielgjfpekaakThMesg7
import Derived.Test.YtmcaielgjfpekaakThMesg8
import Derived.Test.YtmcaielgjfpekaakThMesgS
import Derived.Test.YtmcaielgjfpekaaGpCrc
import Derived.Test.YtmcaielgjfpekaakThCrc
import Derived.Test.YtmcaielgjfpekaakThFram
import Derived.Test.YtmcaielgjfpekaakThPack1
/- Messages, as the document has them. -/
namespace Go.Gp
open Go
theorem nums_eq {l : List Int} (hl : l.length < 90) {b : List UInt8} (hb : b.length ≤ 10000000) : hocketref11_nums.f 2000000 b l = some (b ++ numsL l) := by
  suffices h : Sat (hocketref11_nums.f 2000000 b l) (fun r => r = b ++ numsL l) by
    obtain ⟨r, h1, h2⟩ := h; rw [h1, h2]
  unfold hocketref11_nums.f
  refine sat_loop (fun v : List UInt8 × Int => ((l.length : Int) - v.2).toNat) (fun v => ∃ i : Nat, v.2 = i ∧ i ≤ l.length ∧ v.1 = b ++ numsL (l.take i)) ?_ 2000000 _ ⟨0, rfl, by omega, by simp [numsL_nil]⟩ (by simp only; omega)
  rintro ⟨c, j⟩ ⟨i, h1, h2, h3⟩ ag hag
  simp only at h1 h2 h3
  subst h1 h3
  show Sat (hocketref11_nums.B1 2000000 l _ ag _ i) _
  unfold hocketref11_nums.B1
  have hn := numsL_len (l.take i)
  have ht : (l.take i).length ≤ 90 := by simp only [List.length_take]; omega
  refine sat_if (fun hlt => ?_) (fun hge => ?_)
  · have hi : i < l.length := by omega
    refine sat_b (ix_get (by omega) (by simpa using hi)) (sat_b (num1_eq (by decide) (by simp only [List.length_append]; omega) _) ?_)
    have hw : w64 ((i : Int) + 1) = ((i + 1 : Nat) : Int) := by rw [w64_succ (by omega) (by omega)]; simp
    rw [hw]
    refine hag _ ⟨i + 1, rfl, by omega, ?_⟩ (by simp only; omega)
    simp only [Int.toNat_natCast]
    rw [← List.take_append_getElem (l := l) (i := i) hi, numsL_snoc, List.append_assoc]
  · have : i = l.length := by omega
    subst this
    rw [List.take_length]
    exact sat_r rfl
theorem put1_eq {e : api_Entry} (h1 : e.Cmd.Key.length ≤ 10000000) (h2 : e.Cmd.Val.length ≤ 10000000) (h3 : e.Cmd.Old.length ≤ 10000000) {b : List UInt8} (hb : b.length ≤ 10000000) : hocketref4_PutEntry.f 2000000 b e = some (b ++ entW e) := by
  unfold hocketref4_PutEntry.f
  have g1 := enc_held e.Sess
  have g2 := enc_held e.Seq
  have g3 := enc_held e.Cmd.Kind
  have g4 := enc_held e.Cmd.Who
  have g5 := enc_len9 (n := e.Cmd.Key.length) (by omega)
  have g6 := enc_len9 (n := e.Cmd.Val.length) (by omega)
  rw [num1_eq (by decide) (by omega)]
  simp only [Option.bind_some]
  rw [num1_eq (by decide) (by simp only [List.length_append]; omega)]
  simp only [Option.bind_some]
  rw [num1_eq (by decide) (by simp only [List.length_append]; omega)]
  simp only [Option.bind_some]
  rw [num1_eq (by decide) (by simp only [List.length_append]; omega)]
  simp only [Option.bind_some]
  rw [bytes1_eq (by decide) (by simp only [List.length_append]; omega) (by omega)]
  simp only [Option.bind_some]
  rw [bytes1_eq (by decide) (by simp only [List.length_append]; omega) (by omega)]
  simp only [Option.bind_some]
  rw [bytes1_eq (by decide) (by simp only [List.length_append]; omega) (by omega)]
  simp only [Option.bind_some]
  unfold entW cmdW
  rw [numsL_cons, numsL_cons, numsL_cons, numsL_cons, numsL_nil]
  simp only [List.append_assoc, List.append_nil]
theorem within_eq {l : List Int} (hl : l.length < 1999900) (n : Int) : hocketref11_within.f 2000000 l n = some (decide ((∀ x ∈ l, 0 ≤ x ∧ x ≤ far) ∧ (l.length : Int) ≤ n)) := by
  have f0 : far = 1099511627776 := rfl
  suffices h : Sat (hocketref11_within.f 2000000 l n) (fun r => r = decide ((∀ x ∈ l, 0 ≤ x ∧ x ≤ far) ∧ (l.length : Int) ≤ n)) by
    obtain ⟨r, h1, h2⟩ := h; rw [h1, h2]
  unfold hocketref11_within.f
  refine sat_loop (fun v : Int => ((l.length : Int) - v).toNat) (fun v => ∃ i : Nat, v = i ∧ i ≤ l.length ∧ ∀ x ∈ l.take i, 0 ≤ x ∧ x ≤ far) ?_ 2000000 _ ⟨0, rfl, by omega, by simp⟩ (by omega)
  rintro _ ⟨i, rfl, h2, h3⟩ ag hag
  show Sat (hocketref11_within.B1 2000000 l _ ag i) _
  unfold hocketref11_within.B1
  have hw : w64 ((i : Int) + 1) = ((i + 1 : Nat) : Int) := by rw [w64_succ (by omega) (by omega)]; simp
  refine sat_if (fun hlt => ?_) (fun hge => ?_)
  · have hi : i < l.length := by omega
    have hg := ix_get (xs := l) (i := (i : Int)) (by omega) (by simpa using hi)
    have bad : ¬(0 ≤ l[i] ∧ l[i] ≤ far) → Sat (hocketref11_within.J2 2000000 ag i true) (fun r => r = decide ((∀ x ∈ l, 0 ≤ x ∧ x ≤ far) ∧ (l.length : Int) ≤ n)) := fun hb => by
      unfold hocketref11_within.J2
      refine sat_t rfl (sat_r ?_)
      symm
      rw [decide_eq_false_iff_not]
      exact fun h => hb (h.1 _ (List.getElem_mem _))
    refine sat_b hg (sat_if (fun hneg => ?_) (fun hneg => sat_b hg ?_))
    · simp only [Int.toNat_natCast] at hneg
      exact bad (fun h => by omega)
    · simp only [Int.toNat_natCast] at hneg ⊢
      by_cases hbig : l[i] > 1099511627776
      · rw [decide_eq_true hbig]
        exact bad (fun h => by omega)
      · rw [decide_eq_false hbig]
        unfold hocketref11_within.J2
        refine sat_f (by simp) ?_
        rw [hw]
        refine hag _ ⟨i + 1, rfl, by omega, fun x hx => ?_⟩ (by omega)
        rw [← List.take_append_getElem (l := l) (i := i) hi] at hx
        rcases List.mem_append.1 hx with h | h
        · exact h3 x h
        · obtain rfl := List.mem_singleton.1 h
          omega
  · have : i = l.length := by omega
    subst this
    rw [List.take_length] at h3
    show Sat (hocketref11_within.J1 2000000 l n) _
    unfold hocketref11_within.J1
    refine sat_r ?_
    exact decide_eq_decide.2 ⟨fun h => ⟨h3, h⟩, fun h => h.2⟩
theorem entry1_eq (e : api_Entry) : ∃ b, hocketref11_entry.f e = some b ∧ (b = true ↔ EntOk e) := by
  unfold hocketref11_entry.f
  by_cases h1 : e.Sess ≥ 0
  case neg => exact ⟨false, by rw [if_neg h1], by simp only [Bool.false_eq_true, false_iff]; exact fun h => h1 h.s1.1⟩
  rw [if_pos h1]
  by_cases h2 : e.Sess ≤ 1073741824
  case neg => exact ⟨false, by rw [if_neg h2], by simp only [Bool.false_eq_true, false_iff]; exact fun h => h2 h.s1.2⟩
  rw [if_pos h2]
  by_cases h3 : e.Seq ≥ 0
  case neg => exact ⟨false, by rw [if_neg h3], by simp only [Bool.false_eq_true, false_iff]; exact fun h => h3 h.s2.1⟩
  rw [if_pos h3]
  by_cases h4 : e.Seq ≤ 1073741824
  case neg => exact ⟨false, by rw [if_neg h4], by simp only [Bool.false_eq_true, false_iff]; exact fun h => h4 h.s2.2⟩
  rw [if_pos h4]
  by_cases h5 : e.Cmd.Kind ≥ 0
  case neg => exact ⟨false, by rw [if_neg h5], by simp only [Bool.false_eq_true, false_iff]; exact fun h => h5 h.s3.1⟩
  rw [if_pos h5]
  by_cases h6 : e.Cmd.Kind ≤ 1073741824
  case neg => exact ⟨false, by rw [if_neg h6], by simp only [Bool.false_eq_true, false_iff]; exact fun h => h6 h.s3.2⟩
  rw [if_pos h6]
  by_cases h7 : e.Cmd.Who ≥ 0
  case neg => exact ⟨false, by rw [if_neg h7], by simp only [Bool.false_eq_true, false_iff]; exact fun h => h7 h.s4.1⟩
  rw [if_pos h7]
  by_cases h8 : e.Cmd.Who ≤ 1073741824
  case neg => exact ⟨false, by rw [if_neg h8], by simp only [Bool.false_eq_true, false_iff]; exact fun h => h8 h.s4.2⟩
  rw [if_pos h8]
  by_cases h9 : (e.Cmd.Key.length : Int) ≤ 32
  case neg => exact ⟨false, by rw [if_neg h9], by simp only [Bool.false_eq_true, false_iff]; exact fun h => h9 (by have := h.l1; omega)⟩
  rw [if_pos h9]
  by_cases h10 : (e.Cmd.Val.length : Int) ≤ 32
  case neg => exact ⟨false, by rw [if_neg h10], by simp only [Bool.false_eq_true, false_iff]; exact fun h => h10 (by have := h.l2; omega)⟩
  rw [if_pos h10]
  refine ⟨_, rfl, ?_⟩
  rw [decide_eq_true_eq]
  exact ⟨fun h => ⟨⟨h1, h2⟩, ⟨h3, h4⟩, ⟨h5, h6⟩, ⟨h7, h8⟩, by omega, by omega, by omega⟩, fun h => by have := h.l3; omega⟩
theorem okM_eq {m : api_Msg} (h1 : m.Have.length < 1999900) (h2 : m.Need.length < 1999900) : ∃ b, hocketref11_Ok.f 2000000 m = some b ∧ (b = true ↔ OkM m) := by
  have f0 : far = 1099511627776 := rfl
  have one : ∀ x : Int, (∀ y ∈ [x], 0 ≤ y ∧ y ≤ far) ↔ (0 ≤ x ∧ x ≤ far) := fun x => by simp
  have two : ∀ x z : Int, (∀ y ∈ [x, z], 0 ≤ y ∧ y ≤ far) ↔ (0 ≤ x ∧ x ≤ far) ∧ (0 ≤ z ∧ z ≤ far) := fun x z => by simp
  have no : ∀ {x : Option Bool}, x = some false → ¬OkM m → ∃ b, x = some b ∧ (b = true ↔ OkM m) := fun h hn => ⟨false, h, by simpa using hn⟩
  have bad : ¬((0 ≤ m.From ∧ m.From ≤ 6) ∧ (0 ≤ m.To ∧ m.To ≤ 6) ∧ (0 ≤ m.View ∧ m.View ≤ far)) → ∃ b, hocketref11_Ok.J1 2000000 m true = some b ∧ (b = true ↔ OkM m) := fun hb => by
    unfold hocketref11_Ok.J1
    rw [if_pos rfl]
    exact no rfl (fun h => hb ⟨h.1, h.2.1, h.2.2.1⟩)
  unfold hocketref11_Ok.f
  split
  · exact bad (by omega)
  split
  · exact bad (by omega)
  split
  · exact bad (by omega)
  split
  · exact bad (by omega)
  split
  · exact bad (by omega)
  by_cases hv : m.View > 1099511627776
  · rw [decide_eq_true hv]; exact bad (by omega)
  rw [decide_eq_false hv]
  have gf : (0 ≤ m.From ∧ m.From ≤ 6) ∧ (0 ≤ m.To ∧ m.To ≤ 6) ∧ (0 ≤ m.View ∧ m.View ≤ far) := by omega
  unfold hocketref11_Ok.J1
  rw [if_neg (by simp)]
  have bind1 : ∀ z : Option Bool, (Option.bind z fun t => some t) = z := fun z => by cases z <;> rfl
  by_cases k1 : m.Kind = 1
  · rw [if_pos k1, show (m.Kind == 1) = true by simpa using k1]
    exact ⟨true, rfl, by simp only [true_iff]; exact ⟨gf.1, gf.2.1, gf.2.2, .inl k1⟩⟩
  rw [if_neg k1]
  by_cases k6 : m.Kind = 6
  · rw [show (m.Kind == 6) = true by simpa using k6]
    exact ⟨true, rfl, by simp only [true_iff]; exact ⟨gf.1, gf.2.1, gf.2.2, .inr (.inl k6)⟩⟩
  rw [show (m.Kind == 6) = false by simpa using k6]
  unfold hocketref11_Ok.J2
  rw [if_neg (by simp)]
  simp only [bind1]
  have okk : ∀ {p : Prop} [Decidable p], (OkM m ↔ p) → ∃ b, some (decide p) = some b ∧ (b = true ↔ OkM m) := fun h => ⟨_, rfl, by rw [decide_eq_true_eq, h]⟩
  by_cases k2 : m.Kind = 2
  · rw [if_pos k2, within_eq (by simp)]
    refine okk ?_
    rw [two]
    unfold OkM
    simp only [k2, Int.reduceEq, false_and, false_or, or_false, true_and, gf, List.length_cons, List.length_nil]
    simp
  rw [if_neg k2]
  by_cases k3 : m.Kind = 3
  · rw [if_pos k3, within_eq (by simp)]
    have e : OkM m ↔ (0 ≤ m.Members ∧ m.Members ≤ 127) ∧ (0 ≤ m.Source ∧ m.Source ≤ 6) ∧ (0 ≤ m.Len ∧ m.Len ≤ far) := by
      unfold OkM
      simp only [k3, Int.reduceEq, false_and, false_or, or_false, true_and, gf]
    split
    · split
      · split
        · split
          · refine okk ?_
            rw [e, one]
            simp only [List.length_cons, List.length_nil]
            omega
          · exact no rfl (by rw [e]; omega)
        · exact no rfl (by rw [e]; omega)
      · exact no rfl (by rw [e]; omega)
    · exact no rfl (by rw [e]; omega)
  rw [if_neg k3]
  by_cases k4 : m.Kind = 4
  · rw [if_pos k4, within_eq (by simp)]
    refine okk ?_
    rw [one]
    unfold OkM
    simp only [k4, Int.reduceEq, false_and, false_or, or_false, true_and, gf, List.length_cons, List.length_nil]
    simp
  rw [if_neg k4]
  by_cases k5 : m.Kind = 5
  · rw [if_pos k5, within_eq (by simp)]
    have e : OkM m ↔ (0 ≤ m.At ∧ m.At ≤ far) ∧ (0 ≤ m.Total ∧ m.Total ≤ far) ∧ m.Data.length ≤ 64 := by
      unfold OkM
      simp only [k5, Int.reduceEq, false_and, false_or, or_false, true_and, gf]
    simp only [Option.bind_some, decide_eq_true_eq, two]
    split
    · refine okk ?_
      rw [e]
      omega
    · refine no rfl ?_
      rw [e]
      rename_i hn
      exact fun h => hn ⟨⟨h.1, h.2.1⟩, by simp⟩
  rw [if_neg k5]
  by_cases k7 : m.Kind = 7
  · rw [if_pos k7, within_eq (by simp), within_eq h1, within_eq h2]
    have e : OkM m ↔ (0 ≤ m.Hop ∧ m.Hop ≤ far) ∧ (0 ≤ m.Seq ∧ m.Seq ≤ far) ∧ (m.Have.length ≤ 7 ∧ ∀ x ∈ m.Have, 0 ≤ x ∧ x ≤ far) ∧ (m.Need.length ≤ 8 ∧ ∀ x ∈ m.Need, 0 ≤ x ∧ x ≤ far) := by
      unfold OkM
      simp only [k7, Int.reduceEq, false_and, false_or, or_false, true_and, gf]
    simp only [Option.bind_some, decide_eq_true_eq, two]
    split
    · rename_i g1
      split
      · rename_i g2
        refine okk ?_
        rw [e]
        constructor
        · intro h; exact ⟨h.2.2.2.2, by have := h.2.2.2.1; omega⟩
        · intro h; exact ⟨g1.1.1, g1.1.2, ⟨by have := g2.2; omega, g2.1⟩, ⟨by have := h.2; omega, h.1⟩⟩
      · rename_i g2
        refine no rfl ?_
        rw [e]
        exact fun h => g2 ⟨h.2.2.1.2, by have := h.2.2.1.1; omega⟩
    · rename_i g1
      refine no rfl ?_
      rw [e]
      exact fun h => g1 ⟨⟨h.1, h.2.1⟩, by simp⟩
  rw [if_neg k7]
  by_cases k8 : m.Kind = 8
  · obtain ⟨b, hb1, hb2⟩ := entry1_eq m.Entry
    rw [if_pos k8, within_eq (by simp), hb1]
    have e : OkM m ↔ (0 ≤ m.Index ∧ m.Index ≤ far) ∧ EntOk m.Entry := by
      unfold OkM
      simp only [k8, Int.reduceEq, false_and, false_or, true_and, gf]
    simp only [Option.bind_some, decide_eq_true_eq, one]
    split
    · rename_i g1
      exact ⟨b, rfl, by rw [hb2, e]; exact ⟨fun h => ⟨g1.1, h⟩, fun h => h.2⟩⟩
    · rename_i g1
      refine no rfl ?_
      rw [e]
      exact fun h => g1 ⟨h.1, by simp⟩
  rw [if_neg k8]
  refine no rfl ?_
  unfold OkM
  simp only [k1, k2, k3, k4, k5, k6, k7, k8, false_and, or_false, and_false, not_false_iff]
theorem encode1_eq {m : api_Msg} (h1 : m.Have.length < 1999900) (h2 : m.Need.length < 1999900) : hocketref11_Encode.f 2000000 m = some (encM m) := by
  obtain ⟨b, hb1, hb2⟩ := okM_eq h1 h2
  unfold hocketref11_Encode.f
  rw [hb1]
  simp only [Option.bind_some]
  have bind1 : ∀ z : Option (List UInt8), (Option.bind z fun t => some t) = z := fun z => by cases z <;> rfl
  cases b with
  | false =>
    rw [if_neg (by simp)]
    unfold encM
    rw [if_neg (fun h => by have := hb2.2 h; cases this)]
  | true =>
    have ok := hb2.1 rfl
    obtain ⟨o5, o7, o8⟩ := ok_small ok
    rw [if_pos rfl]
    unfold encM
    rw [if_pos ok]
    have l4 := numsL_len [m.Kind, m.From, m.To, m.View]
    simp only [List.length_cons, List.length_nil] at l4
    rw [nums_eq (by simp) (by simp)]
    simp only [Option.bind_some, List.nil_append, bind1]
    unfold wire tailW
    by_cases k2 : m.Kind = 2
    · rw [if_pos k2, if_pos k2]
      have e : flagI m.Has = if m.Has = true then 1 else 0 := rfl
      rw [e]
      split
      · unfold hocketref11_Encode.J1; rw [nums_eq (by simp) (by omega)]; rfl
      · unfold hocketref11_Encode.J1; rw [nums_eq (by simp) (by omega)]; rfl
    rw [if_neg k2, if_neg k2]
    by_cases k3 : m.Kind = 3
    · rw [if_pos k3, if_pos k3, nums_eq (by simp) (by omega)]
    rw [if_neg k3, if_neg k3]
    by_cases k4 : m.Kind = 4
    · rw [if_pos k4, if_pos k4, nums_eq (by simp) (by omega)]
    rw [if_neg k4, if_neg k4]
    by_cases k5 : m.Kind = 5
    · have := o5 k5
      have l2 := numsL_len [m.At, m.Total]
      simp only [List.length_cons, List.length_nil] at l2
      rw [if_pos k5, if_pos k5, nums_eq (by simp) (by omega)]
      simp only [Option.bind_some]
      rw [bytes1_eq (by decide) (by rw [List.length_append]; omega) (by omega)]
      simp
    rw [if_neg k5, if_neg k5]
    by_cases k7 : m.Kind = 7
    · obtain ⟨g1, g2⟩ := o7 k7
      have e7 : held2 (m.Have.length : Int) = m.Have.length := held2_nat _ (by omega)
      have e8 : held2 (m.Need.length : Int) = m.Need.length := held2_nat _ (by omega)
      have l2 := numsL_len [m.Hop, m.Seq, (m.Have.length : Int)]
      simp only [List.length_cons, List.length_nil] at l2
      have l3 := numsL_len m.Have
      have l5 := numsL_len [(m.Need.length : Int)]
      simp only [List.length_cons, List.length_nil] at l5
      rw [if_pos k7, if_pos k7, nums_eq (by simp) (by omega)]
      simp only [Option.bind_some]
      rw [nums_eq (by omega) (by rw [List.length_append]; omega)]
      simp only [Option.bind_some]
      rw [nums_eq (by simp) (by rw [List.length_append, List.length_append]; omega)]
      simp only [Option.bind_some]
      rw [nums_eq (by omega) (by rw [List.length_append, List.length_append, List.length_append]; omega)]
      rw [numsL_cons (m.Need.length : Int), numsL_cons m.Hop, numsL_cons m.Seq, numsL_cons (m.Have.length : Int), numsL_cons m.Hop, numsL_cons m.Seq, e7, e8, numsL_nil]
      simp only [List.append_assoc, List.append_nil]
    rw [if_neg k7, if_neg k7]
    by_cases k8 : m.Kind = 8
    · obtain ⟨g1, g2, g3⟩ := o8 k8
      have l2 := numsL_len [m.Index]
      simp only [List.length_cons, List.length_nil] at l2
      rw [if_pos k8, if_pos k8, nums_eq (by simp) (by omega)]
      simp only [Option.bind_some]
      rw [put1_eq (by omega) (by omega) (by omega) (by rw [List.length_append]; omega)]
      simp only [List.append_assoc]
    · rw [if_neg k8, if_neg k8, List.append_nil]
end Go.Gp
