/- What the statements say, of the plain functions. -/
import Derived.Test.YtpbjpakmnfkbjaaDefs
import Derived.Test.YtpbjpakmnfkbjaaLe
import Derived.Test.YtpbjpakmnfkbjaaThInts
import Derived.Test.YtpbjpakmnfkbjaaThPack
import Derived.Test.YtpbjpakmnfkbjaaThMesg
import Derived.Test.YtpbjpakmnfkbjaaThMesg2
import Derived.Test.YtpbjpakmnfkbjaaThMesg3
import Derived.Test.YtpbjpakmnfkbjaaThMesg4
import Derived.Test.YtpbjpakmnfkbjaaThMesg5
import Derived.Test.YtpbjpakmnfkbjaaThMesg6
import Derived.Test.YtpbjpakmnfkbjaaThMsg
import Derived.Test.YtpbjpakmnfkbjaaThMesg7
import Derived.Test.YtpbjpakmnfkbjaaThMesg8
import Derived.Test.YtpbjpakmnfkbjaaThPack1
import Derived.Test.YtpbjpakmnfkbjaaThMesg9
import Derived.Test.YtpbjpakmnfkbjaaThMesg10
import Derived.Test.YtpbjpakmnfkbjaaThMesgS
/- Messages are told and read as the document says, and as they were. -/
namespace Go.Gp
open Go
theorem same0_eq {a b : api_Msg} (h1 : a.Have.length < 3000) (h2 : a.Need.length < 3000) : mesg_Same.f 3000 a b = some (decide (a = b)) := by
  suffices hS : Sat (mesg_Same.f 3000 a b) (fun r => r = decide (a = b)) by
    obtain ⟨r, h1, h2⟩ := hS; rw [h1, h2]
  unfold mesg_Same.f
  refine sat_loop (fun v : Int => (9 - v).toNat) (fun v => 1 ≤ v ∧ v ≤ 9 ∧ ∀ k : Int, 1 ≤ k → k < v → canM { a with Kind := k } = canM { b with Kind := k }) ?_ 3000 _ ⟨by omega, by omega, fun k hk hk2 => by omega⟩ (by omega)
  rintro i ⟨g1, g2, g3⟩ ag hag
  show Sat (mesg_Same.B1 3000 a b _ ag i) _
  unfold mesg_Same.B1
  refine sat_if (fun hle => ?_) (fun hgt => ?_)
  · refine sat_b (alike_eq (x := { a with Kind := i }) (m := { b with Kind := i }) (fun _ => ⟨h1, h2⟩)) ?_
    refine sat_if (fun he => ?_) (fun hne => ?_)
    · rw [decide_eq_true_eq] at he
      have hw : w64 (i + 1) = i + 1 := w64_id (by omega)
      rw [hw]
      refine hag _ ⟨by omega, by omega, fun k hk hk2 => ?_⟩ (by omega)
      by_cases hki : k = i
      · subst hki; exact he
      · exact g3 k hk (by omega)
    · rw [decide_eq_true_eq] at hne
      refine sat_r ?_
      symm
      rw [decide_eq_false_iff_not]
      intro e
      subst e
      exact hne rfl
  · show Sat (mesg_Same.J1 3000 a b) _
    unfold mesg_Same.J1
    refine sat_r ?_
    rw [Bool.eq_iff_iff, beq_iff_eq, decide_eq_true_eq]
    constructor
    · intro hk
      have f2 := canM_fields (g3 2 (by omega) (by omega))
      have f3 := canM_fields (g3 3 (by omega) (by omega))
      have f4 := canM_fields (g3 4 (by omega) (by omega))
      have f5 := canM_fields (g3 5 (by omega) (by omega))
      have f7 := canM_fields (g3 7 (by omega) (by omega))
      have f8 := canM_fields (g3 8 (by omega) (by omega))
      obtain ⟨_, q1, q2, q3, q4, _⟩ := f2
      obtain ⟨q5, q6, q7⟩ := q4 rfl
      obtain ⟨_, _, _, _, _, q8, _⟩ := f3
      obtain ⟨q9, q10, _⟩ := q8 rfl
      obtain ⟨_, _, _, _, _, _, _, q11, _⟩ := f5
      obtain ⟨q12, q13, q14⟩ := q11 rfl
      obtain ⟨_, _, _, _, _, _, _, _, q15, _⟩ := f7
      obtain ⟨q16, q17, q18, q19⟩ := q15 rfl
      obtain ⟨_, _, _, _, _, _, _, _, _, q20⟩ := f8
      obtain ⟨q21, q22⟩ := q20 rfl
      dsimp only at q1 q2 q3 q5 q6 q7 q9 q10 q12 q13 q14 q16 q17 q18 q19 q21 q22
      cases a; cases b
      simp only at hk q1 q2 q3 q5 q6 q7 q9 q10 q12 q13 q14 q16 q17 q18 q19 q21 q22
      simp only [hk, q1, q2, q3, q5, q6, q7, q9, q10, q12, q13, q14, q16, q17, q18, q19, q21, q22]
    · intro e; rw [e]
theorem no_msg {m : api_Msg} (hk : m.Kind = 0 ∨ 6 < m.From) : ¬OkM m := fun h => by
  obtain ⟨h1, _, _, g⟩ := h
  rcases hk with hk | hk
  · rw [hk] at g; simp at g
  · omega
theorem awake_mesg : hocketlaw11_awake.f 3000 = some () := by
  obtain ⟨m, hm⟩ : ∃ m : api_Msg, m = ⟨7, 1, 2, 300, 0, 0, false, 0, 0, 0, 0, ([] : List UInt8), 4, 5, ([5, 4] : List Int), ([5] : List Int), 0, (⟨0, 0, (⟨0, 0, ([] : List UInt8), ([] : List UInt8), ([] : List UInt8)⟩ : api_Cmd)⟩ : api_Entry)⟩ := ⟨_, rfl⟩
  obtain ⟨z, hz⟩ : ∃ z : api_Msg, z = ⟨0, 0, 0, 0, 0, 0, false, 0, 0, 0, 0, ([] : List UInt8), 0, 0, ([] : List Int), ([] : List Int), 0, (⟨0, 0, (⟨0, 0, ([] : List UInt8), ([] : List UInt8), ([] : List UInt8)⟩ : api_Cmd)⟩ : api_Entry)⟩ := ⟨_, rfl⟩
  obtain ⟨y, hy⟩ : ∃ y : api_Msg, y = ⟨1, 7, 0, 0, 0, 0, false, 0, 0, 0, 0, ([] : List UInt8), 0, 0, ([] : List Int), ([] : List Int), 0, (⟨0, 0, (⟨0, 0, ([] : List UInt8), ([] : List UInt8), ([] : List UInt8)⟩ : api_Cmd)⟩ : api_Entry)⟩ := ⟨_, rfl⟩
  have ok : OkM m := by subst hm; exact ⟨by simp, by simp, by unfold far; simp, .inr (.inr (.inr (.inr (.inr (.inr (.inl ⟨rfl, by unfold far; simp, by unfold far; simp, ⟨by simp, by unfold far; simp⟩, ⟨by simp, by unfold far; simp⟩⟩))))))⟩
  have hc : canM m = m := by subst hm; rfl
  have en : ∀ n : Nat, n < 128 → enc (held2 (n : Int)) = [UInt8.ofNat n] := fun n hn => by rw [held2_nat n (by omega), enc_lt hn]
  have e300 : enc (held2 (300 : Int)) = [172, 2] := by
    have := held2_nat 300 (by omega)
    rw [show ((300 : Nat) : Int) = 300 from rfl] at this
    rw [this, enc_ge (by omega), enc_lt (by omega)]
    rfl
  have hw : wire m = [7, 1, 2, 172, 2, 4, 5, 2, 5, 4, 1, 5] := by
    subst hm
    unfold wire tailW
    dsimp only
    rw [if_neg (by omega), if_neg (by omega), if_neg (by omega), if_neg (by omega), if_pos rfl]
    simp only [numsL_cons, numsL_nil]
    have e7 := en 7 (by omega); have e1 := en 1 (by omega); have e2 := en 2 (by omega); have e4 := en 4 (by omega); have e5 := en 5 (by omega)
    rw [show ((7 : Nat) : Int) = 7 from rfl] at e7
    rw [show ((1 : Nat) : Int) = 1 from rfl] at e1
    rw [show ((2 : Nat) : Int) = 2 from rfl] at e2
    rw [show ((4 : Nat) : Int) = 4 from rfl] at e4
    rw [show ((5 : Nat) : Int) = 5 from rfl] at e5
    rw [e7, e1, e2, e300, e4, e5]
    simp only [List.length_cons, List.length_nil]
    rw [enc_lt (n := 0 + 1 + 1) (by omega), enc_lt (n := 0 + 1) (by omega)]
    rfl
  have mild : ∀ x : api_Msg, x.Have.length ≤ 2 → x.Need.length ≤ 2 → x.Entry = ⟨0, 0, ⟨0, 0, [], [], []⟩⟩ → Mild x := fun x h1 h2 h3 => ⟨by omega, by omega, by rw [h3]; simp, by rw [h3]; simp, by rw [h3]; simp⟩
  have mm : Mild m := mild m (by rw [hm]; simp) (by rw [hm]; simp) (by rw [hm])
  have mz : Mild z := mild z (by rw [hz]; simp) (by rw [hz]; simp) (by rw [hz])
  have my : Mild y := mild y (by rw [hy]; simp) (by rw [hy]; simp) (by rw [hy])
  have em : encM m = wire m := by unfold encM; rw [if_pos ok]
  have ez : encM z = [] := by unfold encM; rw [if_neg (no_msg (.inl (by rw [hz])))]
  have ey : encM y = [] := by unfold encM; rw [if_neg (no_msg (.inr (by rw [hy]; simp)))]
  have hl : (wire m).length = 12 := by rw [hw]; rfl
  unfold hocketlaw11_awake.f
  rw [← hm, ← hz, ← hy, encode_eq mm, em]
  simp only [Option.bind_some]
  rw [decode_eq (by omega), decM_wire ok, hc]
  simp only [Option.bind_some]
  rw [app_eq (by simp; omega)]
  simp only [Option.bind_some]
  rw [decode_eq (by simp; omega)]
  simp only [Option.bind_some]
  rw [if_pos hw, if_pos trivial, same0_eq (by rw [hm]; simp) (by rw [hm]; simp)]
  simp only [Option.bind_some]
  rw [if_pos (by simp), if_neg (by rw [decM_more ok (by simp)]; simp), encode_eq mz, ez]
  simp only [Option.bind_some]
  rw [if_pos (by simp), encode_eq my, ey]
  simp only [Option.bind_some]
  rw [if_pos (by simp), same0_eq (by rw [hm]; simp) (by rw [hm]; simp)]
  simp only [Option.bind_some]
  rw [if_neg (by rw [decide_eq_true_eq, hm, hz]; simp)]
theorem fin_mesg : Sat (Option.bind (hocketlaw11_awake.f 3000) fun _ => some ()) (fun _ => True) := sat_b awake_mesg (sat_r trivial)
theorem encM_ok {m : api_Msg} (h : OkM m) : encM m = wire m := by unfold encM; rw [if_pos h]
theorem w64_sum3 {a b c : Nat} (ha : a ≤ 140737488351232) (hb : b ≤ 140737488351232) (hc : c ≤ 140737488351232) : w64 (w64 ((a : Int) + (b : Int)) + (c : Int)) = (a : Int) + (b : Int) + (c : Int) := by
  rw [w64_id (n := (a : Int) + (b : Int)) (by omega), w64_id (by omega)]
end Go.Gp
