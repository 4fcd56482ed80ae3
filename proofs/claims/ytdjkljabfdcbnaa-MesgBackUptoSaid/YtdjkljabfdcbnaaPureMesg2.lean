/- What the statements say, of the plain functions. -/
import Derived.Test.YtdjkljabfdcbnaaDefs
import Derived.Test.YtdjkljabfdcbnaaLe
import Derived.Test.YtdjkljabfdcbnaaThInts
import Derived.Test.YtdjkljabfdcbnaaThPack
import Derived.Test.YtdjkljabfdcbnaaThMesg
import Derived.Test.YtdjkljabfdcbnaaThMesg2
import Derived.Test.YtdjkljabfdcbnaaThMesg3
import Derived.Test.YtdjkljabfdcbnaaThMesg4
import Derived.Test.YtdjkljabfdcbnaaThMesg5
import Derived.Test.YtdjkljabfdcbnaaThMesg6
import Derived.Test.YtdjkljabfdcbnaaThMsg
import Derived.Test.YtdjkljabfdcbnaaThMesg7
import Derived.Test.YtdjkljabfdcbnaaThMesg8
import Derived.Test.YtdjkljabfdcbnaaThMesgS
import Derived.Test.YtdjkljabfdcbnaaThPack1
import Derived.Test.YtdjkljabfdcbnaaThMesg9
import Derived.Test.YtdjkljabfdcbnaaThMesg10
import Derived.Test.YtdjkljabfdcbnaaPureMesg
/- A message is read as it was, but for fields that its kind does not name. -/
namespace Go.Gp
open Go
/-- What is known of a message that is not too large for any machine. -/
def okU_api_Cmd (x : api_Cmd) : Prop := i64ok x.Kind ∧ i64ok x.Who ∧ (x.Key.length ≤ 1048576 ∧ ∀ z ∈ x.Key, True) ∧ (x.Val.length ≤ 1048576 ∧ ∀ z ∈ x.Val, True) ∧ (x.Old.length ≤ 1048576 ∧ ∀ z ∈ x.Old, True)
def okU_api_Entry (x : api_Entry) : Prop := i64ok x.Sess ∧ i64ok x.Seq ∧ okU_api_Cmd x.Cmd
def okU_api_Msg (x : api_Msg) : Prop := i64ok x.Kind ∧ i64ok x.From ∧ i64ok x.To ∧ i64ok x.View ∧ i64ok x.Inst ∧ i64ok x.Len ∧ True ∧ i64ok x.Members ∧ i64ok x.Source ∧ i64ok x.At ∧ i64ok x.Total ∧ (x.Data.length ≤ 1048576 ∧ ∀ z ∈ x.Data, True) ∧ i64ok x.Hop ∧ i64ok x.Seq ∧ (x.Have.length ≤ 1048576 ∧ ∀ z ∈ x.Have, i64ok z) ∧ (x.Need.length ≤ 1048576 ∧ ∀ z ∈ x.Need, i64ok z) ∧ i64ok x.Index ∧ okU_api_Entry x.Entry
theorem okU_mild {x : api_Msg} (h : okU_api_Msg x) (h1 : x.Have.length ≤ 2000) (h2 : x.Need.length ≤ 2000) : Mild x := by
  obtain ⟨_, _, _, _, _, _, _, _, _, _, _, _, _, _, _, _, _, _, _, _, _, g1, g2, g3⟩ := h
  exact ⟨h1, h2, by have := g1.1; omega, by have := g2.1; omega, by have := g3.1; omega⟩
theorem hocketlaw11_MesgBack.pure (x0 : api_Msg) (x1 x2 : Int) (x3 : List UInt8) (h0 : okU_api_Msg x0) {o1 o2 o3 : Prop} (_ : o1) (_ : o2) (_ : o3) : ∃ K r, hocketlaw11_MesgBack.f K x0 x1 x2 x3 = some r := by
  refine ⟨3000, sat_pure ?_⟩
  have out : ∀ z, z = true → Sat (hocketlaw11_MesgBack.J1 3000 x1 x2 x0 x3 z) (fun _ => True) := fun z hz => by
    subst hz
    unfold hocketlaw11_MesgBack.J1
    exact sat_t rfl fin_mesg
  unfold hocketlaw11_MesgBack.f
  refine sat_if (fun _ => out _ rfl) (fun g1 => sat_if (fun _ => out _ rfl) (fun g2 => sat_if (fun _ => out _ rfl) (fun g3 => ?_)))
  by_cases g4 : (x0.Need.length : Int) > 20
  · exact out _ (by simpa using g4)
  rw [decide_eq_false g4]
  have hm := okU_mild h0 (by omega) (by omega)
  unfold hocketlaw11_MesgBack.J1
  refine sat_f (by simp) ?_
  refine sat_bs (msg_num x1 x2) (fun m ⟨ok, hc⟩ => ?_)
  refine sat_loop (fun v : Int => (2 - v).toNat) (fun v => ∃ i : Nat, v = i ∧ i ≤ 2) ?_ 3000 _ ⟨0, rfl, by omega⟩ (by omega)
  rintro _ ⟨i, rfl, hi⟩ ag hag
  show Sat (hocketlaw11_MesgBack.B1 3000 x0 m _ ag i) _
  unfold hocketlaw11_MesgBack.B1
  refine sat_if (fun hlt => ?_) (fun _ => ?_)
  · simp only [List.length_cons, List.length_nil] at hlt
    obtain ⟨y, hy, my⟩ : ∃ y, ix ([x0, m] : List api_Msg) (i : Int) = some y ∧ Mild y := by
      have : i = 0 ∨ i = 1 := by omega
      rcases this with rfl | rfl
      · exact ⟨x0, rfl, hm⟩
      · exact ⟨m, rfl, ok_mild ok hc⟩
    refine sat_b hy ?_
    have hw : w64 ((i : Int) + 1) = ((i + 1 : Nat) : Int) := by rw [w64_succ (by omega) (by omega)]; simp
    have next : Sat (ag (w64 ((i : Int) + 1))) (fun _ => True) := by
      rw [hw]
      exact hag _ ⟨i + 1, rfl, by omega⟩ (by omega)
    refine sat_b (encode_eq my) ?_
    by_cases oy : OkM y
    · rw [encM_ok oy]
      have l1 := wire_ok_len oy
      have l2 := wire_pos y
      have oc : OkM (canM y) := OkM_congr (canM_canM y) oy
      have mc := ok_mild oc (canM_canM y)
      obtain ⟨q1, q2, q3, q4⟩ := canM_head y
      refine sat_f (by omega) (sat_b (decode_eq (by omega)) ?_)
      rw [decM_wire oy]
      refine sat_t rfl (sat_t q1 (sat_t q2 (sat_t q3 (sat_t q4 (sat_b (encode_eq mc) ?_)))))
      rw [encM_ok oc, wire_canM, show (!(wire y == wire y)) = false by simp]
      unfold hocketlaw11_MesgBack.J3
      refine sat_f (by simp) (sat_b (encode_eq mc) ?_)
      rw [encM_ok oc, wire_canM]
      refine sat_b (decode_eq (by omega)) ?_
      rw [decM_wire oy]
      have mh := mc.h
      have mn := mc.n
      exact sat_t rfl (sat_b (same0_eq (by dsimp only; omega) (by dsimp only; omega)) (sat_t (by simp) next))
    · have e : encM y = [] := by unfold encM; rw [if_neg oy]
      rw [e]
      exact sat_t (by simp) next
  · show Sat (hocketlaw11_MesgBack.J2 3000 x3) _
    unfold hocketlaw11_MesgBack.J2
    refine sat_b (decode_eq (by omega)) ?_
    cases hd : (decM x3).2 with
    | true =>
      obtain ⟨o1, o2, o3⟩ := decM_ok hd
      refine sat_t rfl (sat_b (encode_eq (ok_mild o1 o2)) ?_)
      rw [encM_ok o1]
      exact sat_t o3.symm fin_mesg
    | false =>
      rw [decM_no hd]
      exact sat_f (by simp) (sat_b (same0_eq (by unfold zmsg; simp) (by unfold zmsg; simp)) (sat_t (by unfold zmsg; simp) fin_mesg))
end Go.Gp
