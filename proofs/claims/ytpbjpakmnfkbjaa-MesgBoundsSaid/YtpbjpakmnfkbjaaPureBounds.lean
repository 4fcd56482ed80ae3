/- What the statements say, of the plain functions. -/
import Derived.Test.YtpbjpakmnfkbjaaDefs
import Derived.Test.YtpbjpakmnfkbjaaLe
import Derived.Test.YtpbjpakmnfkbjaaThInts
import Derived.Test.YtpbjpakmnfkbjaaThPack
import Derived.Test.YtpbjpakmnfkbjaaThMesg
import Derived.Test.YtpbjpakmnfkbjaaThMesg2
import Derived.Test.YtpbjpakmnfkbjaaThMesg3
import Derived.Test.YtpbjpakmnfkbjaaThMesg4
import Derived.Test.YtpbjpakmnfkbjaaThMesg5
import Derived.Test.YtpbjpakmnfkbjaaThMesg6
import Derived.Test.YtpbjpakmnfkbjaaThMsg
import Derived.Test.YtpbjpakmnfkbjaaThMesg7
import Derived.Test.YtpbjpakmnfkbjaaThMesg8
import Derived.Test.YtpbjpakmnfkbjaaThPack1
import Derived.Test.YtpbjpakmnfkbjaaThMesg9
import Derived.Test.YtpbjpakmnfkbjaaThMesg10
import Derived.Test.YtpbjpakmnfkbjaaThMesgS
import Derived.Test.YtpbjpakmnfkbjaaPureMesg
/- What may be said and what may not: the messages at the edges. -/
namespace Go.Gp
open Go
def boundsL : List An_m_ok := [(⟨(⟨0, 0, 0, 0, 0, 0, false, 0, 0, 0, 0, ([] : List UInt8), 0, 0, ([] : List Int), ([] : List Int), 0, (⟨0, 0, (⟨0, 0, ([] : List UInt8), ([] : List UInt8), ([] : List UInt8)⟩ : api_Cmd)⟩ : api_Entry)⟩ : api_Msg), false⟩ : An_m_ok),
  (⟨(⟨1, 0, 0, 0, 0, 0, false, 0, 0, 0, 0, ([] : List UInt8), 0, 0, ([] : List Int), ([] : List Int), 0, (⟨0, 0, (⟨0, 0, ([] : List UInt8), ([] : List UInt8), ([] : List UInt8)⟩ : api_Cmd)⟩ : api_Entry)⟩ : api_Msg), true⟩ : An_m_ok),
  (⟨(⟨9, 0, 0, 0, 0, 0, false, 0, 0, 0, 0, ([] : List UInt8), 0, 0, ([] : List Int), ([] : List Int), 0, (⟨0, 0, (⟨0, 0, ([] : List UInt8), ([] : List UInt8), ([] : List UInt8)⟩ : api_Cmd)⟩ : api_Entry)⟩ : api_Msg), false⟩ : An_m_ok),
  (⟨(⟨(-1), 0, 0, 0, 0, 0, false, 0, 0, 0, 0, ([] : List UInt8), 0, 0, ([] : List Int), ([] : List Int), 0, (⟨0, 0, (⟨0, 0, ([] : List UInt8), ([] : List UInt8), ([] : List UInt8)⟩ : api_Cmd)⟩ : api_Entry)⟩ : api_Msg), false⟩ : An_m_ok),
  (⟨(⟨1, 6, 6, 1099511627776, 0, 0, false, 0, 0, 0, 0, ([] : List UInt8), 0, 0, ([] : List Int), ([] : List Int), 0, (⟨0, 0, (⟨0, 0, ([] : List UInt8), ([] : List UInt8), ([] : List UInt8)⟩ : api_Cmd)⟩ : api_Entry)⟩ : api_Msg), true⟩ : An_m_ok),
  (⟨(⟨1, 7, 0, 0, 0, 0, false, 0, 0, 0, 0, ([] : List UInt8), 0, 0, ([] : List Int), ([] : List Int), 0, (⟨0, 0, (⟨0, 0, ([] : List UInt8), ([] : List UInt8), ([] : List UInt8)⟩ : api_Cmd)⟩ : api_Entry)⟩ : api_Msg), false⟩ : An_m_ok),
  (⟨(⟨1, 0, (-1), 0, 0, 0, false, 0, 0, 0, 0, ([] : List UInt8), 0, 0, ([] : List Int), ([] : List Int), 0, (⟨0, 0, (⟨0, 0, ([] : List UInt8), ([] : List UInt8), ([] : List UInt8)⟩ : api_Cmd)⟩ : api_Entry)⟩ : api_Msg), false⟩ : An_m_ok),
  (⟨(⟨1, 0, 0, w64 (1099511627776 + 1), 0, 0, false, 0, 0, 0, 0, ([] : List UInt8), 0, 0, ([] : List Int), ([] : List Int), 0, (⟨0, 0, (⟨0, 0, ([] : List UInt8), ([] : List UInt8), ([] : List UInt8)⟩ : api_Cmd)⟩ : api_Entry)⟩ : api_Msg), false⟩ : An_m_ok),
  (⟨(⟨1, 0, 0, (-1), 0, 0, false, 0, 0, 0, 0, ([] : List UInt8), 0, 0, ([] : List Int), ([] : List Int), 0, (⟨0, 0, (⟨0, 0, ([] : List UInt8), ([] : List UInt8), ([] : List UInt8)⟩ : api_Cmd)⟩ : api_Entry)⟩ : api_Msg), false⟩ : An_m_ok),
  (⟨(⟨2, 0, 0, 0, 1099511627776, 1099511627776, false, 0, 0, 0, 0, ([] : List UInt8), 0, 0, ([] : List Int), ([] : List Int), 0, (⟨0, 0, (⟨0, 0, ([] : List UInt8), ([] : List UInt8), ([] : List UInt8)⟩ : api_Cmd)⟩ : api_Entry)⟩ : api_Msg), true⟩ : An_m_ok),
  (⟨(⟨2, 0, 0, 0, w64 (1099511627776 + 1), 0, false, 0, 0, 0, 0, ([] : List UInt8), 0, 0, ([] : List Int), ([] : List Int), 0, (⟨0, 0, (⟨0, 0, ([] : List UInt8), ([] : List UInt8), ([] : List UInt8)⟩ : api_Cmd)⟩ : api_Entry)⟩ : api_Msg), false⟩ : An_m_ok),
  (⟨(⟨2, 0, 0, 0, 0, (-1), false, 0, 0, 0, 0, ([] : List UInt8), 0, 0, ([] : List Int), ([] : List Int), 0, (⟨0, 0, (⟨0, 0, ([] : List UInt8), ([] : List UInt8), ([] : List UInt8)⟩ : api_Cmd)⟩ : api_Entry)⟩ : api_Msg), false⟩ : An_m_ok),
  (⟨(⟨3, 0, 0, 0, 0, 1099511627776, false, 127, 6, 0, 0, ([] : List UInt8), 0, 0, ([] : List Int), ([] : List Int), 0, (⟨0, 0, (⟨0, 0, ([] : List UInt8), ([] : List UInt8), ([] : List UInt8)⟩ : api_Cmd)⟩ : api_Entry)⟩ : api_Msg), true⟩ : An_m_ok),
  (⟨(⟨3, 0, 0, 0, 0, 0, false, 128, 0, 0, 0, ([] : List UInt8), 0, 0, ([] : List Int), ([] : List Int), 0, (⟨0, 0, (⟨0, 0, ([] : List UInt8), ([] : List UInt8), ([] : List UInt8)⟩ : api_Cmd)⟩ : api_Entry)⟩ : api_Msg), false⟩ : An_m_ok),
  (⟨(⟨3, 0, 0, 0, 0, 0, false, 0, 7, 0, 0, ([] : List UInt8), 0, 0, ([] : List Int), ([] : List Int), 0, (⟨0, 0, (⟨0, 0, ([] : List UInt8), ([] : List UInt8), ([] : List UInt8)⟩ : api_Cmd)⟩ : api_Entry)⟩ : api_Msg), false⟩ : An_m_ok),
  (⟨(⟨4, 0, 0, 0, 0, 0, false, 0, 0, 1099511627776, 0, ([] : List UInt8), 0, 0, ([] : List Int), ([] : List Int), 0, (⟨0, 0, (⟨0, 0, ([] : List UInt8), ([] : List UInt8), ([] : List UInt8)⟩ : api_Cmd)⟩ : api_Entry)⟩ : api_Msg), true⟩ : An_m_ok),
  (⟨(⟨4, 0, 0, 0, 0, 0, false, 0, 0, w64 (1099511627776 + 1), 0, ([] : List UInt8), 0, 0, ([] : List Int), ([] : List Int), 0, (⟨0, 0, (⟨0, 0, ([] : List UInt8), ([] : List UInt8), ([] : List UInt8)⟩ : api_Cmd)⟩ : api_Entry)⟩ : api_Msg), false⟩ : An_m_ok),
  (⟨(⟨5, 0, 0, 0, 0, 0, false, 0, 0, 0, 0, (List.replicate 64 (0 : UInt8)), 0, 0, ([] : List Int), ([] : List Int), 0, (⟨0, 0, (⟨0, 0, ([] : List UInt8), ([] : List UInt8), ([] : List UInt8)⟩ : api_Cmd)⟩ : api_Entry)⟩ : api_Msg), true⟩ : An_m_ok),
  (⟨(⟨5, 0, 0, 0, 0, 0, false, 0, 0, 0, 0, (List.replicate 65 (0 : UInt8)), 0, 0, ([] : List Int), ([] : List Int), 0, (⟨0, 0, (⟨0, 0, ([] : List UInt8), ([] : List UInt8), ([] : List UInt8)⟩ : api_Cmd)⟩ : api_Entry)⟩ : api_Msg), false⟩ : An_m_ok),
  (⟨(⟨5, 0, 0, 0, 0, 0, false, 0, 0, 0, (-1), ([] : List UInt8), 0, 0, ([] : List Int), ([] : List Int), 0, (⟨0, 0, (⟨0, 0, ([] : List UInt8), ([] : List UInt8), ([] : List UInt8)⟩ : api_Cmd)⟩ : api_Entry)⟩ : api_Msg), false⟩ : An_m_ok),
  (⟨(⟨7, 0, 0, 0, 0, 0, false, 0, 0, 0, 0, ([] : List UInt8), 0, 0, (List.replicate 7 (0 : Int)), (List.replicate 8 (0 : Int)), 0, (⟨0, 0, (⟨0, 0, ([] : List UInt8), ([] : List UInt8), ([] : List UInt8)⟩ : api_Cmd)⟩ : api_Entry)⟩ : api_Msg), true⟩ : An_m_ok),
  (⟨(⟨7, 0, 0, 0, 0, 0, false, 0, 0, 0, 0, ([] : List UInt8), 0, 0, (List.replicate 8 (0 : Int)), ([] : List Int), 0, (⟨0, 0, (⟨0, 0, ([] : List UInt8), ([] : List UInt8), ([] : List UInt8)⟩ : api_Cmd)⟩ : api_Entry)⟩ : api_Msg), false⟩ : An_m_ok),
  (⟨(⟨7, 0, 0, 0, 0, 0, false, 0, 0, 0, 0, ([] : List UInt8), 0, 0, ([] : List Int), (List.replicate 9 (0 : Int)), 0, (⟨0, 0, (⟨0, 0, ([] : List UInt8), ([] : List UInt8), ([] : List UInt8)⟩ : api_Cmd)⟩ : api_Entry)⟩ : api_Msg), false⟩ : An_m_ok),
  (⟨(⟨7, 0, 0, 0, 0, 0, false, 0, 0, 0, 0, ([] : List UInt8), 0, 0, ([(-1)] : List Int), ([] : List Int), 0, (⟨0, 0, (⟨0, 0, ([] : List UInt8), ([] : List UInt8), ([] : List UInt8)⟩ : api_Cmd)⟩ : api_Entry)⟩ : api_Msg), false⟩ : An_m_ok),
  (⟨(⟨7, 0, 0, 0, 0, 0, false, 0, 0, 0, 0, ([] : List UInt8), w64 (1099511627776 + 1), 0, ([] : List Int), ([] : List Int), 0, (⟨0, 0, (⟨0, 0, ([] : List UInt8), ([] : List UInt8), ([] : List UInt8)⟩ : api_Cmd)⟩ : api_Entry)⟩ : api_Msg), false⟩ : An_m_ok),
  (⟨(⟨8, 0, 0, 0, 0, 0, false, 0, 0, 0, 0, ([] : List UInt8), 0, 0, ([] : List Int), ([] : List Int), 1099511627776, (⟨0, 0, (⟨0, 0, ([] : List UInt8), ([] : List UInt8), ([] : List UInt8)⟩ : api_Cmd)⟩ : api_Entry)⟩ : api_Msg), true⟩ : An_m_ok),
  (⟨(⟨8, 0, 0, 0, 0, 0, false, 0, 0, 0, 0, ([] : List UInt8), 0, 0, ([] : List Int), ([] : List Int), 0, (⟨1073741824, 1073741824, (⟨1073741824, 1073741824, (List.replicate 32 (0 : UInt8)), ([] : List UInt8), ([] : List UInt8)⟩ : api_Cmd)⟩ : api_Entry)⟩ : api_Msg), true⟩ : An_m_ok),
  (⟨(⟨8, 0, 0, 0, 0, 0, false, 0, 0, 0, 0, ([] : List UInt8), 0, 0, ([] : List Int), ([] : List Int), 0, (⟨1073741825, 0, (⟨0, 0, ([] : List UInt8), ([] : List UInt8), ([] : List UInt8)⟩ : api_Cmd)⟩ : api_Entry)⟩ : api_Msg), false⟩ : An_m_ok),
  (⟨(⟨8, 0, 0, 0, 0, 0, false, 0, 0, 0, 0, ([] : List UInt8), 0, 0, ([] : List Int), ([] : List Int), 0, (⟨0, 0, (⟨0, 0, ([] : List UInt8), (List.replicate 33 (0 : UInt8)), ([] : List UInt8)⟩ : api_Cmd)⟩ : api_Entry)⟩ : api_Msg), false⟩ : An_m_ok),
  (⟨(⟨6, 0, 0, 0, 0, 0, false, 999, 0, 0, 0, ([] : List UInt8), 0, 0, (List.replicate 8 (0 : Int)), ([] : List Int), 0, (⟨0, 0, (⟨0, 0, ([] : List UInt8), ([] : List UInt8), ([] : List UInt8)⟩ : api_Cmd)⟩ : api_Entry)⟩ : api_Msg), true⟩ : An_m_ok)]
def boundsB (K : Nat) (x0 : Int) (L : List An_m_ok) : Option (Unit) :=
  Option.bind (rem (band .i64 x0 255) (L.length : Int)) fun t_354 =>
  Option.bind (ix L t_354) fun t_355 =>
  Option.bind (mesg_Encode.f K t_355.m) fun t_375 =>
  Option.bind (mesg_Decode.f K t_375) fun t_383 =>
  if (decide ((t_375.length : Int) > 0)) = t_355.ok then (
  if t_383.2 = t_355.ok then (
  Option.bind (hocketlaw11_awake.f K) fun _ =>
  some ())
  else (
  none))
  else (
  none)
theorem entOk_iff (e : api_Entry) : EntOk e ↔ ((0 ≤ e.Sess ∧ e.Sess ≤ 1073741824) ∧ (0 ≤ e.Seq ∧ e.Seq ≤ 1073741824) ∧ (0 ≤ e.Cmd.Kind ∧ e.Cmd.Kind ≤ 1073741824) ∧ (0 ≤ e.Cmd.Who ∧ e.Cmd.Who ≤ 1073741824) ∧ e.Cmd.Key.length ≤ 32 ∧ e.Cmd.Val.length ≤ 32 ∧ e.Cmd.Old.length ≤ 32) :=
  ⟨fun h => ⟨h.s1, h.s2, h.s3, h.s4, h.l1, h.l2, h.l3⟩, fun ⟨a, b, c, d, e, f, g⟩ => ⟨a, b, c, d, e, f, g⟩⟩
instance (e : api_Entry) : Decidable (EntOk e) := decidable_of_iff _ (entOk_iff e).symm
instance (m : api_Msg) : Decidable (OkM m) := by unfold OkM; infer_instance
theorem bounds_ok : ∀ q ∈ boundsL, decide (OkM q.m) = q.ok ∧ decide (q.m.Have.length ≤ 10 ∧ q.m.Need.length ≤ 10 ∧ q.m.Entry.Cmd.Key.length ≤ 50 ∧ q.m.Entry.Cmd.Val.length ≤ 50 ∧ q.m.Entry.Cmd.Old.length ≤ 50) = true := by decide +kernel
theorem hocketlaw11_MesgBounds.pure (x0 : Int) {o0 : Prop} (_ : o0) : ∃ K r, hocketlaw11_MesgBounds.f K x0 = some r := by
  refine ⟨3000, sat_pure ?_⟩
  unfold hocketlaw11_MesgBounds.f
  refine sat_b (mk_eq (by decide)) (sat_b (mk_eq (by decide)) (sat_b (mk_eq (by decide)) (sat_b (mk_eq (by decide)) (sat_b (mk_eq (by decide)) (sat_b (mk_eq (by decide)) (sat_b (mk_eq (by decide)) ?_))))))
  change Sat (boundsB 3000 x0 boundsL) _
  unfold boundsB
  have hb := band_lt x0 255 8 rfl (by decide)
  have h30 : boundsL.length = 30 := rfl
  rw [h30]
  have hr := tmod_nn (x := band .i64 x0 255) (y := ((30 : Nat) : Int)) hb.1 (by decide)
  refine sat_b (rem_eq (by decide)) ?_
  obtain ⟨q, q1, q2⟩ := ix_all (xs := boundsL) (R := fun q => decide (OkM q.m) = q.ok ∧ decide (q.m.Have.length ≤ 10 ∧ q.m.Need.length ≤ 10 ∧ q.m.Entry.Cmd.Key.length ≤ 50 ∧ q.m.Entry.Cmd.Val.length ≤ 50 ∧ q.m.Entry.Cmd.Old.length ≤ 50) = true) hr.1 (by rw [h30]; omega) bounds_ok
  obtain ⟨q2, q3⟩ := q2
  have q3 := of_decide_eq_true q3
  have mild : Mild q.m := ⟨by omega, by omega, by omega, by omega, by omega⟩
  refine sat_b q1 (sat_b (encode_eq mild) ?_)
  by_cases ok : OkM q.m
  · have qo : q.ok = true := by rw [← q2]; exact decide_eq_true ok
    have hl := wire_ok_len ok
    have hp := wire_pos q.m
    rw [encM_ok ok]
    refine sat_b (decode_eq (by omega)) ?_
    rw [decM_wire ok, qo]
    refine sat_t (decide_eq_true (by omega)) (sat_t rfl fin_mesg)
  · have qo : q.ok = false := by rw [← q2]; exact decide_eq_false ok
    have he : encM q.m = [] := by unfold encM; rw [if_neg ok]
    rw [he]
    refine sat_b (decode_eq (by simp)) ?_
    have hd : (decM []).2 = false := by
      cases h : (decM []).2 with
      | false => rfl
      | true =>
        have := (decM_ok h).2.2
        have hp := wire_pos (decM []).1
        rw [← this] at hp
        simp at hp
    rw [hd, qo]
    refine sat_t (by simp) (sat_t rfl fin_mesg)
end Go.Gp
