/- What the statements say, of the plain functions. -/
import Derived.Test.YtdjkljabfdcbnaaDefs
import Derived.Test.YtdjkljabfdcbnaaLe
import Derived.Test.YtdjkljabfdcbnaaThInts
import Derived.Test.YtdjkljabfdcbnaaThPack
import Derived.Test.YtdjkljabfdcbnaaThMesg
import Derived.Test.YtdjkljabfdcbnaaThMesg2
import Derived.Test.YtdjkljabfdcbnaaThMesg3
import Derived.Test.YtdjkljabfdcbnaaThMesg4
import Derived.Test.YtdjkljabfdcbnaaThMesg5
import Derived.Test.YtdjkljabfdcbnaaThMesg6
import Derived.Test.YtdjkljabfdcbnaaThMsg
import Derived.Test.YtdjkljabfdcbnaaThMesg7
import Derived.Test.YtdjkljabfdcbnaaThMesg8
import Derived.Test.YtdjkljabfdcbnaaGpCrc
import Derived.Test.YtdjkljabfdcbnaaThCrc
import Derived.Test.YtdjkljabfdcbnaaThFram
import Derived.Test.YtdjkljabfdcbnaaThPack1
import Derived.Test.YtdjkljabfdcbnaaThMesg9
import Derived.Test.YtdjkljabfdcbnaaThMesg10
import Derived.Test.YtdjkljabfdcbnaaThFram2
import Derived.Test.YtdjkljabfdcbnaaPureFram0
/- Frames are wrapped and opened as the document says. -/
namespace Go.Gp
open Go
/-- What is known of a message that is not too large for any machine. -/
def okU_api_Cmd (x : api_Cmd) : Prop := i64ok x.Kind ∧ i64ok x.Who ∧ (x.Key.length ≤ 1048576 ∧ ∀ z ∈ x.Key, True) ∧ (x.Val.length ≤ 1048576 ∧ ∀ z ∈ x.Val, True) ∧ (x.Old.length ≤ 1048576 ∧ ∀ z ∈ x.Old, True)
def okU_api_Entry (x : api_Entry) : Prop := i64ok x.Sess ∧ i64ok x.Seq ∧ okU_api_Cmd x.Cmd
def okU_api_Msg (x : api_Msg) : Prop := i64ok x.Kind ∧ i64ok x.From ∧ i64ok x.To ∧ i64ok x.View ∧ i64ok x.Inst ∧ i64ok x.Len ∧ True ∧ i64ok x.Members ∧ i64ok x.Source ∧ i64ok x.At ∧ i64ok x.Total ∧ (x.Data.length ≤ 1048576 ∧ ∀ z ∈ x.Data, True) ∧ i64ok x.Hop ∧ i64ok x.Seq ∧ (x.Have.length ≤ 1048576 ∧ ∀ z ∈ x.Have, i64ok z) ∧ (x.Need.length ≤ 1048576 ∧ ∀ z ∈ x.Need, i64ok z) ∧ i64ok x.Index ∧ okU_api_Entry x.Entry
theorem okU_mild {x : api_Msg} (h : okU_api_Msg x) (h1 : x.Have.length ≤ 2000) (h2 : x.Need.length ≤ 2000) : Mild x := by
  obtain ⟨_, _, _, _, _, _, _, _, _, _, _, _, _, _, _, _, _, _, _, _, _, g1, g2, g3⟩ := h
  exact ⟨h1, h2, by have := g1.1; omega, by have := g2.1; omega, by have := g3.1; omega⟩
theorem tells_loop {l : List (List UInt8)} (hl : l.length = 5) (hs : ∀ c ∈ l, c.length ≤ 1000) : Sat (hocketlaw12_FramTells.J4 3000 l (l.length : Int)) (fun _ => True) := by
  unfold hocketlaw12_FramTells.J4
  refine sat_loop (fun v : Int => (5 - v).toNat) (fun v => ∃ i : Nat, v = i ∧ i ≤ 5) ?_ 3000 _ ⟨0, rfl, by omega⟩ (by omega)
  rintro _ ⟨i, rfl, hi⟩ ag hag
  show Sat (hocketlaw12_FramTells.B1 3000 _ l _ ag i) _
  unfold hocketlaw12_FramTells.B1
  refine sat_if (fun hlt => ?_) (fun _ => ?_)
  · have hi5 : i < l.length := by omega
    refine sat_b (ix_get (by omega) (by simpa using hi5)) ?_
    have hc := hs l[i] (List.getElem_mem _)
    simp only [Int.toNat_natCast]
    refine sat_b (open_eq (by omega)) (sat_b (open1_eq (by omega)) ?_)
    obtain ⟨r1, r2⟩ := openM_rows l[i]
    refine sat_t rfl (sat_b (same_eq r1 r2) (sat_t (by simp) ?_))
    have hw : w64 ((i : Int) + 1) = ((i + 1 : Nat) : Int) := by rw [w64_succ (by omega) (by omega)]; simp
    rw [hw]
    exact hag _ ⟨i + 1, rfl, by omega⟩ (by omega)
  · show Sat (hocketlaw12_FramTells.J5 3000) _
    unfold hocketlaw12_FramTells.J5
    exact fin_awake
theorem hocketlaw12_FramTells.pure (x0 : api_Msg) (x1 x2 : Int) (x3 : List UInt8) (x4 : Int) (x5 : UInt8) (h0 : okU_api_Msg x0) {o1 o2 o3 o4 : Prop} (_ : o1) (_ : o2) (_ : o3) (_ : o4) : ∃ K r, hocketlaw12_FramTells.f K x0 x1 x2 x3 x4 x5 = some r := by
  refine ⟨3000, sat_pure ?_⟩
  have out : ∀ z, z = true → Sat (hocketlaw12_FramTells.J1 3000 x1 x2 x4 x0 x5 x3 z) (fun _ => True) := fun z hz => by
    subst hz
    unfold hocketlaw12_FramTells.J1
    exact sat_t rfl fin_awake
  unfold hocketlaw12_FramTells.f
  refine sat_if (fun _ => out _ rfl) (fun g1 => sat_if (fun _ => out _ rfl) (fun g2 => sat_if (fun _ => out _ rfl) (fun g3 => ?_)))
  by_cases g4 : (x0.Need.length : Int) > 20
  · exact out _ (by simpa using g4)
  rw [decide_eq_false g4]
  have hm := okU_mild h0 (by omega) (by omega)
  unfold hocketlaw12_FramTells.J1
  refine sat_f (by simp) ?_
  refine sat_bs (msg_num x1 x2) (fun m ⟨ok, hc⟩ => ?_)
  obtain ⟨r1, r2, _, _⟩ := ok_rows ok hc
  refine sat_b (wrap1_eq (by omega) (by omega)) ?_
  have e : wrapM m = sealB (wire m) := by unfold wrapM; rw [if_pos ok]
  rw [e]
  have l1 := seal_len ok
  refine sat_b (app_eq (by simp; omega)) ?_
  rw [List.nil_append]
  refine sat_t (by omega) ?_
  refine sat_b (rem_eq (by omega)) ?_
  have hb := band_lt x4 65535 16 rfl (by decide)
  have ht := tmod_nn (x := band .i64 x4 65535) (y := ((sealB (wire m)).length : Int)) hb.1 (by omega)
  generalize Int.tmod (band .i64 x4 65535) ((sealB (wire m)).length : Int) = k at ht
  refine sat_b (ix_get (by omega) (by omega)) ?_
  unfold hocketlaw12_FramTells.J2
  refine sat_b (wrap_num ok hc) (sat_t rfl (sat_b (wrap_eq hm) (sat_b (wrap1_eq (by omega) (by omega)) ?_)))
  rw [show (!(wrapM x0 == wrapM x0)) = false by simp]
  unfold hocketlaw12_FramTells.J3
  refine sat_f (by simp) (sat_b (cut_eq ⟨by omega, by omega, by omega⟩) (sat_b (app_eq (by simp; omega)) (sat_b (app_eq (by simp; omega)) ?_)))
  refine tells_loop rfl (fun c hcm => ?_)
  simp only [List.mem_cons, List.not_mem_nil, or_false] at hcm
  rcases hcm with rfl | rfl | rfl | rfl | rfl
  · omega
  · omega
  · rw [List.length_set]; omega
  · simp only [List.length_drop, List.length_take]; omega
  · simp only [List.length_append, List.length_singleton, List.length_nil]; omega
end Go.Gp
