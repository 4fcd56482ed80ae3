/- What the statements say, of the plain functions. -/
import Derived.Test.YtdfhpaojkmnnfaaDefs
import Derived.Test.YtdfhpaojkmnnfaaLe
import Derived.Test.YtdfhpaojkmnnfaaThInts
import Derived.Test.YtdfhpaojkmnnfaaThView
import Derived.Test.YtdfhpaojkmnnfaaThView2
import Derived.Test.YtdfhpaojkmnnfaaThMsg
import Derived.Test.YtdfhpaojkmnnfaaThGath
/- Layer 18: who comes together, as the document says. (Printed by gthgath2.py.) -/
namespace Go.Gp
open Go
theorem awake18 : hocketlaw18_awake.f 100 = some () := by decide +kernel
theorem same_refl {m : api_Msg} (h1 : m.Have.length < 100) (h2 : m.Need.length < 100) : hocketref11_Same.f 100 m m = some true := by
  unfold hocketref11_Same.f hocketref4_SameEntry.f
  simp only [if_true]
  rw [same_ints h1 (by omega), same_ints h2 (by omega)]
  simp
theorem nodes_id {k : Nat} (h1 : 1 ≤ k) (h7 : k ≤ 7) : nodes (k : Int) = k := by unfold nodes; simp only [mn_eq, mx_eq]; omega
@[reducible] def tR (g : gath_Gather) := (g.n, g.id, g.v, g.l, g.commit.Kind, g.commit.From, g.commit.To, g.commit.View, g.commit.Inst, g.commit.Len, g.commit.Has, g.commit.Members, g.commit.Source, g.commit.At, g.commit.Total, g.commit.Data, g.commit.Hop, g.commit.Seq, g.commit.Have, g.commit.Need, g.commit.Index, g.commit.Entry.Sess, g.commit.Entry.Seq, g.commit.Entry.Cmd.Kind, g.commit.Entry.Cmd.Who, g.commit.Entry.Cmd.Key, g.commit.Entry.Cmd.Val, g.commit.Entry.Cmd.Old, g.is, g.ready)
/-- The document's gather that is the same. -/
def toRG (g : gath_Gather) : hocketref15_Gather := ⟨g.n, g.id, g.v, g.l, g.commit, g.is, g.ready⟩
structure GP (n c m r : Nat) (g : gath_Gather) : Prop where
  gi : GI n c g
  from_ : ∀ f : Nat, f < 7 → (c.testBit f = true ↔ ∃ x ∈ g.l, x.From = f)
  mem : g.commit.Members = m
  ml : m < 128
  rdy : g.ready = r
  rl : r < 128
  sub : compN r m = 0
  off : g.is = false → m = 0 ∧ r = 0
  hv : g.commit.Have.length < 100
  nd : g.commit.Need.length < 100
theorem has_eq {n c m r : Nat} {g : gath_Gather} (h : GP n c m r g) {f : Nat} (hf : f < 7) : hocketref15_Gather_has.f 100 g.n g.id g.v g.l g.commit.Kind g.commit.From g.commit.To g.commit.View g.commit.Inst g.commit.Len g.commit.Has g.commit.Members g.commit.Source g.commit.At g.commit.Total g.commit.Data g.commit.Hop g.commit.Seq g.commit.Have g.commit.Need g.commit.Index g.commit.Entry.Sess g.commit.Entry.Seq g.commit.Entry.Cmd.Kind g.commit.Entry.Cmd.Who g.commit.Entry.Cmd.Key g.commit.Entry.Cmd.Val g.commit.Entry.Cmd.Old g.is g.ready (f : Int) = some (c.testBit f) := by
  have hl := h.gi.len
  suffices hs : Sat (hocketref15_Gather_has.L1 100 g.l (f : Int) (fun v => hocketref15_Gather_has.J1 100) 100 0) (fun b => b = c.testBit f) by
    obtain ⟨b, h1, h2⟩ := hs
    unfold hocketref15_Gather_has.f
    rw [h1, h2]
  refine sat_loop (fun v : Int => ((g.l.length : Int) - v).toNat) (fun v => ∃ i : Nat, v = i ∧ i ≤ g.l.length ∧ ∀ x ∈ g.l.take i, x.From ≠ f) ?_ 100 _ ⟨0, rfl, by omega, by simp⟩ (by omega)
  rintro j ⟨i, rfl, h2, h3⟩ ag hag
  show Sat (hocketref15_Gather_has.B1 100 g.l (f : Int) _ ag i) _
  unfold hocketref15_Gather_has.B1
  refine sat_if (fun hlt => ?_) (fun hge => ?_)
  · have hi : i < g.l.length := by omega
    refine sat_b (ix_get (by omega) (by simpa using hi)) ?_
    simp only [Int.toNat_natCast]
    refine sat_if (fun hy => sat_r ((h.from_ f hf).2 ⟨_, List.getElem_mem hi, hy⟩).symm) (fun hn => ?_)
    have hw : w64 ((i : Int) + 1) = ((i + 1 : Nat) : Int) := by rw [w64_succ (by omega) (by omega)]; simp
    rw [hw]
    refine hag _ ⟨i + 1, rfl, by omega, fun x hx => ?_⟩ (by omega)
    rw [take_snoc hi] at hx
    simp only [List.mem_append, List.mem_singleton] at hx
    rcases hx with hx | rfl
    · exact h3 x hx
    · exact hn
  · have : i = g.l.length := by omega
    subst this
    rw [List.take_length] at h3
    unfold hocketref15_Gather_has.J1
    refine sat_r ?_
    cases hb : c.testBit f with
    | false => rfl
    | true => obtain ⟨x, hx, hxf⟩ := (h.from_ f hf).1 hb; exact absurd hxf (h3 x hx)
theorem rtake_yes {n c m r : Nat} {g : gath_Gather} (h : GP n c m r g) {x : api_Msg} (k : TakeOk n c g x) : hocketref15_Gather_Take.f 100 g.n g.id g.v g.l g.commit.Kind g.commit.From g.commit.To g.commit.View g.commit.Inst g.commit.Len g.commit.Has g.commit.Members g.commit.Source g.commit.At g.commit.Total g.commit.Data g.commit.Hop g.commit.Seq g.commit.Have g.commit.Need g.commit.Index g.commit.Entry.Sess g.commit.Entry.Seq g.commit.Entry.Cmd.Kind g.commit.Entry.Cmd.Who g.commit.Entry.Cmd.Key g.commit.Entry.Cmd.Val g.commit.Entry.Cmd.Old g.is g.ready x = some (true, tR (takeG g c x)) := by
  obtain ⟨k1, k2, k3, k4, k5, k6⟩ := k
  have hl := h.gi.len
  have hn7 := h.gi.n7
  obtain ⟨f, hf⟩ : ∃ f : Nat, x.From = f := ⟨x.From.toNat, by omega⟩
  rw [hf, Int.toNat_natCast] at k6
  unfold hocketref15_Gather_Take.f
  rw [if_neg (by rw [k1]; simp), if_pos k2, if_pos k3, if_neg (by omega), if_neg (by rw [h.gi.hn]; omega), hf, has_eq h (by omega), k6]
  simp only [Option.bind_some]
  unfold hocketref15_Gather_Take.J1
  rw [if_neg (by simp), app_eq (by simp; omega)]
  simp only [Option.bind_some]
  rw [app_eq (by simp; omega)]
  rfl
theorem rtake_no {n c m r : Nat} {g : gath_Gather} (h : GP n c m r g) {x : api_Msg} (k : ¬ TakeOk n c g x) : hocketref15_Gather_Take.f 100 g.n g.id g.v g.l g.commit.Kind g.commit.From g.commit.To g.commit.View g.commit.Inst g.commit.Len g.commit.Has g.commit.Members g.commit.Source g.commit.At g.commit.Total g.commit.Data g.commit.Hop g.commit.Seq g.commit.Have g.commit.Need g.commit.Index g.commit.Entry.Sess g.commit.Entry.Seq g.commit.Entry.Cmd.Kind g.commit.Entry.Cmd.Who g.commit.Entry.Cmd.Key g.commit.Entry.Cmd.Val g.commit.Entry.Cmd.Old g.is g.ready x = some (false, tR g) := by
  have hn7 := h.gi.n7
  unfold hocketref15_Gather_Take.f hocketref15_Gather_Take.J1
  by_cases k1 : g.is = true
  · rw [if_pos k1, if_pos rfl]
  rw [if_neg k1]
  by_cases k2 : x.Kind = 2
  · rw [if_pos k2]
    by_cases k3 : x.View = g.v
    · rw [if_pos k3]
      by_cases k4 : x.From < 0
      · rw [if_pos k4, if_pos rfl]
      rw [if_neg k4]
      by_cases k5 : x.From ≥ g.n
      · rw [if_pos k5, if_pos rfl]
      rw [if_neg k5]
      obtain ⟨f, hf⟩ : ∃ f : Nat, x.From = f := ⟨x.From.toNat, by omega⟩
      have hfn : f < n := by rw [h.gi.hn, hf] at k5; omega
      rw [hf, has_eq h (by omega)]
      have : c.testBit f = true := by
        cases hb : c.testBit f with
        | true => rfl
        | false => exact absurd ⟨by simpa using k1, k2, k3, by omega, by omega, by rw [hf]; exact hb⟩ k
      rw [this]
      simp only [Option.bind_some]
      rw [if_pos trivial]
    · rw [if_neg k3, if_pos rfl]
  · rw [if_neg k2, if_pos rfl]
theorem rcommit_was {g : gath_Gather} (h : g.is = true) : hocketref15_Gather_Commit.f 100 g.n g.id g.v g.l g.commit.Kind g.commit.From g.commit.To g.commit.View g.commit.Inst g.commit.Len g.commit.Has g.commit.Members g.commit.Source g.commit.At g.commit.Total g.commit.Data g.commit.Hop g.commit.Seq g.commit.Have g.commit.Need g.commit.Index g.commit.Entry.Sess g.commit.Entry.Seq g.commit.Entry.Cmd.Kind g.commit.Entry.Cmd.Who g.commit.Entry.Cmd.Key g.commit.Entry.Cmd.Val g.commit.Entry.Cmd.Old g.is g.ready = some (g.commit, true, tR g) := by
  unfold hocketref15_Gather_Commit.f hocketref15_Gather_Commit.J1
  rw [if_pos h]
theorem rcommit_yes {g : gath_Gather} {r : Int × Int × Int × Bool} (h : g.is = false) (hr : hocketref11_Choose.f 100 g.l g.n = some r) (hy : r.2.2.2 = true) : hocketref15_Gather_Commit.f 100 g.n g.id g.v g.l g.commit.Kind g.commit.From g.commit.To g.commit.View g.commit.Inst g.commit.Len g.commit.Has g.commit.Members g.commit.Source g.commit.At g.commit.Total g.commit.Data g.commit.Hop g.commit.Seq g.commit.Have g.commit.Need g.commit.Index g.commit.Entry.Sess g.commit.Entry.Seq g.commit.Entry.Cmd.Kind g.commit.Entry.Cmd.Who g.commit.Entry.Cmd.Key g.commit.Entry.Cmd.Val g.commit.Entry.Cmd.Old g.is g.ready = some (cmsg g r, true, tR (commitG g r)) := by
  unfold hocketref15_Gather_Commit.f hocketref15_Gather_Commit.J1
  rw [if_neg (by rw [h]; simp), hr]
  simp only [Option.bind_some]
  rw [if_pos hy]
  rfl
theorem rcommit_no {g : gath_Gather} {r : Int × Int × Int × Bool} (h : g.is = false) (hr : hocketref11_Choose.f 100 g.l g.n = some r) (hy : r.2.2.2 = false) : hocketref15_Gather_Commit.f 100 g.n g.id g.v g.l g.commit.Kind g.commit.From g.commit.To g.commit.View g.commit.Inst g.commit.Len g.commit.Has g.commit.Members g.commit.Source g.commit.At g.commit.Total g.commit.Data g.commit.Hop g.commit.Seq g.commit.Have g.commit.Need g.commit.Index g.commit.Entry.Sess g.commit.Entry.Seq g.commit.Entry.Cmd.Kind g.commit.Entry.Cmd.Who g.commit.Entry.Cmd.Key g.commit.Entry.Cmd.Val g.commit.Entry.Cmd.Old g.is g.ready = some (zmsg, false, tR g) := by
  unfold hocketref15_Gather_Commit.f hocketref15_Gather_Commit.J1
  rw [if_neg (by rw [h]; simp), hr]
  simp only [Option.bind_some]
  rw [if_neg (by rw [hy]; simp)]
  rfl
theorem bit0 {c f : Nat} (hc : c < 128) (hf : f < 7) : (band .i64 (shr .i64 (c : Int) (f : Int)) 1 = 0) ↔ c.testBit f = false := by
  have h : ∀ c : Fin 128, ∀ f : Fin 7, (band .i64 (shr .i64 ((c : Nat) : Int) ((f : Nat) : Int)) 1 = 0) ↔ (c : Nat).testBit (f : Nat) = false := by decide +kernel
  exact h ⟨c, hc⟩ ⟨f, hf⟩
theorem rready_yes {n c m r : Nat} {g : gath_Gather} (h : GP n c m r g) {k : Int} (hk : ReadyOk m r g k) : hocketref15_Gather_Ready.f g.n g.id g.v g.l g.commit.Kind g.commit.From g.commit.To g.commit.View g.commit.Inst g.commit.Len g.commit.Has g.commit.Members g.commit.Source g.commit.At g.commit.Total g.commit.Data g.commit.Hop g.commit.Seq g.commit.Have g.commit.Need g.commit.Index g.commit.Entry.Sess g.commit.Entry.Seq g.commit.Entry.Cmd.Kind g.commit.Entry.Cmd.Who g.commit.Entry.Cmd.Key g.commit.Entry.Cmd.Val g.commit.Entry.Cmd.Old g.is g.ready k = some (true, tR (readyG g r k)) := by
  obtain ⟨k1, k2, k3, k4, k5⟩ := hk
  obtain ⟨q, rfl⟩ : ∃ q : Nat, k = q := ⟨k.toNat, by omega⟩
  simp only [Int.toNat_natCast] at k4 k5
  have hq : q < 7 := by omega
  have hwu : wu64 (q : Int) = q := wu_id (by omega) (by omega)
  unfold hocketref15_Gather_Ready.f hocketref15_Gather_Ready.J1
  rw [if_pos k1, if_neg (by omega), if_neg (by omega), hwu, h.mem, if_neg (fun h0 => by rw [(bit0 h.ml hq).1 h0] at k4; cases k4), h.rdy, bit_eq h.rl hq, k5, if_neg (by simp), or_bit h.rl hq, ← h.mem]
  rfl
theorem rready_no {n c m r : Nat} {g : gath_Gather} (h : GP n c m r g) {k : Int} (hk : ¬ ReadyOk m r g k) : hocketref15_Gather_Ready.f g.n g.id g.v g.l g.commit.Kind g.commit.From g.commit.To g.commit.View g.commit.Inst g.commit.Len g.commit.Has g.commit.Members g.commit.Source g.commit.At g.commit.Total g.commit.Data g.commit.Hop g.commit.Seq g.commit.Have g.commit.Need g.commit.Index g.commit.Entry.Sess g.commit.Entry.Seq g.commit.Entry.Cmd.Kind g.commit.Entry.Cmd.Who g.commit.Entry.Cmd.Key g.commit.Entry.Cmd.Val g.commit.Entry.Cmd.Old g.is g.ready k = some (false, tR g) := by
  unfold hocketref15_Gather_Ready.f hocketref15_Gather_Ready.J1
  by_cases k1 : g.is = true
  · rw [if_pos k1]
    by_cases k2 : k < 0
    · rw [if_pos k2, if_pos rfl]
    rw [if_neg k2]
    by_cases k3 : k > 6
    · rw [if_pos k3, if_pos rfl]
    rw [if_neg k3]
    obtain ⟨q, rfl⟩ : ∃ q : Nat, k = q := ⟨k.toNat, by omega⟩
    have hq : q < 7 := by omega
    have hwu : wu64 (q : Int) = q := wu_id (by omega) (by omega)
    rw [hwu, h.mem]
    by_cases k4 : band .i64 (shr .i64 (m : Int) (q : Int)) 1 = 0
    · rw [if_pos k4, if_pos rfl, ← h.mem]
    rw [if_neg k4, h.rdy, bit_eq h.rl hq]
    have : r.testBit q = true := by
      cases hb : r.testBit q with
      | true => rfl
      | false =>
        have hm : m.testBit q = true := by
          cases hc : m.testBit q with
          | true => rfl
          | false => exact absurd ((bit0 h.ml hq).2 hc) k4
        exact absurd ⟨k1, by omega, by omega, by simpa using hm, by simpa using hb⟩ hk
    rw [this, if_pos rfl, ← h.mem, ← h.rdy]
  · rw [if_neg k1, if_pos rfl]
/-- Which of the first i are not there. -/
def absL (c i : Nat) : List Int := ((List.range i).filter fun f : Nat => !c.testBit f).map fun f : Nat => (f : Int)
theorem absL_succ (c i : Nat) : absL c (i + 1) = if c.testBit i = true then absL c i else absL c i ++ [(i : Int)] := by
  unfold absL
  rw [List.range_succ, List.filter_append, List.map_append]
  by_cases h : c.testBit i = true
  · rw [if_pos h]; simp [h]
  · rw [if_neg h]; simp [h]
theorem absL_eq {n c : Nat} (hn : n ≤ 7) (hc : c < 128) : absL c n = memN (compN (2 ^ n - 1) c) := by
  have h : ∀ n : Fin 8, ∀ c : Fin 128, absL c n = memN (compN (2 ^ (n : Nat) - 1) c) := by decide +kernel
  exact h ⟨n, by omega⟩ ⟨c, hc⟩
theorem absL_len (c i : Nat) : (absL c i).length ≤ i := by
  unfold absL
  rw [List.length_map]
  exact Nat.le_trans (List.length_filter_le _ _) (by simp)
theorem rabsent_eq {n c m r : Nat} {g : gath_Gather} (h : GP n c m r g) : hocketref15_Gather_Absent.f 100 g.n g.id g.v g.l g.commit.Kind g.commit.From g.commit.To g.commit.View g.commit.Inst g.commit.Len g.commit.Has g.commit.Members g.commit.Source g.commit.At g.commit.Total g.commit.Data g.commit.Hop g.commit.Seq g.commit.Have g.commit.Need g.commit.Index g.commit.Entry.Sess g.commit.Entry.Seq g.commit.Entry.Cmd.Kind g.commit.Entry.Cmd.Who g.commit.Entry.Cmd.Key g.commit.Entry.Cmd.Val g.commit.Entry.Cmd.Old g.is g.ready = some (memN (compN (2 ^ n - 1) c)) := by
  have hn7 := h.gi.n7
  rw [← absL_eq hn7 h.gi.c7]
  suffices hs : Sat (hocketref15_Gather_Absent.f 100 g.n g.id g.v g.l g.commit.Kind g.commit.From g.commit.To g.commit.View g.commit.Inst g.commit.Len g.commit.Has g.commit.Members g.commit.Source g.commit.At g.commit.Total g.commit.Data g.commit.Hop g.commit.Seq g.commit.Have g.commit.Need g.commit.Index g.commit.Entry.Sess g.commit.Entry.Seq g.commit.Entry.Cmd.Kind g.commit.Entry.Cmd.Who g.commit.Entry.Cmd.Key g.commit.Entry.Cmd.Val g.commit.Entry.Cmd.Old g.is g.ready) (fun b => b = absL c n) by
    obtain ⟨b, h1, h2⟩ := hs
    rw [h1, h2]
  unfold hocketref15_Gather_Absent.f
  refine sat_loop (fun v : List Int × Int => (7 - v.2).toNat) (fun v => ∃ i : Nat, v.2 = i ∧ i ≤ n ∧ v.1 = absL c i) ?_ 100 _ ⟨0, rfl, by omega, by simp [absL]⟩ (by simp only; omega)
  rintro ⟨out, j⟩ ⟨i, h1, h2, h3⟩ ag hag
  simp only at h1 h2 h3
  subst h1 h3
  show Sat (hocketref15_Gather_Absent.B1 100 g.n g.id g.v g.l g.commit.Kind g.commit.From g.commit.To g.commit.View g.commit.Inst g.commit.Len g.commit.Has g.commit.Members g.commit.Source g.commit.At g.commit.Total g.commit.Data g.commit.Hop g.commit.Seq g.commit.Have g.commit.Need g.commit.Index g.commit.Entry.Sess g.commit.Entry.Seq g.commit.Entry.Cmd.Kind g.commit.Entry.Cmd.Who g.commit.Entry.Cmd.Key g.commit.Entry.Cmd.Val g.commit.Entry.Cmd.Old g.is g.ready _ ag (absL c i) i) _
  unfold hocketref15_Gather_Absent.B1
  have hw : w64 ((i : Int) + 1) = ((i + 1 : Nat) : Int) := by rw [w64_succ (by omega) (by omega)]; simp
  have hlen := absL_len c i
  refine sat_if (fun hlt => ?_) (fun hge => ?_)
  · have hi : i < n := by rw [h.gi.hn] at hlt; omega
    refine sat_b (has_eq h (by omega)) (sat_if (fun hb => ?_) (fun hb => ?_))
    · rw [hw]
      exact hag _ ⟨i + 1, rfl, by omega, by simp only; rw [absL_succ, if_pos hb]⟩ (by simp only; omega)
    · refine sat_b (app_eq (by simp only [List.length_singleton]; omega)) ?_
      rw [hw]
      exact hag _ ⟨i + 1, rfl, by omega, by simp only; rw [absL_succ, if_neg hb]⟩ (by simp only; omega)
  · have : i = n := by rw [h.gi.hn] at hge; omega
    subst this
    exact sat_r rfl
theorem runready_eq {n c m r : Nat} {g : gath_Gather} (h : GP n c m r g) : hocketref15_Gather_Unready.f 100 g.n g.id g.v g.l g.commit.Kind g.commit.From g.commit.To g.commit.View g.commit.Inst g.commit.Len g.commit.Has g.commit.Members g.commit.Source g.commit.At g.commit.Total g.commit.Data g.commit.Hop g.commit.Seq g.commit.Have g.commit.Need g.commit.Index g.commit.Entry.Sess g.commit.Entry.Seq g.commit.Entry.Cmd.Kind g.commit.Entry.Cmd.Who g.commit.Entry.Cmd.Key g.commit.Entry.Cmd.Val g.commit.Entry.Cmd.Old g.is g.ready = some (memN (compN m r)) := by
  unfold hocketref15_Gather_Unready.f
  by_cases hi : g.is = true
  · have hlt : compN m r < 128 := compN_lt h.ml
    rw [if_pos hi, h.mem, h.rdy, bandn_eq h.ml h.rl, membersr_small (by omega)]
    rfl
  · rw [if_neg hi]
    obtain ⟨rfl, rfl⟩ := h.off (by simpa using hi)
    rfl
theorem rdone_eq {n c m r : Nat} {g : gath_Gather} (h : GP n c m r g) : hocketref15_Gather_Done.f g.n g.id g.v g.l g.commit.Kind g.commit.From g.commit.To g.commit.View g.commit.Inst g.commit.Len g.commit.Has g.commit.Members g.commit.Source g.commit.At g.commit.Total g.commit.Data g.commit.Hop g.commit.Seq g.commit.Have g.commit.Need g.commit.Index g.commit.Entry.Sess g.commit.Entry.Seq g.commit.Entry.Cmd.Kind g.commit.Entry.Cmd.Who g.commit.Entry.Cmd.Key g.commit.Entry.Cmd.Val g.commit.Entry.Cmd.Old g.is g.ready = some (g.is && decide (compN m r = 0)) := by
  unfold hocketref15_Gather_Done.f
  by_cases hi : g.is = true
  · rw [if_pos hi, hi, h.rdy, h.mem, Bool.true_and]
    have hsub := h.sub
    congr 1
    by_cases he : r = m
    · subst he
      rw [hsub]
      simp
    · have hne : ((r : Int) == (m : Int)) = false := by simp; omega
      rw [hne]
      symm
      refine decide_eq_false (fun h0 => he ?_)
      apply Nat.eq_of_testBit_eq
      intro q
      by_cases hq : q < 7
      · have e1 := compN_bit (m := m) (c := r) hq
        have e2 := compN_bit (m := r) (c := m) hq
        rw [h0] at e1
        rw [hsub] at e2
        simp only [Nat.zero_testBit] at e1 e2
        cases h1 : r.testBit q with
        | true =>
          cases h2 : m.testBit q with
          | true => rfl
          | false => rw [h1, h2] at e2; simp at e2
        | false =>
          cases h2 : m.testBit q with
          | true => rw [h1, h2] at e1; simp at e1
          | false => rfl
      · have hp : 2 ^ 7 ≤ 2 ^ q := Nat.pow_le_pow_right (by decide) (by omega)
        rw [Nat.testBit_lt_two_pow (Nat.lt_of_lt_of_le h.rl hp), Nat.testBit_lt_two_pow (Nat.lt_of_lt_of_le h.ml hp)]
  · rw [if_neg hi]
    simp only [Bool.not_eq_true] at hi
    rw [hi]
    rfl
theorem firsts_lt {n : Nat} (hn : n ≤ 7) {l : List api_Msg} (hl : l.length < 100) : (firstsF n l).2 < 128 :=
  Nat.lt_of_lt_of_le (firstsF_inv n l (by omega)).lt (Nat.pow_le_pow_right (by decide) hn : 2 ^ n ≤ 2 ^ 7)
theorem compN_self0 (m : Nat) : compN 0 m = 0 := by unfold compN; simp
theorem gnew_eq {k i : Nat} {x : Int} (hk : mn (mx x 1) 7 = k) (hi : i < k) (hn : k ≤ 7) (v : Int) (own : api_Msg) : gath_New.f x (i : Int) v own = some (tG (newG k i v own)) := by
  unfold gath_New.f
  rw [hk, w64_id (by omega)]
  have e2 : mn (mx (i : Int) 0) ((k : Int) - 1) = i := by simp only [mn_eq, mx_eq]; omega
  rw [e2, must_eq (by omega)]
  simp only [Option.bind_some]
  rw [shl_bit (by omega)]
  rfl
theorem hocketlaw18_GathPlays.pure (n id : Int) (own : api_Msg) (acts : List Int) (raw : List api_Msg) {o0 o1 o2 : Prop} (_ : o0) (_ : o1) (_ : o2) (_h3 : acts.length ≤ 140737488351232 ∧ ∀ x ∈ acts, i64ok x) (_h4 : raw.length ≤ 140737488351232 ∧ ∀ x ∈ raw, ok_api_Msg x) : ∃ K r, hocketlaw18_GathPlays.f K n id own acts raw = some r := by
  refine ⟨100, sat_pure ?_⟩
  have h7 := band_lt n 7 3 rfl (by decide)
  have hb : band .i64 id 255 = id % 256 := band_m id 255 8 rfl (by decide)
  obtain ⟨k, hk, hk1, hk7⟩ : ∃ k : Nat, mn (mx (band .i64 n 7) 1) 7 = k ∧ 1 ≤ k ∧ k ≤ 7 := ⟨(mn (mx (band .i64 n 7) 1) 7).toNat, by rw [mn_eq, mx_eq]; omega, by rw [mn_eq, mx_eq]; omega, by rw [mn_eq, mx_eq]; omega⟩
  have hmx : mx (band .i64 n 7) 1 = (k : Int) := by rw [← hk]; rw [mn_eq, mx_eq]; omega
  have ht := tmod_nn (x := id % 256) (y := (k : Int)) (by omega) (by omega)
  obtain ⟨q, hq⟩ : ∃ q : Nat, (id % 256).tmod (k : Int) = q := ⟨((id % 256).tmod (k : Int)).toNat, by omega⟩
  unfold hocketlaw18_GathPlays.f
  rw [w64_id (n := band .i64 n 7 + 0) (by omega), Int.add_zero, hmx]
  refine sat_b (rem_eq (by omega)) ?_
  rw [hb, hq]
  refine sat_b (gnew_eq hk (by omega) hk7 9 _) ?_
  refine sat_b (v := tR (newG k q 9 ⟨2, (q : Int), own.To, 9, own.Inst, own.Len, own.Has, own.Members, own.Source, own.At, own.Total, own.Data, own.Hop, own.Seq, own.Have, own.Need, own.Index, own.Entry⟩)) (by unfold hocketref15_New.f; rw [hk]; rfl) ?_
  obtain ⟨g0, hg0⟩ : ∃ g0, g0 = newG k q 9 ⟨2, (q : Int), own.To, 9, own.Inst, own.Len, own.Has, own.Members, own.Source, own.At, own.Total, own.Data, own.Hop, own.Seq, own.Have, own.Need, own.Index, own.Entry⟩ := ⟨_, rfl⟩
  have hGP0 : GP k (2 ^ q) 0 0 g0 := by
    rw [hg0]
    refine ⟨GI.new (by omega) hk7 9 _, fun f hf => ?_, rfl, by decide, rfl, by decide, rfl, fun _ => ⟨rfl, rfl⟩, by simp [newG, zmsg], by simp [newG, zmsg]⟩
    rw [Nat.testBit_two_pow]
    simp only [newG, List.mem_singleton, decide_eq_true_eq]
    constructor
    · intro h; exact ⟨_, rfl, by simp only; omega⟩
    · rintro ⟨x, rfl, hx⟩; simp only at hx; omega
  rw [← hg0]
  have hl0 : g0.l.length = 1 := by rw [hg0]; rfl
  refine sat_loop (fun v : Int × gath_Gather × hocketref15_Gather => (40 - v.1).toNat) (fun v => 0 ≤ v.1 ∧ v.1 ≤ 40 ∧ v.2.2 = toRG v.2.1 ∧ (v.2.1.l.length : Int) ≤ v.1 + 1 ∧ ∃ c m r : Nat, GP k c m r v.2.1) ?_ 100 (0, g0, toRG g0) ⟨by simp, by simp, rfl, by simp only; omega, _, _, _, hGP0⟩ (by simp only; omega)
  rintro ⟨i, g, w⟩ ⟨h0, h1, hw, hl, c, m, r, hG⟩ ag hag
  simp only at h0 h1 hw hl hG
  subst hw
  show Sat (hocketlaw18_GathPlays.B1 100 acts raw _ ag i g (toRG g)) _
  unfold hocketlaw18_GathPlays.B1
  have fin : Sat (hocketlaw18_GathPlays.J1 100) (fun _ => True) := by
    unfold hocketlaw18_GathPlays.J1
    exact sat_b awake18 (sat_r trivial)
  have hw1 : i < 40 → w64 (i + 1) = i + 1 := fun _ => w64_id (by omega)
  have three : i < 40 → ∀ (g' : gath_Gather) (c' m' r' : Nat), GP k c' m' r' g' → (g'.l.length : Int) ≤ i + 2 → Sat (hocketlaw18_GathPlays.J3 100 ag i g' (toRG g')) (fun _ => True) := fun hi g' c' m' r' hG' hl' => by
    unfold hocketlaw18_GathPlays.J3
    have hp7 : 2 ^ k ≤ 2 ^ 7 := Nat.pow_le_pow_right (by decide) hk7
    have hcl : compN (2 ^ k - 1) c' < 128 := compN_lt (by omega)
    have hml := memN_len hcl
    have hml2 := memN_len (m := compN m' r') (compN_lt hG'.ml)
    refine sat_b (absent_eq hG'.gi) (sat_b (rabsent_eq hG') (sat_b (same_ints (by omega) (by omega)) (sat_t (by simp) (sat_b (all_eq hG'.gi) (sat_b (rabsent_eq hG') ?_)))))
    have hz := memN_nil hcl
    refine sat_t ?_ ?_
    · by_cases hzz : compN (2 ^ k - 1) c' = 0
      · rw [decide_eq_true hzz, hz.2 hzz]; rfl
      · rw [decide_eq_false hzz]
        have : (memN (compN (2 ^ k - 1) c')).length ≠ 0 := fun h => hzz (hz.1 h)
        symm
        simp only [beq_eq_false_iff_ne, ne_eq]
        omega
    · refine sat_b (unready_eq hG'.ml hG'.rl hG'.mem hG'.rdy) (sat_b (runready_eq hG') (sat_b (same_ints (by omega) (by omega)) (sat_t (by simp) (sat_b (done_eq hG'.ml hG'.rl hG'.mem hG'.rdy) (sat_b (rdone_eq hG') ?_)))))
      unfold hocketlaw18_GathPlays.J4
      refine sat_f (by simp) ?_
      rw [hw1 hi]
      exact hag (_, g', toRG g') ⟨by simp only; omega, by simp only; omega, rfl, by simp only; omega, c', m', r', hG'⟩ (by simp only; omega)
  have eight : i < 40 → ∀ x : api_Msg, Sat (hocketlaw18_GathPlays.J8 100 g (toRG g) ag i x) (fun _ => True) := fun hi x => by
    unfold hocketlaw18_GathPlays.J8
    by_cases hto : TakeOk k c g x
    · refine sat_b (take_yes hG.gi hto) (sat_b (rtake_yes hG hto) (sat_t rfl ?_))
      have hgt := hG.gi.take hto (by omega)
      obtain ⟨z1, _, _, z4, z5, z6⟩ := hto
      refine three hi (takeG g c x) _ m r ⟨hgt, fun f hf => ?_, hG.mem, hG.ml, hG.rdy, hG.rl, hG.sub, hG.off, hG.hv, hG.nd⟩ (by unfold takeG; simp only [List.length_append, List.length_singleton]; omega)
      rw [testBit_or_pow]
      simp only [takeG, List.mem_append, List.mem_singleton, Bool.or_eq_true, decide_eq_true_eq]
      rw [hG.from_ f hf]
      constructor
      · rintro (⟨y, hy, hyf⟩ | hf')
        · exact ⟨y, .inl hy, hyf⟩
        · exact ⟨x, .inr rfl, by omega⟩
      · rintro ⟨y, hy | rfl, hyf⟩
        · exact .inl ⟨y, hy, hyf⟩
        · exact .inr (by omega)
    · refine sat_b (take_no hG.gi hto) (sat_b (rtake_no hG hto) (sat_t rfl ?_))
      exact three hi g c m r hG (by omega)
  refine sat_if (fun hlt => ?_) (fun _ => by unfold hocketlaw18_GathPlays.J2; exact sat_f (by simp) fin)
  by_cases hi : i < 40
  · rw [decide_eq_true hi]
    unfold hocketlaw18_GathPlays.J2
    obtain ⟨t, htt⟩ : ∃ t, ix acts i = some t := ⟨_, ix_get h0 (by omega)⟩
    refine sat_t rfl (sat_b htt ?_)
    have five : ∀ b : Bool, Sat (hocketlaw18_GathPlays.J5 100 acts i raw g (toRG g) ag t b) (fun _ => True) := fun b => by
      unfold hocketlaw18_GathPlays.J5
      refine sat_if (fun _ => ?_) (fun _ => ?_)
      · refine sat_b htt (sat_b htt (sat_bs (msg_ok _ _) (fun msg _ => ?_)))
        unfold hocketlaw18_GathPlays.J6
        refine sat_b htt (sat_b htt (sat_b htt ?_))
        have seven : ∀ b : Bool, (b = true → i < (raw.length : Int)) → Sat (hocketlaw18_GathPlays.J7 100 raw i g (toRG g) ag msg t t b) (fun _ => True) := fun b hb => by
          unfold hocketlaw18_GathPlays.J7
          refine sat_if (fun hy => ?_) (fun _ => eight hi _)
          exact sat_b (ix_get h0 (by have := hb hy; omega)) (eight hi _)
        exact sat_if (fun _ => seven _ (fun h => of_decide_eq_true h)) (fun _ => seven false (fun h => by cases h))
      refine sat_if (fun _ => ?_) (fun _ => ?_)
      · rcases Bool.eq_false_or_eq_true g.is with his | his
        · refine sat_b (commit_was his) (sat_b (rcommit_was his) (sat_t rfl (sat_b (same_refl hG.hv hG.nd) (sat_t rfl (three hi g c m r hG (by omega))))))
        · have hlen := hG.gi.len
          obtain ⟨x, x1, x2⟩ := choose_eq (K := 100) (l := g.l) (by omega) (by omega) g.n
          obtain ⟨y, y1, y2⟩ := chooser_eq (l := g.l) (by omega) g.n
          have hxy := x2.eq y2
          subst hxy
          rw [hG.gi.hn, nodes_id hk1 hk7] at x2
          obtain ⟨hm0, hr0⟩ := hG.off his
          rcases x2 with ⟨x2, _⟩ | ⟨b, _, x3, _⟩
          · refine sat_b (commit_no his x1 (by rw [x2])) (sat_b (rcommit_no his y1 (by rw [x2])) (sat_t rfl (sat_b (same_refl (by simp [zmsg]) (by simp [zmsg])) (sat_t rfl (three hi g c m r hG (by omega))))))
          · refine sat_b (commit_yes his x1 (by rw [x3])) (sat_b (rcommit_yes his y1 (by rw [x3])) (sat_t rfl (sat_b (same_refl (by simp [cmsg]) (by simp [cmsg])) (sat_t rfl (three hi (commitG g x) c (firstsF k g.l).2 r ?_ (by show (g.l.length : Int) ≤ i + 2; omega))))))
            exact ⟨⟨hk1, hk7, hG.gi.hn, hG.gi.hc, hG.gi.lt, hG.gi.len⟩, hG.from_, by rw [x3]; rfl, firsts_lt hk7 (by omega), hG.rdy, hG.rl, by rw [hr0]; exact compN_self0 _, fun h => (by cases h), by simp [commitG, cmsg], by simp [commitG, cmsg]⟩
      · refine sat_b htt ?_
        obtain ⟨z, hz⟩ : ∃ z, w64 ((band .i64 (shr .i64 t 3) 15) - 3) = z := ⟨_, rfl⟩
        rw [hz]
        by_cases hro : ReadyOk m r g z
        · refine sat_b (ready_yes hG.ml hG.rl hG.mem hG.rdy hro) (sat_b (rready_yes hG hro) (sat_t rfl ?_))
          obtain ⟨k1, k2, k3, k4, k5⟩ := hro
          refine three hi (readyG g r z) c m (r ||| 2 ^ z.toNat) ⟨⟨hk1, hk7, hG.gi.hn, hG.gi.hc, hG.gi.lt, hG.gi.len⟩, hG.from_, hG.mem, hG.ml, rfl, or_lt (n := 7) hG.rl (by omega), ?_, fun h => (by rw [show (readyG g r z).is = g.is from rfl, k1] at h; cases h), hG.hv, hG.nd⟩ (by show (g.l.length : Int) ≤ i + 2; omega)
          apply Nat.eq_of_testBit_eq
          intro p
          rw [Nat.zero_testBit]
          by_cases hp : p < 7
          · have e := compN_bit (m := r) (c := m) hp
            rw [hG.sub, Nat.zero_testBit] at e
            rw [compN_bit hp, testBit_or_pow]
            by_cases hpz : z.toNat = p
            · subst hpz; rw [k4]; simp
            · simp only [hpz, decide_false, Bool.or_false]
              exact e.symm
          · have hp7 : 2 ^ 7 ≤ 2 ^ p := Nat.pow_le_pow_right (by decide) (by omega)
            exact Nat.testBit_lt_two_pow (Nat.lt_of_lt_of_le (compN_lt (or_lt (n := 7) hG.rl (by omega))) hp7)
        · refine sat_b (ready_no hG.ml hG.rl hG.mem hG.rdy hro) (sat_b (rready_no hG hro) (sat_t rfl (three hi g c m r hG (by omega))))
    exact sat_if (fun _ => five _) (fun _ => sat_if (fun _ => five _) (fun _ => sat_if (fun _ => five _) (fun _ => five _)))
  · rw [decide_eq_false hi]
    unfold hocketlaw18_GathPlays.J2
    exact sat_f (by simp) fin
end Go.Gp
